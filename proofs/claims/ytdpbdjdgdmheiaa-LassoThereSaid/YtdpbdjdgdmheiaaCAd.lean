/- Words and facts that the claim's proof leans on. No condition. -/
import Derived.Test.YtdpbdjdgdmheiaaHxK
import Derived.Test.YtdpbdjdgdmheiaaChecked
set_option maxRecDepth 100000
set_option linter.unusedVariables false
namespace Go.Proofs.Ytdpbdjdgdmheiaa
open Go.Hx
/-! 29: trestle/trestlebook.SameTrace -/
def loops29 : List (List (Nat × Shp)) := [[(5, .int .i64)]]
noncomputable def code29 : SCode := ((compF Try.prog Try.f29 loops29).elim .skip fun x => x.2.2)
def ret29 : List RV := [.tmp 4]
theorem comp29 : compF Try.prog Try.f29 loops29 = some (47, ret29, code29) := by kernel_rfl
def J29_2  (P : Program) (R : Value → Heap → Prop) (h h_ : Heap) (i : Int) (next_ : (Int → Heap → Prop)) (h_5 : Heap) : Prop :=
 ∃ (A5 : Option Addr) (N5 C5 : Nat), cellH h_5 (Addr.add ⟨h.size, 0, none⟩ 1) = some (.slice A5 N5 C5) ∧ 0 ≤ i ∧ i < (N5 : Nat) ∧ AtP A5 fun ad => ∃ (A6 : Option Addr) (N6 C6 : Nat), cellH h_5 (Addr.add ad (Int.toNat i * 1)) = some (.slice A6 N6 C6) ∧ ∃ (A7 : Option Addr) (N7 C7 : Nat), cellH h_5 (Addr.add ⟨h_.size, 0, none⟩ 1) = some (.slice A7 N7 C7) ∧ 0 ≤ i ∧ i < (N7 : Nat) ∧ AtP A7 fun ad1 => ∃ (A8 : Option Addr) (N8 C8 : Nat), cellH h_5 (Addr.add ad1 (Int.toNat i * 1)) = some (.slice A8 N8 C8) ∧ CallsH P 54 #[.slice A6 N6 C6, .slice A8 N8 C8] h_5 fun v1 h_6 =>
 ∃ (t3 : Bool), v1 = (.bool t3) ∧ BIf (!t3) (R (.bool false) h_6) (next_ (IntKind.wrap .i64 (i + 1)) h_6)
def J29_1  (R : Value → Heap → Prop) (h_7 : Heap) : Prop :=
 R (.bool true) h_7
def B29_3 (P : Program) (R : Value → Heap → Prop) (h h_ : Heap) (i : Int) (h_4 : Heap) (next_ : Int → Heap → Prop) : Prop :=
 ∃ (A4 : Option Addr) (N4 C4 : Nat), cellH h_4 (Addr.add ⟨h.size, 0, none⟩ 1) = some (.slice A4 N4 C4) ∧ PIf (i < ((N4 : Nat) : Int))
 (J29_2 P R h h_ i next_ h_4)
 (J29_1 R h_4)
def J29_0  (P : Program) (R : Value → Heap → Prop) (h h_ h_3 : Heap) : Prop :=
 LoopT (σ := Int) (fun st_ h_st nx_st => B29_3 P R h h_ (st_) h_st nx_st) (0) h_3
def VC29 (P : Program) (aA : Option Addr) (aN aC : Nat) (aA1 : Option Addr) (aN1 aC1 : Nat) (a : Int) (bA : Option Addr) (bN bC : Nat) (bA1 : Option Addr) (bN1 bC1 : Nat) (b : Int) (R : Value → Heap → Prop) (h : Heap) : Prop :=
 let h_ : Heap := (h).push (.cells (Value.cells (.agg #[.slice aA aN aC, .slice aA1 aN1 aC1, .int .i64 a])) 53); let h_1 : Heap := (h_).push (.cells (Value.cells (.agg #[.slice bA bN bC, .slice bA1 bN1 bC1, .int .i64 b])) 53); ∃ (t : Int), cellH h_1 (Addr.add ⟨h.size, 0, none⟩ 2) = some (.int .i64 t) ∧ ∃ (t1 : Int), cellH h_1 (Addr.add ⟨h_.size, 0, none⟩ 2) = some (.int .i64 t1) ∧ PIf (t = t1)
 (∃ (A : Option Addr) (N C : Nat), cellH h_1 (Addr.add ⟨h.size, 0, none⟩ 0) = some (.slice A N C) ∧ ∃ (A1 : Option Addr) (N1 C1 : Nat), cellH h_1 (Addr.add ⟨h_.size, 0, none⟩ 0) = some (.slice A1 N1 C1) ∧ CallsH P 54 #[.slice A N C, .slice A1 N1 C1] h_1 fun v h_2 =>
 ∃ (t2 : Bool), v = (.bool t2) ∧ BIf (!t2) (R (.bool false) h_2) (∃ (A2 : Option Addr) (N2 C2 : Nat), cellH h_2 (Addr.add ⟨h.size, 0, none⟩ 1) = some (.slice A2 N2 C2) ∧ ∃ (A3 : Option Addr) (N3 C3 : Nat), cellH h_2 (Addr.add ⟨h_.size, 0, none⟩ 1) = some (.slice A3 N3 C3) ∧ PIf ((((N2 : Nat) : Int) : Int) = ((N3 : Nat) : Int))
 (J29_0 P R h h_ h_2)
 (R (.bool false) h_2)))
 (R (.bool false) h_1)
theorem vc29 (P : Program) (aA : Option Addr) (aN aC : Nat) (aA1 : Option Addr) (aN1 aC1 : Nat) (a : Int) (bA : Option Addr) (bN bC : Nat) (bA1 : Option Addr) (bN1 bC1 : Nat) (b : Int) (R : Value → Heap → Prop) (h : Heap) : fnC P ret29 code29 [(.agg #[.slice aA aN aC, .slice aA1 aN1 aC1, .int .i64 a]), (.agg #[.slice bA bN bC, .slice bA1 bN1 bC1, .int .i64 b])] h R = VC29 P aA aN aC aA1 aN1 aC1 a bA bN bC bA1 bN1 bC1 b R h := by kernel_rfl
theorem run29 (aA : Option Addr) (aN aC : Nat) (aA1 : Option Addr) (aN1 aC1 : Nat) (a : Int) (bA : Option Addr) (bN bC : Nat) (bA1 : Option Addr) (bN1 bC1 : Nat) (b : Int) (R : Value → Heap → Prop) (h : Heap) (hv : VC29 Try.prog aA aN aC aA1 aN1 aC1 a bA bN bC bA1 bN1 bC1 b R h) : CallsH Try.prog 29 #[(.agg #[.slice aA aN aC, .slice aA1 aN1 aC1, .int .i64 a]), (.agg #[.slice bA bN bC, .slice bA1 bN1 bC1, .int .i64 b])] h R := calls_of_fnC (Checked.mixed Try.checked) Try.func29 comp29 (Nat.le_of_ble_eq_true rfl) (by rw [vc29]; exact hv)
/-! 54: trestle/trestlebook.SameBools -/
def loops54 : List (List (Nat × Shp)) := [[(5, .int .i64)]]
noncomputable def code54 : SCode := ((compF Try.prog Try.f54 loops54).elim .skip fun x => x.2.2)
def ret54 : List RV := [.tmp 4]
theorem comp54 : compF Try.prog Try.f54 loops54 = some (26, ret54, code54) := by kernel_rfl
def J54_2  (R : Value → Heap → Prop) (aA : (Option Addr)) (aN : Nat) (bA : (Option Addr)) (bN : Nat) (i : Int) (next_ : (Int → Heap → Prop)) (h_2 : Heap) : Prop :=
 0 ≤ i ∧ i < (aN : Nat) ∧ AtP aA fun ad => ∃ (t : Bool), cellH h_2 (Addr.add ad (Int.toNat i * 1)) = some (.bool t) ∧ 0 ≤ i ∧ i < (bN : Nat) ∧ AtP bA fun ad1 => ∃ (t1 : Bool), cellH h_2 (Addr.add ad1 (Int.toNat i * 1)) = some (.bool t1) ∧ PIf ((t : Bool) = t1)
 (next_ (IntKind.wrap .i64 (i + 1)) h_2)
 (R (.bool false) h_2)
def J54_1  (R : Value → Heap → Prop) (h_3 : Heap) : Prop :=
 R (.bool true) h_3
def B54_3 (R : Value → Heap → Prop) (aA : (Option Addr)) (aN : Nat) (bA : (Option Addr)) (bN : Nat) (i : Int) (h_1 : Heap) (next_ : Int → Heap → Prop) : Prop :=
 PIf (i < ((aN : Nat) : Int))
 (J54_2 R aA aN bA bN i next_ h_1)
 (J54_1 R h_1)
def J54_0  (R : Value → Heap → Prop) (aA : (Option Addr)) (aN : Nat) (bA : (Option Addr)) (bN : Nat) (h_ : Heap) : Prop :=
 LoopT (σ := Int) (fun st_ h_st nx_st => B54_3 R aA aN bA bN (st_) h_st nx_st) (0) h_
def VC54 (P : Program) (aA : Option Addr) (aN aC : Nat) (bA : Option Addr) (bN bC : Nat) (R : Value → Heap → Prop) (h : Heap) : Prop :=
 PIf ((((aN : Nat) : Int) : Int) = ((bN : Nat) : Int))
 (J54_0 R aA aN bA bN h)
 (R (.bool false) h)
theorem vc54 (P : Program) (aA : Option Addr) (aN aC : Nat) (bA : Option Addr) (bN bC : Nat) (R : Value → Heap → Prop) (h : Heap) : fnC P ret54 code54 [.slice aA aN aC, .slice bA bN bC] h R = VC54 P aA aN aC bA bN bC R h := by kernel_rfl
theorem run54 (aA : Option Addr) (aN aC : Nat) (bA : Option Addr) (bN bC : Nat) (R : Value → Heap → Prop) (h : Heap) (hv : VC54 Try.prog aA aN aC bA bN bC R h) : CallsH Try.prog 54 #[.slice aA aN aC, .slice bA bN bC] h R := calls_of_fnC (Checked.mixed Try.checked) Try.func54 comp54 (Nat.le_of_ble_eq_true rfl) (by rw [vc54]; exact hv)
/-! 51: slices.Clone[[]bool,bool] -/
def loops51 : List (List (Nat × Shp)) := []
noncomputable def code51 : SCode := ((compF Try.prog Try.f51 loops51).elim .skip fun x => x.2.2)
def ret51 : List RV := [.tmp 2]
theorem comp51 : compF Try.prog Try.f51 loops51 = some (8, ret51, code51) := by kernel_rfl
def VC51 (P : Program) (sA : Option Addr) (sN sC : Nat) (R : Value → Heap → Prop) (h : Heap) : Prop :=
 PIf ((sA : Option Addr) = none)
 (R (.slice none 0 0) h)
 (let h_ : Heap := (h).push (.cells #[] 4); ∃ ys : List Value, ReadL h_ sA ys ∧ ys.length = sN * 1 ∧ AppS h_ (some ⟨h.size, 0, none⟩) 0 0 4 1 1 #[.bool false] ys sN fun apA apN apC h_1 => R (.slice apA apN apC) h_1)
theorem vc51 (P : Program) (sA : Option Addr) (sN sC : Nat) (R : Value → Heap → Prop) (h : Heap) : fnC P ret51 code51 [.slice sA sN sC] h R = VC51 P sA sN sC R h := by kernel_rfl
theorem run51 (sA : Option Addr) (sN sC : Nat) (R : Value → Heap → Prop) (h : Heap) (hv : VC51 Try.prog sA sN sC R h) : CallsH Try.prog 51 #[.slice sA sN sC] h R := calls_of_fnC (Checked.mixed Try.checked) Try.func51 comp51 (Nat.le_of_ble_eq_true rfl) (by rw [vc51]; exact hv)
end Go.Proofs.Ytdpbdjdgdmheiaa
