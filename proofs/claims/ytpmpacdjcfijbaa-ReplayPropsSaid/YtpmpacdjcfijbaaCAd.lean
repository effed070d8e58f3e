/- Words and facts that the claim's proof leans on. No condition. -/
import Derived.Test.YtpmpacdjcfijbaaHxK
import Derived.Test.YtpmpacdjcfijbaaChecked
set_option maxRecDepth 100000
set_option linter.unusedVariables false
namespace Go.Proofs.Ytpmpacdjcfijbaa
open Go.Hx

/-! 14: trestle/trestlebook.CopyTrace -/
def loops14 : List (List (Nat × Shp)) := [[(4, .int .i64)]]
noncomputable def code14 : SCode := ((compF Try.prog Try.f14 loops14).elim .skip fun x => x.2.2)
def ret14 : List RV := [.cellN 2 [.slice, .slice, .int .i64]]
theorem comp14 : compF Try.prog Try.f14 loops14 = some (32, ret14, code14) := by kernel_rfl
def J14_1  (h : Heap) (b1 : Nat) (i : Int) (next_ : (Int → Heap → Prop)) (h_9 : Heap) : Prop :=
 ∃ zn : Zone, Zone.hasL zn h_9 (Addr.add (Addr.mk b1 0 none) 1) ∧ ∃ (A2 : Option Addr) (N2 C2 : Nat), cellH h_9 (Addr.add (Addr.mk b1 0 none) 1) = some (.slice A2 N2 C2) ∧ let h_10 : Heap := (h_9).push (.cells #[] 4); Zone.r zn h_9 h_10 ∧ Zone.hasL zn h_10 (Addr.add ⟨h.size, 0, none⟩ 1) ∧ ∃ (A3 : Option Addr) (N3 C3 : Nat), cellH h_10 (Addr.add ⟨h.size, 0, none⟩ 1) = some (.slice A3 N3 C3) ∧ 0 ≤ i ∧ i < (N3 : Nat) ∧ AtP A3 fun ad => Zone.hasL zn h_10 (Addr.add ad (Int.toNat i * 1)) ∧ ∃ (A4 : Option Addr) (N4 C4 : Nat), cellH h_10 (Addr.add ad (Int.toNat i * 1)) = some (.slice A4 N4 C4) ∧ ∃ ys1 : List Value, ReadL h_10 A4 ys1 ∧ ys1.length = N4 * 1 ∧ AppS h_10 (some ⟨h_9.size, 0, none⟩) 0 0 4 1 1 #[.bool false] ys1 N4 fun apA1 apN1 apC1 h_11 => Zone.r zn h_10 h_11 ∧ let h_12 : Heap := (h_11).push (.cells #[.slice apA1 apN1 apC1] 32); Zone.r zn h_11 h_12 ∧ ∃ ys2 : List Value, ReadL h_12 (some ⟨h_11.size, 0, none⟩) ys2 ∧ ys2.length = 1 * 1 ∧ AppS h_12 A2 N2 C2 32 24 1 #[.slice none 0 0] ys2 1 fun apA2 apN2 apC2 h_13 => Zone.r zn h_12 h_13 ∧ StoreH h_13 (Addr.add (Addr.mk b1 0 none) 1) [.slice apA2 apN2 apC2] fun h_14 => next_ (IntKind.wrap .i64 (i + 1)) h_14
def J14_0  (R : Value → Heap → Prop) (h_ : Heap) (b1 : Nat) (h_15 : Heap) : Prop :=
 ∃ (A5 : Option Addr) (N5 C5 : Nat) (A6 : Option Addr) (N6 C6 : Nat) (t2 : Int), cellsH h_15 (Addr.mk b1 0 none) 0 [.slice A5 N5 C5, .slice A6 N6 C6, .int .i64 t2] ∧ StoreH h_15 ⟨h_.size, 0, none⟩ [.slice A5 N5 C5, .slice A6 N6 C6, .int .i64 t2] fun h_16 => ∃ (A7 : Option Addr) (N7 C7 : Nat) (A8 : Option Addr) (N8 C8 : Nat) (t3 : Int), cellsH h_16 ⟨h_.size, 0, none⟩ 0 [.slice A7 N7 C7, .slice A8 N8 C8, .int .i64 t3] ∧ R (.agg #[.slice A7 N7 C7, .slice A8 N8 C8, .int .i64 t3]) h_16
def B14_2 (R : Value → Heap → Prop) (h h_ : Heap) (b1 : Nat) (i : Int) (h_8 : Heap) (next_ : Int → Heap → Prop) : Prop :=
 ∃ (A1 : Option Addr) (N1 C1 : Nat), cellH h_8 (Addr.add ⟨h.size, 0, none⟩ 1) = some (.slice A1 N1 C1) ∧ PIf (i < ((N1 : Nat) : Int))
 (J14_1 h b1 i next_ h_8)
 (J14_0 R h_ b1 h_8)
def VC14 (P : Program) (tA : Option Addr) (tN tC : Nat) (tA1 : Option Addr) (tN1 tC1 : Nat) (t : Int) (R : Value → Heap → Prop) (h : Heap) : Prop :=
 let h_ : Heap := (h).push (.cells (Value.cells (.agg #[.slice tA tN tC, .slice tA1 tN1 tC1, .int .i64 t])) 35); let h_1 : Heap := (h_).push (.cells #[.slice none 0 0, .slice none 0 0, .int .i64 0] 35); ∀ (U : Nat → Prop) (h_2 : Heap) (b : Nat), GrowH none' h_1 U h_2 → U b → (h_2)[b]? = some (Obj.cells #[] 4) → (Addr.block (Addr.add ⟨h.size, 0, none⟩ 0)) < (h_1).size ∧ ∃ (A : Option Addr) (N C : Nat), cellH h_2 (Addr.add ⟨h.size, 0, none⟩ 0) = some (.slice A N C) ∧ ∀ (U1 : Nat → Prop) (h_3 : Heap), GrowH (minus U b) h_2 U1 h_3 → ∃ ys : List Value, ReadL h_3 A ys ∧ ys.length = N * 1 ∧ AppS h_3 (some (Addr.mk b 0 none)) 0 0 4 1 1 #[.bool false] ys N fun apA apN apC h_4 => Keeps (h_1).size U1 h_3 h_4 ∧ (Addr.block (Addr.add ⟨h.size, 0, none⟩ 2)) < (h_1).size ∧ ∃ (t1 : Int), cellH h_4 (Addr.add ⟨h.size, 0, none⟩ 2) = some (.int .i64 t1) ∧ ∀ (U2 : Nat → Prop) (h_5 : Heap) (b1 : Nat), GrowH U1 h_4 U2 h_5 → U2 b1 → (h_5)[b1]? = some (Obj.cells #[.slice none 0 0, .slice none 0 0, .int .i64 0] 35) → ∀ (U3 : Nat → Prop) (h_6 : Heap), GrowH (minus U2 b1) h_5 U3 h_6 → StoreH h_6 (Addr.mk b1 0 none) [.slice apA apN apC, .slice none 0 0, .int .i64 t1] fun h_7 => (h_6).size ≤ (h_7).size ∧ LoopT (σ := Int) (fun st_ h_st nx_st => B14_2 R h h_ b1 (st_) h_st nx_st) (0) h_7
theorem vc14 (P : Program) (tA : Option Addr) (tN tC : Nat) (tA1 : Option Addr) (tN1 tC1 : Nat) (t : Int) (R : Value → Heap → Prop) (h : Heap) : fnC P ret14 code14 [(.agg #[.slice tA tN tC, .slice tA1 tN1 tC1, .int .i64 t])] h R = VC14 P tA tN tC tA1 tN1 tC1 t R h := by kernel_rfl
theorem run14 (tA : Option Addr) (tN tC : Nat) (tA1 : Option Addr) (tN1 tC1 : Nat) (t : Int) (R : Value → Heap → Prop) (h : Heap) (hv : VC14 Try.prog tA tN tC tA1 tN1 tC1 t R h) : CallsH Try.prog 14 #[(.agg #[.slice tA tN tC, .slice tA1 tN1 tC1, .int .i64 t])] h R := calls_of_fnC (Checked.mixed Try.checked) Try.func14 comp14 (Nat.le_of_ble_eq_true rfl) (by rw [vc14]; exact hv)

/-! 22: trestle/trestlebook.SameTrace -/
def loops22 : List (List (Nat × Shp)) := [[(5, .int .i64)]]
noncomputable def code22 : SCode := ((compF Try.prog Try.f22 loops22).elim .skip fun x => x.2.2)
def ret22 : List RV := [.tmp 4]
theorem comp22 : compF Try.prog Try.f22 loops22 = some (47, ret22, code22) := by kernel_rfl
def J22_2  (P : Program) (R : Value → Heap → Prop) (h h_ : Heap) (i : Int) (next_ : (Int → Heap → Prop)) (h_5 : Heap) : Prop :=
 ∃ (A5 : Option Addr) (N5 C5 : Nat), cellH h_5 (Addr.add ⟨h.size, 0, none⟩ 1) = some (.slice A5 N5 C5) ∧ 0 ≤ i ∧ i < (N5 : Nat) ∧ AtP A5 fun ad => ∃ (A6 : Option Addr) (N6 C6 : Nat), cellH h_5 (Addr.add ad (Int.toNat i * 1)) = some (.slice A6 N6 C6) ∧ ∃ (A7 : Option Addr) (N7 C7 : Nat), cellH h_5 (Addr.add ⟨h_.size, 0, none⟩ 1) = some (.slice A7 N7 C7) ∧ 0 ≤ i ∧ i < (N7 : Nat) ∧ AtP A7 fun ad1 => ∃ (A8 : Option Addr) (N8 C8 : Nat), cellH h_5 (Addr.add ad1 (Int.toNat i * 1)) = some (.slice A8 N8 C8) ∧ CallsH P 28 #[.slice A6 N6 C6, .slice A8 N8 C8] h_5 fun v1 h_6 =>
 ∃ (t3 : Bool), v1 = (.bool t3) ∧ BIf (!t3) (R (.bool false) h_6) (next_ (IntKind.wrap .i64 (i + 1)) h_6)
def J22_1  (R : Value → Heap → Prop) (h_7 : Heap) : Prop :=
 R (.bool true) h_7
def B22_3 (P : Program) (R : Value → Heap → Prop) (h h_ : Heap) (i : Int) (h_4 : Heap) (next_ : Int → Heap → Prop) : Prop :=
 ∃ (A4 : Option Addr) (N4 C4 : Nat), cellH h_4 (Addr.add ⟨h.size, 0, none⟩ 1) = some (.slice A4 N4 C4) ∧ PIf (i < ((N4 : Nat) : Int))
 (J22_2 P R h h_ i next_ h_4)
 (J22_1 R h_4)
def J22_0  (P : Program) (R : Value → Heap → Prop) (h h_ h_3 : Heap) : Prop :=
 LoopT (σ := Int) (fun st_ h_st nx_st => B22_3 P R h h_ (st_) h_st nx_st) (0) h_3
def VC22 (P : Program) (aA : Option Addr) (aN aC : Nat) (aA1 : Option Addr) (aN1 aC1 : Nat) (a : Int) (bA : Option Addr) (bN bC : Nat) (bA1 : Option Addr) (bN1 bC1 : Nat) (b : Int) (R : Value → Heap → Prop) (h : Heap) : Prop :=
 let h_ : Heap := (h).push (.cells (Value.cells (.agg #[.slice aA aN aC, .slice aA1 aN1 aC1, .int .i64 a])) 35); let h_1 : Heap := (h_).push (.cells (Value.cells (.agg #[.slice bA bN bC, .slice bA1 bN1 bC1, .int .i64 b])) 35); ∃ (t : Int), cellH h_1 (Addr.add ⟨h.size, 0, none⟩ 2) = some (.int .i64 t) ∧ ∃ (t1 : Int), cellH h_1 (Addr.add ⟨h_.size, 0, none⟩ 2) = some (.int .i64 t1) ∧ PIf (t = t1)
 (∃ (A : Option Addr) (N C : Nat), cellH h_1 (Addr.add ⟨h.size, 0, none⟩ 0) = some (.slice A N C) ∧ ∃ (A1 : Option Addr) (N1 C1 : Nat), cellH h_1 (Addr.add ⟨h_.size, 0, none⟩ 0) = some (.slice A1 N1 C1) ∧ CallsH P 28 #[.slice A N C, .slice A1 N1 C1] h_1 fun v h_2 =>
 ∃ (t2 : Bool), v = (.bool t2) ∧ BIf (!t2) (R (.bool false) h_2) (∃ (A2 : Option Addr) (N2 C2 : Nat), cellH h_2 (Addr.add ⟨h.size, 0, none⟩ 1) = some (.slice A2 N2 C2) ∧ ∃ (A3 : Option Addr) (N3 C3 : Nat), cellH h_2 (Addr.add ⟨h_.size, 0, none⟩ 1) = some (.slice A3 N3 C3) ∧ PIf ((((N2 : Nat) : Int) : Int) = ((N3 : Nat) : Int))
 (J22_0 P R h h_ h_2)
 (R (.bool false) h_2)))
 (R (.bool false) h_1)
theorem vc22 (P : Program) (aA : Option Addr) (aN aC : Nat) (aA1 : Option Addr) (aN1 aC1 : Nat) (a : Int) (bA : Option Addr) (bN bC : Nat) (bA1 : Option Addr) (bN1 bC1 : Nat) (b : Int) (R : Value → Heap → Prop) (h : Heap) : fnC P ret22 code22 [(.agg #[.slice aA aN aC, .slice aA1 aN1 aC1, .int .i64 a]), (.agg #[.slice bA bN bC, .slice bA1 bN1 bC1, .int .i64 b])] h R = VC22 P aA aN aC aA1 aN1 aC1 a bA bN bC bA1 bN1 bC1 b R h := by kernel_rfl
theorem run22 (aA : Option Addr) (aN aC : Nat) (aA1 : Option Addr) (aN1 aC1 : Nat) (a : Int) (bA : Option Addr) (bN bC : Nat) (bA1 : Option Addr) (bN1 bC1 : Nat) (b : Int) (R : Value → Heap → Prop) (h : Heap) (hv : VC22 Try.prog aA aN aC aA1 aN1 aC1 a bA bN bC bA1 bN1 bC1 b R h) : CallsH Try.prog 22 #[(.agg #[.slice aA aN aC, .slice aA1 aN1 aC1, .int .i64 a]), (.agg #[.slice bA bN bC, .slice bA1 bN1 bC1, .int .i64 b])] h R := calls_of_fnC (Checked.mixed Try.checked) Try.func22 comp22 (Nat.le_of_ble_eq_true rfl) (by rw [vc22]; exact hv)

/-! 28: trestle/trestlebook.SameBools -/
def loops28 : List (List (Nat × Shp)) := [[(5, .int .i64)]]
noncomputable def code28 : SCode := ((compF Try.prog Try.f28 loops28).elim .skip fun x => x.2.2)
def ret28 : List RV := [.tmp 4]
theorem comp28 : compF Try.prog Try.f28 loops28 = some (26, ret28, code28) := by kernel_rfl
def J28_2  (R : Value → Heap → Prop) (aA : (Option Addr)) (aN : Nat) (bA : (Option Addr)) (bN : Nat) (i : Int) (next_ : (Int → Heap → Prop)) (h_2 : Heap) : Prop :=
 0 ≤ i ∧ i < (aN : Nat) ∧ AtP aA fun ad => ∃ (t : Bool), cellH h_2 (Addr.add ad (Int.toNat i * 1)) = some (.bool t) ∧ 0 ≤ i ∧ i < (bN : Nat) ∧ AtP bA fun ad1 => ∃ (t1 : Bool), cellH h_2 (Addr.add ad1 (Int.toNat i * 1)) = some (.bool t1) ∧ PIf ((t : Bool) = t1)
 (next_ (IntKind.wrap .i64 (i + 1)) h_2)
 (R (.bool false) h_2)
def J28_1  (R : Value → Heap → Prop) (h_3 : Heap) : Prop :=
 R (.bool true) h_3
def B28_3 (R : Value → Heap → Prop) (aA : (Option Addr)) (aN : Nat) (bA : (Option Addr)) (bN : Nat) (i : Int) (h_1 : Heap) (next_ : Int → Heap → Prop) : Prop :=
 PIf (i < ((aN : Nat) : Int))
 (J28_2 R aA aN bA bN i next_ h_1)
 (J28_1 R h_1)
def J28_0  (R : Value → Heap → Prop) (aA : (Option Addr)) (aN : Nat) (bA : (Option Addr)) (bN : Nat) (h_ : Heap) : Prop :=
 LoopT (σ := Int) (fun st_ h_st nx_st => B28_3 R aA aN bA bN (st_) h_st nx_st) (0) h_
def VC28 (P : Program) (aA : Option Addr) (aN aC : Nat) (bA : Option Addr) (bN bC : Nat) (R : Value → Heap → Prop) (h : Heap) : Prop :=
 PIf ((((aN : Nat) : Int) : Int) = ((bN : Nat) : Int))
 (J28_0 R aA aN bA bN h)
 (R (.bool false) h)
theorem vc28 (P : Program) (aA : Option Addr) (aN aC : Nat) (bA : Option Addr) (bN bC : Nat) (R : Value → Heap → Prop) (h : Heap) : fnC P ret28 code28 [.slice aA aN aC, .slice bA bN bC] h R = VC28 P aA aN aC bA bN bC R h := by kernel_rfl
theorem run28 (aA : Option Addr) (aN aC : Nat) (bA : Option Addr) (bN bC : Nat) (R : Value → Heap → Prop) (h : Heap) (hv : VC28 Try.prog aA aN aC bA bN bC R h) : CallsH Try.prog 28 #[.slice aA aN aC, .slice bA bN bC] h R := calls_of_fnC (Checked.mixed Try.checked) Try.func28 comp28 (Nat.le_of_ble_eq_true rfl) (by rw [vc28]; exact hv)

/-! 42: trestle/trestlebook.SpoilTrace -/
def loops42 : List (List (Nat × Shp)) := [[(2, .int .i64)]]
noncomputable def code42 : SCode := ((compF Try.prog Try.f42 loops42).elim .skip fun x => x.2.2)
def ret42 : List RV := []
theorem comp42 : compF Try.prog Try.f42 loops42 = some (19, ret42, code42) := by kernel_rfl
def J42_0  (P : Program) (h : Heap) (i : Int) (next_ : (Int → Heap → Prop)) (h_3 : Heap) : Prop :=
 ∃ (A2 : Option Addr) (N2 C2 : Nat), cellH h_3 (Addr.add ⟨h.size, 0, none⟩ 1) = some (.slice A2 N2 C2) ∧ 0 ≤ i ∧ i < (N2 : Nat) ∧ AtP A2 fun ad => ∃ (A3 : Option Addr) (N3 C3 : Nat), cellH h_3 (Addr.add ad (Int.toNat i * 1)) = some (.slice A3 N3 C3) ∧ CallsH P 78 #[.slice A3 N3 C3] h_3 fun v1 h_4 =>
 v1 = (.tuple #[]) ∧ next_ (IntKind.wrap .i64 (i + 1)) h_4
def B42_1 (P : Program) (R : Value → Heap → Prop) (h : Heap) (i : Int) (h_2 : Heap) (next_ : Int → Heap → Prop) : Prop :=
 ∃ (A1 : Option Addr) (N1 C1 : Nat), cellH h_2 (Addr.add ⟨h.size, 0, none⟩ 1) = some (.slice A1 N1 C1) ∧ PIf (i < ((N1 : Nat) : Int))
 (J42_0 P h i next_ h_2)
 (R (.tuple #[]) h_2)
def VC42 (P : Program) (tA : Option Addr) (tN tC : Nat) (tA1 : Option Addr) (tN1 tC1 : Nat) (t : Int) (R : Value → Heap → Prop) (h : Heap) : Prop :=
 let h_ : Heap := (h).push (.cells (Value.cells (.agg #[.slice tA tN tC, .slice tA1 tN1 tC1, .int .i64 t])) 35); ∃ (A : Option Addr) (N C : Nat), cellH h_ (Addr.add ⟨h.size, 0, none⟩ 0) = some (.slice A N C) ∧ CallsH P 78 #[.slice A N C] h_ fun v h_1 =>
 v = (.tuple #[]) ∧ LoopT (σ := Int) (fun st_ h_st nx_st => B42_1 P R h (st_) h_st nx_st) (0) h_1
theorem vc42 (P : Program) (tA : Option Addr) (tN tC : Nat) (tA1 : Option Addr) (tN1 tC1 : Nat) (t : Int) (R : Value → Heap → Prop) (h : Heap) : fnC P ret42 code42 [(.agg #[.slice tA tN tC, .slice tA1 tN1 tC1, .int .i64 t])] h R = VC42 P tA tN tC tA1 tN1 tC1 t R h := by kernel_rfl
theorem run42 (tA : Option Addr) (tN tC : Nat) (tA1 : Option Addr) (tN1 tC1 : Nat) (t : Int) (R : Value → Heap → Prop) (h : Heap) (hv : VC42 Try.prog tA tN tC tA1 tN1 tC1 t R h) : CallsH Try.prog 42 #[(.agg #[.slice tA tN tC, .slice tA1 tN1 tC1, .int .i64 t])] h R := calls_of_fnC (Checked.mixed Try.checked) Try.func42 comp42 (Nat.le_of_ble_eq_true rfl) (by rw [vc42]; exact hv)

/-! 75: slices.Clone[[]bool,bool] -/
def loops75 : List (List (Nat × Shp)) := []
noncomputable def code75 : SCode := ((compF Try.prog Try.f75 loops75).elim .skip fun x => x.2.2)
def ret75 : List RV := [.tmp 2]
theorem comp75 : compF Try.prog Try.f75 loops75 = some (8, ret75, code75) := by kernel_rfl
def VC75 (P : Program) (sA : Option Addr) (sN sC : Nat) (R : Value → Heap → Prop) (h : Heap) : Prop :=
 PIf ((sA : Option Addr) = none)
 (R (.slice none 0 0) h)
 (let h_ : Heap := (h).push (.cells #[] 4); ∃ ys : List Value, ReadL h_ sA ys ∧ ys.length = sN * 1 ∧ AppS h_ (some ⟨h.size, 0, none⟩) 0 0 4 1 1 #[.bool false] ys sN fun apA apN apC h_1 => R (.slice apA apN apC) h_1)
theorem vc75 (P : Program) (sA : Option Addr) (sN sC : Nat) (R : Value → Heap → Prop) (h : Heap) : fnC P ret75 code75 [.slice sA sN sC] h R = VC75 P sA sN sC R h := by kernel_rfl
theorem run75 (sA : Option Addr) (sN sC : Nat) (R : Value → Heap → Prop) (h : Heap) (hv : VC75 Try.prog sA sN sC R h) : CallsH Try.prog 75 #[.slice sA sN sC] h R := calls_of_fnC (Checked.mixed Try.checked) Try.func75 comp75 (Nat.le_of_ble_eq_true rfl) (by rw [vc75]; exact hv)

/-! 76: trestle/trestleref07.Fits -/
def loops76 : List (List (Nat × Shp)) := [[(6, .int .i64)]]
noncomputable def code76 : SCode := ((compF Try.prog Try.f76 loops76).elim .skip fun x => x.2.2)
def ret76 : List RV := [.tmp 4]
theorem comp76 : compF Try.prog Try.f76 loops76 = some (51, ret76, code76) := by kernel_rfl
def J76_2  (R : Value → Heap → Prop) (h h_ : Heap) (i : Int) (next_ : (Int → Heap → Prop)) (h_4 : Heap) : Prop :=
 ∃ (A3 : Option Addr) (N3 C3 : Nat), cellH h_4 (Addr.add ⟨h_.size, 0, none⟩ 1) = some (.slice A3 N3 C3) ∧ 0 ≤ i ∧ i < (N3 : Nat) ∧ AtP A3 fun ad => ∃ (A4 : Option Addr) (N4 C4 : Nat), cellH h_4 (Addr.add ad (Int.toNat i * 1)) = some (.slice A4 N4 C4) ∧ ∃ (A5 : Option Addr) (N5 C5 : Nat), cellH h_4 (Addr.add ⟨h.size, 0, none⟩ 1) = some (.slice A5 N5 C5) ∧ PIf ((((N4 : Nat) : Int) : Int) = ((N5 : Nat) : Int))
 (next_ (IntKind.wrap .i64 (i + 1)) h_4)
 (R (.bool false) h_4)
def J76_1  (R : Value → Heap → Prop) (h_5 : Heap) : Prop :=
 R (.bool true) h_5
def B76_3 (R : Value → Heap → Prop) (h h_ : Heap) (N : Nat) (i : Int) (h_3 : Heap) (next_ : Int → Heap → Prop) : Prop :=
 PIf (i < ((N : Nat) : Int))
 (J76_2 R h h_ i next_ h_3)
 (J76_1 R h_3)
def J76_0  (R : Value → Heap → Prop) (h h_ : Heap) (N : Nat) (h_2 : Heap) : Prop :=
 LoopT (σ := Int) (fun st_ h_st nx_st => B76_3 R h h_ N (st_) h_st nx_st) (0) h_2
def VC76 (P : Program) (c : Int) (cA : Option Addr) (cN cC : Nat) (cA1 : Option Addr) (cN1 cC1 : Nat) (cA2 : Option Addr) (cN2 cC2 : Nat) (cA3 : Option Addr) (cN3 cC3 : Nat) (cA4 : Option Addr) (cN4 cC4 : Nat) (cA5 : Option Addr) (cN5 cC5 : Nat) (cA6 : Option Addr) (cN6 cC6 : Nat) (cA7 : Option Addr) (cN7 cC7 : Nat) (cA8 : Option Addr) (cN8 cC8 : Nat) (cA9 : Option Addr) (cN9 cC9 : Nat) (tA : Option Addr) (tN tC : Nat) (tA1 : Option Addr) (tN1 tC1 : Nat) (t : Int) (R : Value → Heap → Prop) (h : Heap) : Prop :=
 let h_ : Heap := (h).push (.cells (Value.cells (.agg #[.int .i64 c, .slice cA cN cC, .slice cA1 cN1 cC1, .slice cA2 cN2 cC2, .slice cA3 cN3 cC3, .slice cA4 cN4 cC4, .slice cA5 cN5 cC5, .slice cA6 cN6 cC6, .slice cA7 cN7 cC7, .slice cA8 cN8 cC8, .slice cA9 cN9 cC9])) 29); let h_1 : Heap := (h_).push (.cells (Value.cells (.agg #[.slice tA tN tC, .slice tA1 tN1 tC1, .int .i64 t])) 35); ∃ (A : Option Addr) (N C : Nat), cellH h_1 (Addr.add ⟨h_.size, 0, none⟩ 1) = some (.slice A N C) ∧ ∃ (A1 : Option Addr) (N1 C1 : Nat), cellH h_1 (Addr.add ⟨h_.size, 0, none⟩ 0) = some (.slice A1 N1 C1) ∧ ∃ (A2 : Option Addr) (N2 C2 : Nat), cellH h_1 (Addr.add ⟨h.size, 0, none⟩ 2) = some (.slice A2 N2 C2) ∧ PIf ((((N1 : Nat) : Int) : Int) = ((N2 : Nat) : Int))
 (PIf ((((N : Nat) : Int) : Int) < 1)
 (R (.bool false) h_1)
 (PIf ((512 : Int) < ((N : Nat) : Int))
 (R (.bool false) h_1)
 (∃ (t1 : Int), cellH h_1 (Addr.add ⟨h_.size, 0, none⟩ 2) = some (.int .i64 t1) ∧ PIf (t1 < (-1))
 (R (.bool false) h_1)
 (∃ (t2 : Int), cellH h_1 (Addr.add ⟨h_.size, 0, none⟩ 2) = some (.int .i64 t2) ∧ PIf ((((N : Nat) : Int) : Int) ≤ t2)
 (R (.bool false) h_1)
 (J76_0 R h h_ N h_1)))))
 (R (.bool false) h_1)
theorem vc76 (P : Program) (c : Int) (cA : Option Addr) (cN cC : Nat) (cA1 : Option Addr) (cN1 cC1 : Nat) (cA2 : Option Addr) (cN2 cC2 : Nat) (cA3 : Option Addr) (cN3 cC3 : Nat) (cA4 : Option Addr) (cN4 cC4 : Nat) (cA5 : Option Addr) (cN5 cC5 : Nat) (cA6 : Option Addr) (cN6 cC6 : Nat) (cA7 : Option Addr) (cN7 cC7 : Nat) (cA8 : Option Addr) (cN8 cC8 : Nat) (cA9 : Option Addr) (cN9 cC9 : Nat) (tA : Option Addr) (tN tC : Nat) (tA1 : Option Addr) (tN1 tC1 : Nat) (t : Int) (R : Value → Heap → Prop) (h : Heap) : fnC P ret76 code76 [(.agg #[.int .i64 c, .slice cA cN cC, .slice cA1 cN1 cC1, .slice cA2 cN2 cC2, .slice cA3 cN3 cC3, .slice cA4 cN4 cC4, .slice cA5 cN5 cC5, .slice cA6 cN6 cC6, .slice cA7 cN7 cC7, .slice cA8 cN8 cC8, .slice cA9 cN9 cC9]), (.agg #[.slice tA tN tC, .slice tA1 tN1 tC1, .int .i64 t])] h R = VC76 P c cA cN cC cA1 cN1 cC1 cA2 cN2 cC2 cA3 cN3 cC3 cA4 cN4 cC4 cA5 cN5 cC5 cA6 cN6 cC6 cA7 cN7 cC7 cA8 cN8 cC8 cA9 cN9 cC9 tA tN tC tA1 tN1 tC1 t R h := by kernel_rfl
theorem run76 (c : Int) (cA : Option Addr) (cN cC : Nat) (cA1 : Option Addr) (cN1 cC1 : Nat) (cA2 : Option Addr) (cN2 cC2 : Nat) (cA3 : Option Addr) (cN3 cC3 : Nat) (cA4 : Option Addr) (cN4 cC4 : Nat) (cA5 : Option Addr) (cN5 cC5 : Nat) (cA6 : Option Addr) (cN6 cC6 : Nat) (cA7 : Option Addr) (cN7 cC7 : Nat) (cA8 : Option Addr) (cN8 cC8 : Nat) (cA9 : Option Addr) (cN9 cC9 : Nat) (tA : Option Addr) (tN tC : Nat) (tA1 : Option Addr) (tN1 tC1 : Nat) (t : Int) (R : Value → Heap → Prop) (h : Heap) (hv : VC76 Try.prog c cA cN cC cA1 cN1 cC1 cA2 cN2 cC2 cA3 cN3 cC3 cA4 cN4 cC4 cA5 cN5 cC5 cA6 cN6 cC6 cA7 cN7 cC7 cA8 cN8 cC8 cA9 cN9 cC9 tA tN tC tA1 tN1 tC1 t R h) : CallsH Try.prog 76 #[(.agg #[.int .i64 c, .slice cA cN cC, .slice cA1 cN1 cC1, .slice cA2 cN2 cC2, .slice cA3 cN3 cC3, .slice cA4 cN4 cC4, .slice cA5 cN5 cC5, .slice cA6 cN6 cC6, .slice cA7 cN7 cC7, .slice cA8 cN8 cC8, .slice cA9 cN9 cC9]), (.agg #[.slice tA tN tC, .slice tA1 tN1 tC1, .int .i64 t])] h R := calls_of_fnC (Checked.mixed Try.checked) Try.func76 comp76 (Nat.le_of_ble_eq_true rfl) (by rw [vc76]; exact hv)

/-! 77: trestle/trestleref20.Lemma0 -/
def loops77 : List (List (Nat × Shp)) := [[(5, .int .i64)], [(6, .bool), (7, .int .i64)]]
noncomputable def code77 : SCode := ((compF Try.prog Try.f77 loops77).elim .skip fun x => x.2.2)
def ret77 : List RV := [.tmp 4]
theorem comp77 : compF Try.prog Try.f77 loops77 = some (48, ret77, code77) := by kernel_rfl
def J77_4  (h : Heap) (lA : (Option Addr)) (lN : Nat) (i : Int) (ok : Bool) (k : Int) (next_1 : (Bool × Int → Heap → Prop)) (h_4 : Heap) : Prop :=
 ∃ (A1 : Option Addr) (N1 C1 : Nat), cellH h_4 (Addr.add ⟨h.size, 0, none⟩ 2) = some (.slice A1 N1 C1) ∧ 0 ≤ k ∧ k < (N1 : Nat) ∧ AtP A1 fun ad => ∃ (t : Int), cellH h_4 (Addr.add (Addr.add ad (Int.toNat k * 3)) 0) = some (.int .i64 t) ∧ BIf ok (next_1 (true, (IntKind.wrap .i64 (k + 1))) h_4) (0 ≤ i ∧ i < (lN : Nat) ∧ AtP lA fun ad1 => ∃ (t1 : Int), cellH h_4 (Addr.add ad1 (Int.toNat i * 1)) = some (.int .i64 t1) ∧ PIf (t1 = t)
 (next_1 (true, (IntKind.wrap .i64 (k + 1))) h_4)
 (0 ≤ i ∧ i < (lN : Nat) ∧ AtP lA fun ad2 => ∃ (t2 : Int), cellH h_4 (Addr.add ad2 (Int.toNat i * 1)) = some (.int .i64 t2) ∧ PIf (t2 = (IntKind.wrap .i64 (t + 1)))
 (next_1 (true, (IntKind.wrap .i64 (k + 1))) h_4)
 (next_1 (false, (IntKind.wrap .i64 (k + 1))) h_4)))
def J77_2  (i : Int) (next_ : (Int → Heap → Prop)) (h_6 : Heap) : Prop :=
 next_ (IntKind.wrap .i64 (i + 1)) h_6
def J77_3  (R : Value → Heap → Prop) (i : Int) (next_ : (Int → Heap → Prop)) (ok1 : Bool) (h_5 : Heap) : Prop :=
 BIf (!ok1) (R (.bool false) h_5) (J77_2 i next_ h_5)
def B77_5 (R : Value → Heap → Prop) (h : Heap) (lA : (Option Addr)) (lN : Nat) (i : Int) (next_ : (Int → Heap → Prop)) (ok : Bool) (k : Int) (h_3 : Heap) (next_1 : Bool × Int → Heap → Prop) : Prop :=
 ∃ (A : Option Addr) (N C : Nat), cellH h_3 (Addr.add ⟨h.size, 0, none⟩ 2) = some (.slice A N C) ∧ PIf (k < ((N : Nat) : Int))
 (J77_4 h lA lN i ok k next_1 h_3)
 (J77_3 R i next_ (ok) h_3)
def J77_1  (R : Value → Heap → Prop) (h : Heap) (lA : (Option Addr)) (lN : Nat) (i : Int) (next_ : (Int → Heap → Prop)) (h_2 : Heap) : Prop :=
 LoopT (σ := Bool × Int) (fun st_ h_st nx_st => B77_5 R h lA lN i next_ (st_.1) (st_.2) h_st nx_st) (false, 0) h_2
def J77_0  (R : Value → Heap → Prop) (h_7 : Heap) : Prop :=
 R (.bool true) h_7
def B77_6 (R : Value → Heap → Prop) (h : Heap) (lA : (Option Addr)) (lN : Nat) (i : Int) (h_1 : Heap) (next_ : Int → Heap → Prop) : Prop :=
 PIf (i < ((lN : Nat) : Int))
 (J77_1 R h lA lN i next_ h_1)
 (J77_0 R h_1)
def VC77 (P : Program) (c : Int) (cA : Option Addr) (cN cC : Nat) (cA1 : Option Addr) (cN1 cC1 : Nat) (cA2 : Option Addr) (cN2 cC2 : Nat) (cA3 : Option Addr) (cN3 cC3 : Nat) (cA4 : Option Addr) (cN4 cC4 : Nat) (cA5 : Option Addr) (cN5 cC5 : Nat) (cA6 : Option Addr) (cN6 cC6 : Nat) (cA7 : Option Addr) (cN7 cC7 : Nat) (cA8 : Option Addr) (cN8 cC8 : Nat) (cA9 : Option Addr) (cN9 cC9 : Nat) (lA : Option Addr) (lN lC : Nat) (R : Value → Heap → Prop) (h : Heap) : Prop :=
 let h_ : Heap := (h).push (.cells (Value.cells (.agg #[.int .i64 c, .slice cA cN cC, .slice cA1 cN1 cC1, .slice cA2 cN2 cC2, .slice cA3 cN3 cC3, .slice cA4 cN4 cC4, .slice cA5 cN5 cC5, .slice cA6 cN6 cC6, .slice cA7 cN7 cC7, .slice cA8 cN8 cC8, .slice cA9 cN9 cC9])) 29); LoopT (σ := Int) (fun st_ h_st nx_st => B77_6 R h lA lN (st_) h_st nx_st) (0) h_
theorem vc77 (P : Program) (c : Int) (cA : Option Addr) (cN cC : Nat) (cA1 : Option Addr) (cN1 cC1 : Nat) (cA2 : Option Addr) (cN2 cC2 : Nat) (cA3 : Option Addr) (cN3 cC3 : Nat) (cA4 : Option Addr) (cN4 cC4 : Nat) (cA5 : Option Addr) (cN5 cC5 : Nat) (cA6 : Option Addr) (cN6 cC6 : Nat) (cA7 : Option Addr) (cN7 cC7 : Nat) (cA8 : Option Addr) (cN8 cC8 : Nat) (cA9 : Option Addr) (cN9 cC9 : Nat) (lA : Option Addr) (lN lC : Nat) (R : Value → Heap → Prop) (h : Heap) : fnC P ret77 code77 [(.agg #[.int .i64 c, .slice cA cN cC, .slice cA1 cN1 cC1, .slice cA2 cN2 cC2, .slice cA3 cN3 cC3, .slice cA4 cN4 cC4, .slice cA5 cN5 cC5, .slice cA6 cN6 cC6, .slice cA7 cN7 cC7, .slice cA8 cN8 cC8, .slice cA9 cN9 cC9]), .slice lA lN lC] h R = VC77 P c cA cN cC cA1 cN1 cC1 cA2 cN2 cC2 cA3 cN3 cC3 cA4 cN4 cC4 cA5 cN5 cC5 cA6 cN6 cC6 cA7 cN7 cC7 cA8 cN8 cC8 cA9 cN9 cC9 lA lN lC R h := by kernel_rfl
theorem run77 (c : Int) (cA : Option Addr) (cN cC : Nat) (cA1 : Option Addr) (cN1 cC1 : Nat) (cA2 : Option Addr) (cN2 cC2 : Nat) (cA3 : Option Addr) (cN3 cC3 : Nat) (cA4 : Option Addr) (cN4 cC4 : Nat) (cA5 : Option Addr) (cN5 cC5 : Nat) (cA6 : Option Addr) (cN6 cC6 : Nat) (cA7 : Option Addr) (cN7 cC7 : Nat) (cA8 : Option Addr) (cN8 cC8 : Nat) (cA9 : Option Addr) (cN9 cC9 : Nat) (lA : Option Addr) (lN lC : Nat) (R : Value → Heap → Prop) (h : Heap) (hv : VC77 Try.prog c cA cN cC cA1 cN1 cC1 cA2 cN2 cC2 cA3 cN3 cC3 cA4 cN4 cC4 cA5 cN5 cC5 cA6 cN6 cC6 cA7 cN7 cC7 cA8 cN8 cC8 cA9 cN9 cC9 lA lN lC R h) : CallsH Try.prog 77 #[(.agg #[.int .i64 c, .slice cA cN cC, .slice cA1 cN1 cC1, .slice cA2 cN2 cC2, .slice cA3 cN3 cC3, .slice cA4 cN4 cC4, .slice cA5 cN5 cC5, .slice cA6 cN6 cC6, .slice cA7 cN7 cC7, .slice cA8 cN8 cC8, .slice cA9 cN9 cC9]), .slice lA lN lC] h R := calls_of_fnC (Checked.mixed Try.checked) Try.func77 comp77 (Nat.le_of_ble_eq_true rfl) (by rw [vc77]; exact hv)

/-! 78: trestle/trestlebook.SpoilBools -/
def loops78 : List (List (Nat × Shp)) := [[(2, .int .i64)]]
noncomputable def code78 : SCode := ((compF Try.prog Try.f78 loops78).elim .skip fun x => x.2.2)
def ret78 : List RV := []
theorem comp78 : compF Try.prog Try.f78 loops78 = some (17, ret78, code78) := by kernel_rfl
def J78_0  (lA : (Option Addr)) (lN : Nat) (i : Int) (next_ : (Int → Heap → Prop)) (h_1 : Heap) : Prop :=
 0 ≤ i ∧ i < (lN : Nat) ∧ AtP lA fun ad => ∃ (t : Bool), cellH h_1 (Addr.add ad (Int.toNat i * 1)) = some (.bool t) ∧ 0 ≤ i ∧ i < (lN : Nat) ∧ AtP lA fun ad1 => StoreH h_1 (Addr.add ad1 (Int.toNat i * 1)) [(.bool (!t))] fun h_2 => next_ (IntKind.wrap .i64 (i + 1)) h_2
def B78_1 (R : Value → Heap → Prop) (lA : (Option Addr)) (lN : Nat) (i : Int) (h_ : Heap) (next_ : Int → Heap → Prop) : Prop :=
 PIf (i < ((lN : Nat) : Int))
 (J78_0 lA lN i next_ h_)
 (R (.tuple #[]) h_)
def VC78 (P : Program) (lA : Option Addr) (lN lC : Nat) (R : Value → Heap → Prop) (h : Heap) : Prop :=
 LoopT (σ := Int) (fun st_ h_st nx_st => B78_1 R lA lN (st_) h_st nx_st) (0) h
theorem vc78 (P : Program) (lA : Option Addr) (lN lC : Nat) (R : Value → Heap → Prop) (h : Heap) : fnC P ret78 code78 [.slice lA lN lC] h R = VC78 P lA lN lC R h := by kernel_rfl
theorem run78 (lA : Option Addr) (lN lC : Nat) (R : Value → Heap → Prop) (h : Heap) (hv : VC78 Try.prog lA lN lC R h) : CallsH Try.prog 78 #[.slice lA lN lC] h R := calls_of_fnC (Checked.mixed Try.checked) Try.func78 comp78 (Nat.le_of_ble_eq_true rfl) (by rw [vc78]; exact hv)
end Go.Proofs.Ytpmpacdjcfijbaa
