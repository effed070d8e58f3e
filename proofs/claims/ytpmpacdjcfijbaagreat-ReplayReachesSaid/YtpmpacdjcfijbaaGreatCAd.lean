/- Words and facts that the claim's proof leans on. No condition. -/
import Derived.Test.YtpmpacdjcfijbaaGreatHxK
import Derived.Test.YtpmpacdjcfijbaaGreatChecked
set_option maxRecDepth 100000
set_option linter.unusedVariables false
namespace Go.Proofs.YtpmpacdjcfijbaaGreat
open Go.Hx
/-! 5: trestle/trestlebook.CopyTrace -/
def loops5 : List (List (Nat × Shp)) := [[(4, .int .i64)]]
noncomputable def code5 : SCode := ((compF Tryz.prog Tryz.f5 loops5).elim .skip fun x => x.2.2)
def ret5 : List RV := [.cellN 2 [.slice, .slice, .int .i64]]
theorem comp5 : compF Tryz.prog Tryz.f5 loops5 = some (32, ret5, code5) := by kernel_rfl
def J5_1  (h : Heap) (b1 : Nat) (i : Int) (next_ : (Int → Heap → Prop)) (h_9 : Heap) : Prop :=
 ∃ zn : Zone, Zone.hasL zn h_9 (Addr.add (Addr.mk b1 0 none) 1) ∧ ∃ (A2 : Option Addr) (N2 C2 : Nat), cellH h_9 (Addr.add (Addr.mk b1 0 none) 1) = some (.slice A2 N2 C2) ∧ let h_10 : Heap := (h_9).push (.cells #[] 4); Zone.r zn h_9 h_10 ∧ Zone.hasL zn h_10 (Addr.add ⟨h.size, 0, none⟩ 1) ∧ ∃ (A3 : Option Addr) (N3 C3 : Nat), cellH h_10 (Addr.add ⟨h.size, 0, none⟩ 1) = some (.slice A3 N3 C3) ∧ 0 ≤ i ∧ i < (N3 : Nat) ∧ AtP A3 fun ad => Zone.hasL zn h_10 (Addr.add ad (Int.toNat i * 1)) ∧ ∃ (A4 : Option Addr) (N4 C4 : Nat), cellH h_10 (Addr.add ad (Int.toNat i * 1)) = some (.slice A4 N4 C4) ∧ ∃ ys1 : List Value, ReadL h_10 A4 ys1 ∧ ys1.length = N4 * 1 ∧ AppS h_10 (some ⟨h_9.size, 0, none⟩) 0 0 4 1 1 #[.bool false] ys1 N4 fun apA1 apN1 apC1 h_11 => Zone.r zn h_10 h_11 ∧ let h_12 : Heap := (h_11).push (.cells #[.slice apA1 apN1 apC1] 30); Zone.r zn h_11 h_12 ∧ ∃ ys2 : List Value, ReadL h_12 (some ⟨h_11.size, 0, none⟩) ys2 ∧ ys2.length = 1 * 1 ∧ AppS h_12 A2 N2 C2 30 24 1 #[.slice none 0 0] ys2 1 fun apA2 apN2 apC2 h_13 => Zone.r zn h_12 h_13 ∧ StoreH h_13 (Addr.add (Addr.mk b1 0 none) 1) [.slice apA2 apN2 apC2] fun h_14 => next_ (IntKind.wrap .i64 (i + 1)) h_14
def J5_0  (R : Value → Heap → Prop) (h_ : Heap) (b1 : Nat) (h_15 : Heap) : Prop :=
 ∃ (A5 : Option Addr) (N5 C5 : Nat) (A6 : Option Addr) (N6 C6 : Nat) (t2 : Int), cellsH h_15 (Addr.mk b1 0 none) 0 [.slice A5 N5 C5, .slice A6 N6 C6, .int .i64 t2] ∧ StoreH h_15 ⟨h_.size, 0, none⟩ [.slice A5 N5 C5, .slice A6 N6 C6, .int .i64 t2] fun h_16 => ∃ (A7 : Option Addr) (N7 C7 : Nat) (A8 : Option Addr) (N8 C8 : Nat) (t3 : Int), cellsH h_16 ⟨h_.size, 0, none⟩ 0 [.slice A7 N7 C7, .slice A8 N8 C8, .int .i64 t3] ∧ R (.agg #[.slice A7 N7 C7, .slice A8 N8 C8, .int .i64 t3]) h_16
def B5_2 (R : Value → Heap → Prop) (h h_ : Heap) (b1 : Nat) (i : Int) (h_8 : Heap) (next_ : Int → Heap → Prop) : Prop :=
 ∃ (A1 : Option Addr) (N1 C1 : Nat), cellH h_8 (Addr.add ⟨h.size, 0, none⟩ 1) = some (.slice A1 N1 C1) ∧ PIf (i < ((N1 : Nat) : Int))
 (J5_1 h b1 i next_ h_8)
 (J5_0 R h_ b1 h_8)
def VC5 (P : Program) (tA : Option Addr) (tN tC : Nat) (tA1 : Option Addr) (tN1 tC1 : Nat) (t : Int) (R : Value → Heap → Prop) (h : Heap) : Prop :=
 let h_ : Heap := (h).push (.cells (Value.cells (.agg #[.slice tA tN tC, .slice tA1 tN1 tC1, .int .i64 t])) 33); let h_1 : Heap := (h_).push (.cells #[.slice none 0 0, .slice none 0 0, .int .i64 0] 33); ∀ (U : Nat → Prop) (h_2 : Heap) (b : Nat), GrowH none' h_1 U h_2 → U b → (h_2)[b]? = some (Obj.cells #[] 4) → (Addr.block (Addr.add ⟨h.size, 0, none⟩ 0)) < (h_1).size ∧ ∃ (A : Option Addr) (N C : Nat), cellH h_2 (Addr.add ⟨h.size, 0, none⟩ 0) = some (.slice A N C) ∧ ∀ (U1 : Nat → Prop) (h_3 : Heap), GrowH (minus U b) h_2 U1 h_3 → ∃ ys : List Value, ReadL h_3 A ys ∧ ys.length = N * 1 ∧ AppS h_3 (some (Addr.mk b 0 none)) 0 0 4 1 1 #[.bool false] ys N fun apA apN apC h_4 => Keeps (h_1).size U1 h_3 h_4 ∧ (Addr.block (Addr.add ⟨h.size, 0, none⟩ 2)) < (h_1).size ∧ ∃ (t1 : Int), cellH h_4 (Addr.add ⟨h.size, 0, none⟩ 2) = some (.int .i64 t1) ∧ ∀ (U2 : Nat → Prop) (h_5 : Heap) (b1 : Nat), GrowH U1 h_4 U2 h_5 → U2 b1 → (h_5)[b1]? = some (Obj.cells #[.slice none 0 0, .slice none 0 0, .int .i64 0] 33) → ∀ (U3 : Nat → Prop) (h_6 : Heap), GrowH (minus U2 b1) h_5 U3 h_6 → StoreH h_6 (Addr.mk b1 0 none) [.slice apA apN apC, .slice none 0 0, .int .i64 t1] fun h_7 => (h_6).size ≤ (h_7).size ∧ LoopT (σ := Int) (fun st_ h_st nx_st => B5_2 R h h_ b1 (st_) h_st nx_st) (0) h_7
theorem vc5 (P : Program) (tA : Option Addr) (tN tC : Nat) (tA1 : Option Addr) (tN1 tC1 : Nat) (t : Int) (R : Value → Heap → Prop) (h : Heap) : fnC P ret5 code5 [(.agg #[.slice tA tN tC, .slice tA1 tN1 tC1, .int .i64 t])] h R = VC5 P tA tN tC tA1 tN1 tC1 t R h := by kernel_rfl
theorem run5 (tA : Option Addr) (tN tC : Nat) (tA1 : Option Addr) (tN1 tC1 : Nat) (t : Int) (R : Value → Heap → Prop) (h : Heap) (hv : VC5 Tryz.prog tA tN tC tA1 tN1 tC1 t R h) : CallsH Tryz.prog 5 #[(.agg #[.slice tA tN tC, .slice tA1 tN1 tC1, .int .i64 t])] h R := calls_of_fnC (Checked.mixed Tryz.checked) Tryz.func5 comp5 (Nat.le_of_ble_eq_true rfl) (by rw [vc5]; exact hv)
/-! 10: trestle/trestlebook.SameTrace -/
def loops10 : List (List (Nat × Shp)) := [[(5, .int .i64)]]
noncomputable def code10 : SCode := ((compF Tryz.prog Tryz.f10 loops10).elim .skip fun x => x.2.2)
def ret10 : List RV := [.tmp 4]
theorem comp10 : compF Tryz.prog Tryz.f10 loops10 = some (47, ret10, code10) := by kernel_rfl
def J10_2  (P : Program) (R : Value → Heap → Prop) (h h_ : Heap) (i : Int) (next_ : (Int → Heap → Prop)) (h_5 : Heap) : Prop :=
 ∃ (A5 : Option Addr) (N5 C5 : Nat), cellH h_5 (Addr.add ⟨h.size, 0, none⟩ 1) = some (.slice A5 N5 C5) ∧ 0 ≤ i ∧ i < (N5 : Nat) ∧ AtP A5 fun ad => ∃ (A6 : Option Addr) (N6 C6 : Nat), cellH h_5 (Addr.add ad (Int.toNat i * 1)) = some (.slice A6 N6 C6) ∧ ∃ (A7 : Option Addr) (N7 C7 : Nat), cellH h_5 (Addr.add ⟨h_.size, 0, none⟩ 1) = some (.slice A7 N7 C7) ∧ 0 ≤ i ∧ i < (N7 : Nat) ∧ AtP A7 fun ad1 => ∃ (A8 : Option Addr) (N8 C8 : Nat), cellH h_5 (Addr.add ad1 (Int.toNat i * 1)) = some (.slice A8 N8 C8) ∧ CallsH P 23 #[.slice A6 N6 C6, .slice A8 N8 C8] h_5 fun v1 h_6 =>
 ∃ (t3 : Bool), v1 = (.bool t3) ∧ BIf (!t3) (R (.bool false) h_6) (next_ (IntKind.wrap .i64 (i + 1)) h_6)
def J10_1  (R : Value → Heap → Prop) (h_7 : Heap) : Prop :=
 R (.bool true) h_7
def B10_3 (P : Program) (R : Value → Heap → Prop) (h h_ : Heap) (i : Int) (h_4 : Heap) (next_ : Int → Heap → Prop) : Prop :=
 ∃ (A4 : Option Addr) (N4 C4 : Nat), cellH h_4 (Addr.add ⟨h.size, 0, none⟩ 1) = some (.slice A4 N4 C4) ∧ PIf (i < ((N4 : Nat) : Int))
 (J10_2 P R h h_ i next_ h_4)
 (J10_1 R h_4)
def J10_0  (P : Program) (R : Value → Heap → Prop) (h h_ h_3 : Heap) : Prop :=
 LoopT (σ := Int) (fun st_ h_st nx_st => B10_3 P R h h_ (st_) h_st nx_st) (0) h_3
def VC10 (P : Program) (aA : Option Addr) (aN aC : Nat) (aA1 : Option Addr) (aN1 aC1 : Nat) (a : Int) (bA : Option Addr) (bN bC : Nat) (bA1 : Option Addr) (bN1 bC1 : Nat) (b : Int) (R : Value → Heap → Prop) (h : Heap) : Prop :=
 let h_ : Heap := (h).push (.cells (Value.cells (.agg #[.slice aA aN aC, .slice aA1 aN1 aC1, .int .i64 a])) 33); let h_1 : Heap := (h_).push (.cells (Value.cells (.agg #[.slice bA bN bC, .slice bA1 bN1 bC1, .int .i64 b])) 33); ∃ (t : Int), cellH h_1 (Addr.add ⟨h.size, 0, none⟩ 2) = some (.int .i64 t) ∧ ∃ (t1 : Int), cellH h_1 (Addr.add ⟨h_.size, 0, none⟩ 2) = some (.int .i64 t1) ∧ PIf (t = t1)
 (∃ (A : Option Addr) (N C : Nat), cellH h_1 (Addr.add ⟨h.size, 0, none⟩ 0) = some (.slice A N C) ∧ ∃ (A1 : Option Addr) (N1 C1 : Nat), cellH h_1 (Addr.add ⟨h_.size, 0, none⟩ 0) = some (.slice A1 N1 C1) ∧ CallsH P 23 #[.slice A N C, .slice A1 N1 C1] h_1 fun v h_2 =>
 ∃ (t2 : Bool), v = (.bool t2) ∧ BIf (!t2) (R (.bool false) h_2) (∃ (A2 : Option Addr) (N2 C2 : Nat), cellH h_2 (Addr.add ⟨h.size, 0, none⟩ 1) = some (.slice A2 N2 C2) ∧ ∃ (A3 : Option Addr) (N3 C3 : Nat), cellH h_2 (Addr.add ⟨h_.size, 0, none⟩ 1) = some (.slice A3 N3 C3) ∧ PIf ((((N2 : Nat) : Int) : Int) = ((N3 : Nat) : Int))
 (J10_0 P R h h_ h_2)
 (R (.bool false) h_2)))
 (R (.bool false) h_1)
theorem vc10 (P : Program) (aA : Option Addr) (aN aC : Nat) (aA1 : Option Addr) (aN1 aC1 : Nat) (a : Int) (bA : Option Addr) (bN bC : Nat) (bA1 : Option Addr) (bN1 bC1 : Nat) (b : Int) (R : Value → Heap → Prop) (h : Heap) : fnC P ret10 code10 [(.agg #[.slice aA aN aC, .slice aA1 aN1 aC1, .int .i64 a]), (.agg #[.slice bA bN bC, .slice bA1 bN1 bC1, .int .i64 b])] h R = VC10 P aA aN aC aA1 aN1 aC1 a bA bN bC bA1 bN1 bC1 b R h := by kernel_rfl
theorem run10 (aA : Option Addr) (aN aC : Nat) (aA1 : Option Addr) (aN1 aC1 : Nat) (a : Int) (bA : Option Addr) (bN bC : Nat) (bA1 : Option Addr) (bN1 bC1 : Nat) (b : Int) (R : Value → Heap → Prop) (h : Heap) (hv : VC10 Tryz.prog aA aN aC aA1 aN1 aC1 a bA bN bC bA1 bN1 bC1 b R h) : CallsH Tryz.prog 10 #[(.agg #[.slice aA aN aC, .slice aA1 aN1 aC1, .int .i64 a]), (.agg #[.slice bA bN bC, .slice bA1 bN1 bC1, .int .i64 b])] h R := calls_of_fnC (Checked.mixed Tryz.checked) Tryz.func10 comp10 (Nat.le_of_ble_eq_true rfl) (by rw [vc10]; exact hv)
/-! 23: trestle/trestlebook.SameBools -/
def loops23 : List (List (Nat × Shp)) := [[(5, .int .i64)]]
noncomputable def code23 : SCode := ((compF Tryz.prog Tryz.f23 loops23).elim .skip fun x => x.2.2)
def ret23 : List RV := [.tmp 4]
theorem comp23 : compF Tryz.prog Tryz.f23 loops23 = some (26, ret23, code23) := by kernel_rfl
def J23_2  (R : Value → Heap → Prop) (aA : (Option Addr)) (aN : Nat) (bA : (Option Addr)) (bN : Nat) (i : Int) (next_ : (Int → Heap → Prop)) (h_2 : Heap) : Prop :=
 0 ≤ i ∧ i < (aN : Nat) ∧ AtP aA fun ad => ∃ (t : Bool), cellH h_2 (Addr.add ad (Int.toNat i * 1)) = some (.bool t) ∧ 0 ≤ i ∧ i < (bN : Nat) ∧ AtP bA fun ad1 => ∃ (t1 : Bool), cellH h_2 (Addr.add ad1 (Int.toNat i * 1)) = some (.bool t1) ∧ PIf ((t : Bool) = t1)
 (next_ (IntKind.wrap .i64 (i + 1)) h_2)
 (R (.bool false) h_2)
def J23_1  (R : Value → Heap → Prop) (h_3 : Heap) : Prop :=
 R (.bool true) h_3
def B23_3 (R : Value → Heap → Prop) (aA : (Option Addr)) (aN : Nat) (bA : (Option Addr)) (bN : Nat) (i : Int) (h_1 : Heap) (next_ : Int → Heap → Prop) : Prop :=
 PIf (i < ((aN : Nat) : Int))
 (J23_2 R aA aN bA bN i next_ h_1)
 (J23_1 R h_1)
def J23_0  (R : Value → Heap → Prop) (aA : (Option Addr)) (aN : Nat) (bA : (Option Addr)) (bN : Nat) (h_ : Heap) : Prop :=
 LoopT (σ := Int) (fun st_ h_st nx_st => B23_3 R aA aN bA bN (st_) h_st nx_st) (0) h_
def VC23 (P : Program) (aA : Option Addr) (aN aC : Nat) (bA : Option Addr) (bN bC : Nat) (R : Value → Heap → Prop) (h : Heap) : Prop :=
 PIf ((((aN : Nat) : Int) : Int) = ((bN : Nat) : Int))
 (J23_0 R aA aN bA bN h)
 (R (.bool false) h)
theorem vc23 (P : Program) (aA : Option Addr) (aN aC : Nat) (bA : Option Addr) (bN bC : Nat) (R : Value → Heap → Prop) (h : Heap) : fnC P ret23 code23 [.slice aA aN aC, .slice bA bN bC] h R = VC23 P aA aN aC bA bN bC R h := by kernel_rfl
theorem run23 (aA : Option Addr) (aN aC : Nat) (bA : Option Addr) (bN bC : Nat) (R : Value → Heap → Prop) (h : Heap) (hv : VC23 Tryz.prog aA aN aC bA bN bC R h) : CallsH Tryz.prog 23 #[.slice aA aN aC, .slice bA bN bC] h R := calls_of_fnC (Checked.mixed Tryz.checked) Tryz.func23 comp23 (Nat.le_of_ble_eq_true rfl) (by rw [vc23]; exact hv)
/-! 72: slices.Clone[[]bool,bool] -/
def loops72 : List (List (Nat × Shp)) := []
noncomputable def code72 : SCode := ((compF Tryz.prog Tryz.f72 loops72).elim .skip fun x => x.2.2)
def ret72 : List RV := [.tmp 2]
theorem comp72 : compF Tryz.prog Tryz.f72 loops72 = some (8, ret72, code72) := by kernel_rfl
def VC72 (P : Program) (sA : Option Addr) (sN sC : Nat) (R : Value → Heap → Prop) (h : Heap) : Prop :=
 PIf ((sA : Option Addr) = none)
 (R (.slice none 0 0) h)
 (let h_ : Heap := (h).push (.cells #[] 4); ∃ ys : List Value, ReadL h_ sA ys ∧ ys.length = sN * 1 ∧ AppS h_ (some ⟨h.size, 0, none⟩) 0 0 4 1 1 #[.bool false] ys sN fun apA apN apC h_1 => R (.slice apA apN apC) h_1)
theorem vc72 (P : Program) (sA : Option Addr) (sN sC : Nat) (R : Value → Heap → Prop) (h : Heap) : fnC P ret72 code72 [.slice sA sN sC] h R = VC72 P sA sN sC R h := by kernel_rfl
theorem run72 (sA : Option Addr) (sN sC : Nat) (R : Value → Heap → Prop) (h : Heap) (hv : VC72 Tryz.prog sA sN sC R h) : CallsH Tryz.prog 72 #[.slice sA sN sC] h R := calls_of_fnC (Checked.mixed Tryz.checked) Tryz.func72 comp72 (Nat.le_of_ble_eq_true rfl) (by rw [vc72]; exact hv)
/-! 18: trestle/trestleref07.Fits -/
def loops18 : List (List (Nat × Shp)) := [[(6, .int .i64)]]
noncomputable def code18 : SCode := ((compF Tryz.prog Tryz.f18 loops18).elim .skip fun x => x.2.2)
def ret18 : List RV := [.tmp 4]
theorem comp18 : compF Tryz.prog Tryz.f18 loops18 = some (51, ret18, code18) := by kernel_rfl
def J18_2  (R : Value → Heap → Prop) (h h_ : Heap) (i : Int) (next_ : (Int → Heap → Prop)) (h_4 : Heap) : Prop :=
 ∃ (A3 : Option Addr) (N3 C3 : Nat), cellH h_4 (Addr.add ⟨h_.size, 0, none⟩ 1) = some (.slice A3 N3 C3) ∧ 0 ≤ i ∧ i < (N3 : Nat) ∧ AtP A3 fun ad => ∃ (A4 : Option Addr) (N4 C4 : Nat), cellH h_4 (Addr.add ad (Int.toNat i * 1)) = some (.slice A4 N4 C4) ∧ ∃ (A5 : Option Addr) (N5 C5 : Nat), cellH h_4 (Addr.add ⟨h.size, 0, none⟩ 1) = some (.slice A5 N5 C5) ∧ PIf ((((N4 : Nat) : Int) : Int) = ((N5 : Nat) : Int))
 (next_ (IntKind.wrap .i64 (i + 1)) h_4)
 (R (.bool false) h_4)
def J18_1  (R : Value → Heap → Prop) (h_5 : Heap) : Prop :=
 R (.bool true) h_5
def B18_3 (R : Value → Heap → Prop) (h h_ : Heap) (N : Nat) (i : Int) (h_3 : Heap) (next_ : Int → Heap → Prop) : Prop :=
 PIf (i < ((N : Nat) : Int))
 (J18_2 R h h_ i next_ h_3)
 (J18_1 R h_3)
def J18_0  (R : Value → Heap → Prop) (h h_ : Heap) (N : Nat) (h_2 : Heap) : Prop :=
 LoopT (σ := Int) (fun st_ h_st nx_st => B18_3 R h h_ N (st_) h_st nx_st) (0) h_2
def VC18 (P : Program) (c : Int) (cA : Option Addr) (cN cC : Nat) (cA1 : Option Addr) (cN1 cC1 : Nat) (cA2 : Option Addr) (cN2 cC2 : Nat) (cA3 : Option Addr) (cN3 cC3 : Nat) (cA4 : Option Addr) (cN4 cC4 : Nat) (cA5 : Option Addr) (cN5 cC5 : Nat) (cA6 : Option Addr) (cN6 cC6 : Nat) (cA7 : Option Addr) (cN7 cC7 : Nat) (cA8 : Option Addr) (cN8 cC8 : Nat) (cA9 : Option Addr) (cN9 cC9 : Nat) (tA : Option Addr) (tN tC : Nat) (tA1 : Option Addr) (tN1 tC1 : Nat) (t : Int) (R : Value → Heap → Prop) (h : Heap) : Prop :=
 let h_ : Heap := (h).push (.cells (Value.cells (.agg #[.int .i64 c, .slice cA cN cC, .slice cA1 cN1 cC1, .slice cA2 cN2 cC2, .slice cA3 cN3 cC3, .slice cA4 cN4 cC4, .slice cA5 cN5 cC5, .slice cA6 cN6 cC6, .slice cA7 cN7 cC7, .slice cA8 cN8 cC8, .slice cA9 cN9 cC9])) 29); let h_1 : Heap := (h_).push (.cells (Value.cells (.agg #[.slice tA tN tC, .slice tA1 tN1 tC1, .int .i64 t])) 33); ∃ (A : Option Addr) (N C : Nat), cellH h_1 (Addr.add ⟨h_.size, 0, none⟩ 1) = some (.slice A N C) ∧ ∃ (A1 : Option Addr) (N1 C1 : Nat), cellH h_1 (Addr.add ⟨h_.size, 0, none⟩ 0) = some (.slice A1 N1 C1) ∧ ∃ (A2 : Option Addr) (N2 C2 : Nat), cellH h_1 (Addr.add ⟨h.size, 0, none⟩ 2) = some (.slice A2 N2 C2) ∧ PIf ((((N1 : Nat) : Int) : Int) = ((N2 : Nat) : Int))
 (PIf ((((N : Nat) : Int) : Int) < 1)
 (R (.bool false) h_1)
 (PIf ((512 : Int) < ((N : Nat) : Int))
 (R (.bool false) h_1)
 (∃ (t1 : Int), cellH h_1 (Addr.add ⟨h_.size, 0, none⟩ 2) = some (.int .i64 t1) ∧ PIf (t1 < (-1))
 (R (.bool false) h_1)
 (∃ (t2 : Int), cellH h_1 (Addr.add ⟨h_.size, 0, none⟩ 2) = some (.int .i64 t2) ∧ PIf ((((N : Nat) : Int) : Int) ≤ t2)
 (R (.bool false) h_1)
 (J18_0 R h h_ N h_1)))))
 (R (.bool false) h_1)
theorem vc18 (P : Program) (c : Int) (cA : Option Addr) (cN cC : Nat) (cA1 : Option Addr) (cN1 cC1 : Nat) (cA2 : Option Addr) (cN2 cC2 : Nat) (cA3 : Option Addr) (cN3 cC3 : Nat) (cA4 : Option Addr) (cN4 cC4 : Nat) (cA5 : Option Addr) (cN5 cC5 : Nat) (cA6 : Option Addr) (cN6 cC6 : Nat) (cA7 : Option Addr) (cN7 cC7 : Nat) (cA8 : Option Addr) (cN8 cC8 : Nat) (cA9 : Option Addr) (cN9 cC9 : Nat) (tA : Option Addr) (tN tC : Nat) (tA1 : Option Addr) (tN1 tC1 : Nat) (t : Int) (R : Value → Heap → Prop) (h : Heap) : fnC P ret18 code18 [(.agg #[.int .i64 c, .slice cA cN cC, .slice cA1 cN1 cC1, .slice cA2 cN2 cC2, .slice cA3 cN3 cC3, .slice cA4 cN4 cC4, .slice cA5 cN5 cC5, .slice cA6 cN6 cC6, .slice cA7 cN7 cC7, .slice cA8 cN8 cC8, .slice cA9 cN9 cC9]), (.agg #[.slice tA tN tC, .slice tA1 tN1 tC1, .int .i64 t])] h R = VC18 P c cA cN cC cA1 cN1 cC1 cA2 cN2 cC2 cA3 cN3 cC3 cA4 cN4 cC4 cA5 cN5 cC5 cA6 cN6 cC6 cA7 cN7 cC7 cA8 cN8 cC8 cA9 cN9 cC9 tA tN tC tA1 tN1 tC1 t R h := by kernel_rfl
theorem run18 (c : Int) (cA : Option Addr) (cN cC : Nat) (cA1 : Option Addr) (cN1 cC1 : Nat) (cA2 : Option Addr) (cN2 cC2 : Nat) (cA3 : Option Addr) (cN3 cC3 : Nat) (cA4 : Option Addr) (cN4 cC4 : Nat) (cA5 : Option Addr) (cN5 cC5 : Nat) (cA6 : Option Addr) (cN6 cC6 : Nat) (cA7 : Option Addr) (cN7 cC7 : Nat) (cA8 : Option Addr) (cN8 cC8 : Nat) (cA9 : Option Addr) (cN9 cC9 : Nat) (tA : Option Addr) (tN tC : Nat) (tA1 : Option Addr) (tN1 tC1 : Nat) (t : Int) (R : Value → Heap → Prop) (h : Heap) (hv : VC18 Tryz.prog c cA cN cC cA1 cN1 cC1 cA2 cN2 cC2 cA3 cN3 cC3 cA4 cN4 cC4 cA5 cN5 cC5 cA6 cN6 cC6 cA7 cN7 cC7 cA8 cN8 cC8 cA9 cN9 cC9 tA tN tC tA1 tN1 tC1 t R h) : CallsH Tryz.prog 18 #[(.agg #[.int .i64 c, .slice cA cN cC, .slice cA1 cN1 cC1, .slice cA2 cN2 cC2, .slice cA3 cN3 cC3, .slice cA4 cN4 cC4, .slice cA5 cN5 cC5, .slice cA6 cN6 cC6, .slice cA7 cN7 cC7, .slice cA8 cN8 cC8, .slice cA9 cN9 cC9]), (.agg #[.slice tA tN tC, .slice tA1 tN1 tC1, .int .i64 t])] h R := calls_of_fnC (Checked.mixed Tryz.checked) Tryz.func18 comp18 (Nat.le_of_ble_eq_true rfl) (by rw [vc18]; exact hv)
end Go.Proofs.YtpmpacdjcfijbaaGreat
