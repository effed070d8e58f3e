/- Words and facts that the claim's proof leans on. No condition. -/
import Derived.Test.YtpmpacdjcfijbaaHxK
import Derived.Test.YtpmpacdjcfijbaaChecked
set_option maxRecDepth 100000
set_option linter.unusedVariables false
namespace Go.Proofs.Ytpmpacdjcfijbaa
open Go.Hx
/-! 30: trestle/replay.Reached -/
def loops30 : List (List (Nat × Shp)) := [[(9, .slice), (24, .int .i64)]]
noncomputable def code30 : SCode := ((compF Try.prog Try.f30 loops30).elim .skip fun x => x.2.2)
def ret30 : List RV := [.tmp 4, .tmp 5]
theorem comp30 : compF Try.prog Try.f30 loops30 = some (37, ret30, code30) := by kernel_rfl
def J30_2  (A12 : (Option Addr)) (N12 : Nat) (outA : (Option Addr)) (outN outC : Nat) (t5 : Int) (next_ : ((Option Addr × Nat × Nat) × Int → Heap → Prop)) (h_5 : Heap) : Prop :=
 0 ≤ t5 ∧ t5 < (N12 : Nat) ∧ AtP A12 fun ad => ∃ (A13 : Option Addr) (N13 C13 : Nat) (t6 : Bool) (A14 : Option Addr) (N14 C14 : Nat) (A15 : Option Addr) (N15 C15 : Nat), cellsH h_5 (Addr.add ad (Int.toNat t5 * 4)) 0 [.slice A13 N13 C13, .bool t6, .slice A14 N14 C14, .slice A15 N15 C15] ∧ let h_6 : Heap := (h_5).push (.cells #[.slice none 0 0, .bool false, .slice none 0 0, .slice none 0 0] 55); StoreH h_6 ⟨h_5.size, 0, none⟩ [.slice A13 N13 C13, .bool t6, .slice A14 N14 C14, .slice A15 N15 C15] fun h_7 => ∃ (A16 : Option Addr) (N16 C16 : Nat), cellH h_7 (Addr.add ⟨h_5.size, 0, none⟩ 2) = some (.slice A16 N16 C16) ∧ ∃ ys : List Value, ReadL h_7 A16 ys ∧ ys.length = N16 * 1 ∧ AppS h_7 outA outN outC 3 8 1 #[.int .i64 0] ys N16 fun apA apN apC h_8 => next_ ((apA, apN, apC), (IntKind.wrap .i64 (t5 + 1))) h_8
def J30_1  (P : Program) (R : Value → Heap → Prop) (outA1 : Option Addr) (outN1 outC1 : Nat) (h_9 : Heap) : Prop :=
 CallsH P 62 #[.slice outA1 outN1 outC1] h_9 fun v1 h_10 =>
 v1 = (.tuple #[]) ∧ CallsH P 63 #[.slice outA1 outN1 outC1] h_10 fun v2 h_11 =>
 ∃ (A17 : Option Addr) (N17 C17 : Nat), v2 = (.slice A17 N17 C17) ∧ R (.tuple #[.slice A17 N17 C17, .int .i64 0]) h_11
def B30_4 (P : Program) (R : Value → Heap → Prop) (A12 : (Option Addr)) (N12 : Nat) (outA : Option Addr) (outN outC : Nat) (t5 : Int) (h_4 : Heap) (next_ : (Option Addr × Nat × Nat) × Int → Heap → Prop) : Prop :=
 PIf (t5 < ((N12 : Nat) : Int))
 (J30_2 A12 N12 outA outN outC t5 next_ h_4)
 (J30_1 P R (outA) (outN) (outC) h_4)
def J30_0  (P : Program) (R : Value → Heap → Prop) (A12 : (Option Addr)) (N12 : Nat) (h_3 : Heap) : Prop :=
 LoopT (σ := (Option Addr × Nat × Nat) × Int) (fun st_ h_st nx_st => B30_4 P R A12 N12 (st_.1.1) (st_.1.2.1) (st_.1.2.2) (st_.2) h_st nx_st) ((none, 0, 0), 0) h_3
def VC30 (P : Program) (c : Int) (cA : Option Addr) (cN cC : Nat) (cA1 : Option Addr) (cN1 cC1 : Nat) (cA2 : Option Addr) (cN2 cC2 : Nat) (cA3 : Option Addr) (cN3 cC3 : Nat) (cA4 : Option Addr) (cN4 cC4 : Nat) (cA5 : Option Addr) (cN5 cC5 : Nat) (cA6 : Option Addr) (cN6 cC6 : Nat) (cA7 : Option Addr) (cN7 cC7 : Nat) (cA8 : Option Addr) (cN8 cC8 : Nat) (cA9 : Option Addr) (cN9 cC9 : Nat) (tA : Option Addr) (tN tC : Nat) (tA1 : Option Addr) (tN1 tC1 : Nat) (t : Int) (R : Value → Heap → Prop) (h : Heap) : Prop :=
 let h_ : Heap := (h).push (.cells (Value.cells (.agg #[.int .i64 c, .slice cA cN cC, .slice cA1 cN1 cC1, .slice cA2 cN2 cC2, .slice cA3 cN3 cC3, .slice cA4 cN4 cC4, .slice cA5 cN5 cC5, .slice cA6 cN6 cC6, .slice cA7 cN7 cC7, .slice cA8 cN8 cC8, .slice cA9 cN9 cC9])) 29); let h_1 : Heap := (h_).push (.cells (Value.cells (.agg #[.slice tA tN tC, .slice tA1 tN1 tC1, .int .i64 t])) 35); ∃ (t1 : Int) (A : Option Addr) (N C : Nat) (A1 : Option Addr) (N1 C1 : Nat) (A2 : Option Addr) (N2 C2 : Nat) (A3 : Option Addr) (N3 C3 : Nat) (A4 : Option Addr) (N4 C4 : Nat) (A5 : Option Addr) (N5 C5 : Nat) (A6 : Option Addr) (N6 C6 : Nat) (A7 : Option Addr) (N7 C7 : Nat) (A8 : Option Addr) (N8 C8 : Nat) (A9 : Option Addr) (N9 C9 : Nat), cellsH h_1 ⟨h.size, 0, none⟩ 0 [.int .i64 t1, .slice A N C, .slice A1 N1 C1, .slice A2 N2 C2, .slice A3 N3 C3, .slice A4 N4 C4, .slice A5 N5 C5, .slice A6 N6 C6, .slice A7 N7 C7, .slice A8 N8 C8, .slice A9 N9 C9] ∧ ∃ (A10 : Option Addr) (N10 C10 : Nat) (A11 : Option Addr) (N11 C11 : Nat) (t2 : Int), cellsH h_1 ⟨h_.size, 0, none⟩ 0 [.slice A10 N10 C10, .slice A11 N11 C11, .int .i64 t2] ∧ CallsH P 61 #[(.agg #[.int .i64 t1, .slice A N C, .slice A1 N1 C1, .slice A2 N2 C2, .slice A3 N3 C3, .slice A4 N4 C4, .slice A5 N5 C5, .slice A6 N6 C6, .slice A7 N7 C7, .slice A8 N8 C8, .slice A9 N9 C9]), (.agg #[.slice A10 N10 C10, .slice A11 N11 C11, .int .i64 t2])] h_1 fun v h_2 =>
 ∃ (A12 : Option Addr) (N12 C12 : Nat) (t3 t4 : Int), v = (.tuple #[.slice A12 N12 C12, .int .i64 t3, .int .i64 t4]) ∧ PIf (t4 = 0)
 (J30_0 P R A12 N12 h_2)
 (R (.tuple #[.slice none 0 0, .int .i64 t4]) h_2)
theorem vc30 (P : Program) (c : Int) (cA : Option Addr) (cN cC : Nat) (cA1 : Option Addr) (cN1 cC1 : Nat) (cA2 : Option Addr) (cN2 cC2 : Nat) (cA3 : Option Addr) (cN3 cC3 : Nat) (cA4 : Option Addr) (cN4 cC4 : Nat) (cA5 : Option Addr) (cN5 cC5 : Nat) (cA6 : Option Addr) (cN6 cC6 : Nat) (cA7 : Option Addr) (cN7 cC7 : Nat) (cA8 : Option Addr) (cN8 cC8 : Nat) (cA9 : Option Addr) (cN9 cC9 : Nat) (tA : Option Addr) (tN tC : Nat) (tA1 : Option Addr) (tN1 tC1 : Nat) (t : Int) (R : Value → Heap → Prop) (h : Heap) : fnC P ret30 code30 [(.agg #[.int .i64 c, .slice cA cN cC, .slice cA1 cN1 cC1, .slice cA2 cN2 cC2, .slice cA3 cN3 cC3, .slice cA4 cN4 cC4, .slice cA5 cN5 cC5, .slice cA6 cN6 cC6, .slice cA7 cN7 cC7, .slice cA8 cN8 cC8, .slice cA9 cN9 cC9]), (.agg #[.slice tA tN tC, .slice tA1 tN1 tC1, .int .i64 t])] h R = VC30 P c cA cN cC cA1 cN1 cC1 cA2 cN2 cC2 cA3 cN3 cC3 cA4 cN4 cC4 cA5 cN5 cC5 cA6 cN6 cC6 cA7 cN7 cC7 cA8 cN8 cC8 cA9 cN9 cC9 tA tN tC tA1 tN1 tC1 t R h := by kernel_rfl
theorem run30 (c : Int) (cA : Option Addr) (cN cC : Nat) (cA1 : Option Addr) (cN1 cC1 : Nat) (cA2 : Option Addr) (cN2 cC2 : Nat) (cA3 : Option Addr) (cN3 cC3 : Nat) (cA4 : Option Addr) (cN4 cC4 : Nat) (cA5 : Option Addr) (cN5 cC5 : Nat) (cA6 : Option Addr) (cN6 cC6 : Nat) (cA7 : Option Addr) (cN7 cC7 : Nat) (cA8 : Option Addr) (cN8 cC8 : Nat) (cA9 : Option Addr) (cN9 cC9 : Nat) (tA : Option Addr) (tN tC : Nat) (tA1 : Option Addr) (tN1 tC1 : Nat) (t : Int) (R : Value → Heap → Prop) (h : Heap) (hv : VC30 Try.prog c cA cN cC cA1 cN1 cC1 cA2 cN2 cC2 cA3 cN3 cC3 cA4 cN4 cC4 cA5 cN5 cC5 cA6 cN6 cC6 cA7 cN7 cC7 cA8 cN8 cC8 cA9 cN9 cC9 tA tN tC tA1 tN1 tC1 t R h) : CallsH Try.prog 30 #[(.agg #[.int .i64 c, .slice cA cN cC, .slice cA1 cN1 cC1, .slice cA2 cN2 cC2, .slice cA3 cN3 cC3, .slice cA4 cN4 cC4, .slice cA5 cN5 cC5, .slice cA6 cN6 cC6, .slice cA7 cN7 cC7, .slice cA8 cN8 cC8, .slice cA9 cN9 cC9]), (.agg #[.slice tA tN tC, .slice tA1 tN1 tC1, .int .i64 t])] h R := calls_of_fnC (Checked.mixed Try.checked) Try.func30 comp30 (Nat.le_of_ble_eq_true rfl) (by rw [vc30]; exact hv)
/-! 6: trestle/trestlelaw13.ReplayCuts -/
def loops6 : List (List (Nat × Shp)) := [[(41, .int .i64)], [(8, .bool), (9, .int .i64)], [(12, .bool), (71, .int .i64)]]
noncomputable def code6 : SCode := ((compF Try.prog Try.f6 loops6).elim .skip fun x => x.2.2)
def ret6 : List RV := [.tmp 4]
theorem comp6 : compF Try.prog Try.f6 loops6 = some (86, ret6, code6) := by kernel_rfl
def J6_6  (P : Program) (h h_ : Heap) (t5 : Int) (taken : Bool) (k : Int) (next_1 : (Bool × Int → Heap → Prop)) (h_9 : Heap) : Prop :=
 ∃ (t6 : Int) (A16 : Option Addr) (N16 C16 : Nat) (A17 : Option Addr) (N17 C17 : Nat) (A18 : Option Addr) (N18 C18 : Nat) (A19 : Option Addr) (N19 C19 : Nat) (A20 : Option Addr) (N20 C20 : Nat) (A21 : Option Addr) (N21 C21 : Nat) (A22 : Option Addr) (N22 C22 : Nat) (A23 : Option Addr) (N23 C23 : Nat) (A24 : Option Addr) (N24 C24 : Nat) (A25 : Option Addr) (N25 C25 : Nat), cellsH h_9 ⟨h.size, 0, none⟩ 0 [.int .i64 t6, .slice A16 N16 C16, .slice A17 N17 C17, .slice A18 N18 C18, .slice A19 N19 C19, .slice A20 N20 C20, .slice A21 N21 C21, .slice A22 N22 C22, .slice A23 N23 C23, .slice A24 N24 C24, .slice A25 N25 C25] ∧ ∃ (A26 : Option Addr) (N26 C26 : Nat), cellH h_9 (Addr.add ⟨h_.size, 0, none⟩ 0) = some (.slice A26 N26 C26) ∧ ∃ (A27 : Option Addr) (N27 C27 : Nat), cellH h_9 (Addr.add ⟨h_.size, 0, none⟩ 1) = some (.slice A27 N27 C27) ∧ 0 ≤ (0 : Int) ∧ (0 : Int) ≤ k ∧ k ≤ (C27 : Nat) ∧ CallsH P 17 #[(.agg #[.int .i64 t6, .slice A16 N16 C16, .slice A17 N17 C17, .slice A18 N18 C18, .slice A19 N19 C19, .slice A20 N20 C20, .slice A21 N21 C21, .slice A22 N22 C22, .slice A23 N23 C23, .slice A24 N24 C24, .slice A25 N25 C25]), .int .i64 t5, (.agg #[.slice A26 N26 C26, (.slice (cutA 1 A27 C27 (Int.toNat 0)) (Int.toNat k - Int.toNat 0) (C27 - Int.toNat 0)), (.int .i64 (-1))])] h_9 fun v2 h_10 =>
 ∃ (t7 t8 : Int), v2 = (.tuple #[.int .i64 t7, .int .i64 t8]) ∧ BIf taken (next_1 (true, (IntKind.wrap .i64 (k + 1))) h_10) (PIf (t8 = 0)
 (next_1 (true, (IntKind.wrap .i64 (k + 1))) h_10)
 (next_1 (false, (IntKind.wrap .i64 (k + 1))) h_10))
def J6_8  (A12 : (Option Addr)) (N12 : Nat) (t5 : Int) (told : Bool) (t9 : Int) (next_2 : (Bool × Int → Heap → Prop)) (h_13 : Heap) : Prop :=
 0 ≤ t9 ∧ t9 < (N12 : Nat) ∧ AtP A12 fun ad => ∃ (t10 : Int), cellH h_13 (Addr.add ad (Int.toNat t9 * 1)) = some (.int .i64 t10) ∧ BIf told (next_2 (true, (IntKind.wrap .i64 (t9 + 1))) h_13) (PIf (t10 = t5)
 (next_2 (true, (IntKind.wrap .i64 (t9 + 1))) h_13)
 (next_2 (false, (IntKind.wrap .i64 (t9 + 1))) h_13))
def J6_4  (t5 : Int) (next_ : (Int → Heap → Prop)) (h_15 : Heap) : Prop :=
 next_ (IntKind.wrap .i64 (t5 + 1)) h_15
def J6_7  (R : Value → Heap → Prop) (t5 : Int) (next_ : (Int → Heap → Prop)) (taken1 told1 : Bool) (h_14 : Heap) : Prop :=
 PIf ((taken1 : Bool) = told1)
 (J6_4 t5 next_ h_14)
 (R (.bool false) h_14)
def B6_10 (R : Value → Heap → Prop) (A12 : (Option Addr)) (N12 : Nat) (t5 : Int) (next_ : (Int → Heap → Prop)) (taken1 told : Bool) (t9 : Int) (h_12 : Heap) (next_2 : Bool × Int → Heap → Prop) : Prop :=
 PIf (t9 < ((N12 : Nat) : Int))
 (J6_8 A12 N12 t5 told t9 next_2 h_12)
 (J6_7 R t5 next_ taken1 (told) h_12)
def J6_5  (R : Value → Heap → Prop) (A12 : (Option Addr)) (N12 : Nat) (t5 : Int) (next_ : (Int → Heap → Prop)) (taken1 : Bool) (h_11 : Heap) : Prop :=
 LoopT (σ := Bool × Int) (fun st_ h_st nx_st => B6_10 R A12 N12 t5 next_ taken1 (st_.1) (st_.2) h_st nx_st) (false, 0) h_11
def B6_11 (P : Program) (R : Value → Heap → Prop) (h h_ : Heap) (A12 : (Option Addr)) (N12 : Nat) (t5 : Int) (next_ : (Int → Heap → Prop)) (taken : Bool) (k : Int) (h_8 : Heap) (next_1 : Bool × Int → Heap → Prop) : Prop :=
 ∃ (A15 : Option Addr) (N15 C15 : Nat), cellH h_8 (Addr.add ⟨h_.size, 0, none⟩ 1) = some (.slice A15 N15 C15) ∧ PIf (k ≤ ((N15 : Nat) : Int))
 (J6_6 P h h_ t5 taken k next_1 h_8)
 (J6_5 R A12 N12 t5 next_ (taken) h_8)
def J6_3  (P : Program) (R : Value → Heap → Prop) (h h_ : Heap) (A12 : (Option Addr)) (N12 : Nat) (t5 : Int) (next_ : (Int → Heap → Prop)) (h_7 : Heap) : Prop :=
 LoopT (σ := Bool × Int) (fun st_ h_st nx_st => B6_11 P R h h_ A12 N12 t5 next_ (st_.1) (st_.2) h_st nx_st) (false, 1) h_7
def J6_2  (R : Value → Heap → Prop) (h_16 : Heap) : Prop :=
 R (.bool true) h_16
def B6_13 (P : Program) (R : Value → Heap → Prop) (h h_ : Heap) (A12 : (Option Addr)) (N12 N14 : Nat) (t5 : Int) (h_6 : Heap) (next_ : Int → Heap → Prop) : Prop :=
 PIf (t5 < ((N14 : Nat) : Int))
 (J6_3 P R h h_ A12 N12 t5 next_ h_6)
 (J6_2 R h_6)
def J6_1  (P : Program) (R : Value → Heap → Prop) (h h_ : Heap) (A12 : (Option Addr)) (N12 : Nat) (h_5 : Heap) : Prop :=
 ∃ (A14 : Option Addr) (N14 C14 : Nat), cellH h_5 (Addr.add ⟨h.size, 0, none⟩ 4) = some (.slice A14 N14 C14) ∧ LoopT (σ := Int) (fun st_ h_st nx_st => B6_13 P R h h_ A12 N12 N14 (st_) h_st nx_st) (0) h_5
def J6_0  (P : Program) (R : Value → Heap → Prop) (h h_ h_3 : Heap) : Prop :=
 ∃ (t2 : Int) (A : Option Addr) (N C : Nat) (A1 : Option Addr) (N1 C1 : Nat) (A2 : Option Addr) (N2 C2 : Nat) (A3 : Option Addr) (N3 C3 : Nat) (A4 : Option Addr) (N4 C4 : Nat) (A5 : Option Addr) (N5 C5 : Nat) (A6 : Option Addr) (N6 C6 : Nat) (A7 : Option Addr) (N7 C7 : Nat) (A8 : Option Addr) (N8 C8 : Nat) (A9 : Option Addr) (N9 C9 : Nat), cellsH h_3 ⟨h.size, 0, none⟩ 0 [.int .i64 t2, .slice A N C, .slice A1 N1 C1, .slice A2 N2 C2, .slice A3 N3 C3, .slice A4 N4 C4, .slice A5 N5 C5, .slice A6 N6 C6, .slice A7 N7 C7, .slice A8 N8 C8, .slice A9 N9 C9] ∧ ∃ (A10 : Option Addr) (N10 C10 : Nat) (A11 : Option Addr) (N11 C11 : Nat) (t3 : Int), cellsH h_3 ⟨h_.size, 0, none⟩ 0 [.slice A10 N10 C10, .slice A11 N11 C11, .int .i64 t3] ∧ CallsH P 30 #[(.agg #[.int .i64 t2, .slice A N C, .slice A1 N1 C1, .slice A2 N2 C2, .slice A3 N3 C3, .slice A4 N4 C4, .slice A5 N5 C5, .slice A6 N6 C6, .slice A7 N7 C7, .slice A8 N8 C8, .slice A9 N9 C9]), (.agg #[.slice A10 N10 C10, .slice A11 N11 C11, .int .i64 t3])] h_3 fun v1 h_4 =>
 ∃ (A12 : Option Addr) (N12 C12 : Nat) (t4 : Int), v1 = (.tuple #[.slice A12 N12 C12, .int .i64 t4]) ∧ PIf (t4 = 0)
 (∃ (A13 : Option Addr) (N13 C13 : Nat), cellH h_4 (Addr.add ⟨h_.size, 0, none⟩ 1) = some (.slice A13 N13 C13) ∧ PIf ((40 : Int) < ((N13 : Nat) : Int))
 (PIf (t4 = 0)
 (R (.bool true) h_4)
 (PIf ((((N12 : Nat) : Int) : Int) = 0)
 (R (.bool true) h_4)
 (R (.bool false) h_4)))
 (J6_1 P R h h_ A12 N12 h_4))
 (PIf (t4 = 0)
 (R (.bool true) h_4)
 (PIf ((((N12 : Nat) : Int) : Int) = 0)
 (R (.bool true) h_4)
 (R (.bool false) h_4)))
def VC6 (P : Program) (c : Int) (cA : Option Addr) (cN cC : Nat) (cA1 : Option Addr) (cN1 cC1 : Nat) (cA2 : Option Addr) (cN2 cC2 : Nat) (cA3 : Option Addr) (cN3 cC3 : Nat) (cA4 : Option Addr) (cN4 cC4 : Nat) (cA5 : Option Addr) (cN5 cC5 : Nat) (cA6 : Option Addr) (cN6 cC6 : Nat) (cA7 : Option Addr) (cN7 cC7 : Nat) (cA8 : Option Addr) (cN8 cC8 : Nat) (cA9 : Option Addr) (cN9 cC9 : Nat) (tA : Option Addr) (tN tC : Nat) (tA1 : Option Addr) (tN1 tC1 : Nat) (t : Int) (R : Value → Heap → Prop) (h : Heap) : Prop :=
 let h_ : Heap := (h).push (.cells (Value.cells (.agg #[.int .i64 c, .slice cA cN cC, .slice cA1 cN1 cC1, .slice cA2 cN2 cC2, .slice cA3 cN3 cC3, .slice cA4 cN4 cC4, .slice cA5 cN5 cC5, .slice cA6 cN6 cC6, .slice cA7 cN7 cC7, .slice cA8 cN8 cC8, .slice cA9 cN9 cC9])) 29); let h_1 : Heap := (h_).push (.cells (Value.cells (.agg #[.slice tA tN tC, .slice tA1 tN1 tC1, .int .i64 t])) 35); CallsH P 23 #[] h_1 fun v h_2 =>
 ∃ (t1 : Bool), v = (.bool t1) ∧ BIf (!t1) (R (.bool false) h_2) (J6_0 P R h h_ h_2)
theorem vc6 (P : Program) (c : Int) (cA : Option Addr) (cN cC : Nat) (cA1 : Option Addr) (cN1 cC1 : Nat) (cA2 : Option Addr) (cN2 cC2 : Nat) (cA3 : Option Addr) (cN3 cC3 : Nat) (cA4 : Option Addr) (cN4 cC4 : Nat) (cA5 : Option Addr) (cN5 cC5 : Nat) (cA6 : Option Addr) (cN6 cC6 : Nat) (cA7 : Option Addr) (cN7 cC7 : Nat) (cA8 : Option Addr) (cN8 cC8 : Nat) (cA9 : Option Addr) (cN9 cC9 : Nat) (tA : Option Addr) (tN tC : Nat) (tA1 : Option Addr) (tN1 tC1 : Nat) (t : Int) (R : Value → Heap → Prop) (h : Heap) : fnC P ret6 code6 [(.agg #[.int .i64 c, .slice cA cN cC, .slice cA1 cN1 cC1, .slice cA2 cN2 cC2, .slice cA3 cN3 cC3, .slice cA4 cN4 cC4, .slice cA5 cN5 cC5, .slice cA6 cN6 cC6, .slice cA7 cN7 cC7, .slice cA8 cN8 cC8, .slice cA9 cN9 cC9]), (.agg #[.slice tA tN tC, .slice tA1 tN1 tC1, .int .i64 t])] h R = VC6 P c cA cN cC cA1 cN1 cC1 cA2 cN2 cC2 cA3 cN3 cC3 cA4 cN4 cC4 cA5 cN5 cC5 cA6 cN6 cC6 cA7 cN7 cC7 cA8 cN8 cC8 cA9 cN9 cC9 tA tN tC tA1 tN1 tC1 t R h := by kernel_rfl
theorem run6 (c : Int) (cA : Option Addr) (cN cC : Nat) (cA1 : Option Addr) (cN1 cC1 : Nat) (cA2 : Option Addr) (cN2 cC2 : Nat) (cA3 : Option Addr) (cN3 cC3 : Nat) (cA4 : Option Addr) (cN4 cC4 : Nat) (cA5 : Option Addr) (cN5 cC5 : Nat) (cA6 : Option Addr) (cN6 cC6 : Nat) (cA7 : Option Addr) (cN7 cC7 : Nat) (cA8 : Option Addr) (cN8 cC8 : Nat) (cA9 : Option Addr) (cN9 cC9 : Nat) (tA : Option Addr) (tN tC : Nat) (tA1 : Option Addr) (tN1 tC1 : Nat) (t : Int) (R : Value → Heap → Prop) (h : Heap) (hv : VC6 Try.prog c cA cN cC cA1 cN1 cC1 cA2 cN2 cC2 cA3 cN3 cC3 cA4 cN4 cC4 cA5 cN5 cC5 cA6 cN6 cC6 cA7 cN7 cC7 cA8 cN8 cC8 cA9 cN9 cC9 tA tN tC tA1 tN1 tC1 t R h) : CallsH Try.prog 6 #[(.agg #[.int .i64 c, .slice cA cN cC, .slice cA1 cN1 cC1, .slice cA2 cN2 cC2, .slice cA3 cN3 cC3, .slice cA4 cN4 cC4, .slice cA5 cN5 cC5, .slice cA6 cN6 cC6, .slice cA7 cN7 cC7, .slice cA8 cN8 cC8, .slice cA9 cN9 cC9]), (.agg #[.slice tA tN tC, .slice tA1 tN1 tC1, .int .i64 t])] h R := calls_of_fnC (Checked.mixed Try.checked) Try.func6 comp6 (Nat.le_of_ble_eq_true rfl) (by rw [vc6]; exact hv)
end Go.Proofs.Ytpmpacdjcfijbaa
