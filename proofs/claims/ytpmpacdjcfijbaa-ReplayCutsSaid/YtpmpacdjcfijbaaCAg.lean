/- Words and facts that the claim's proof leans on. No condition. -/
import Derived.Test.YtpmpacdjcfijbaaHxK
import Derived.Test.YtpmpacdjcfijbaaChecked
set_option maxRecDepth 100000
set_option linter.unusedVariables false
namespace Go.Proofs.Ytpmpacdjcfijbaa
open Go.Hx
/-! 4: trestle/trestlelaw13.ReplayAgain -/
def loops4 : List (List (Nat × Shp)) := []
noncomputable def code4 : SCode := ((compF Try.prog Try.f4 loops4).elim .skip fun x => x.2.2)
def ret4 : List RV := [.tmp 6]
theorem comp4 : compF Try.prog Try.f4 loops4 = some (96, ret4, code4) := by kernel_rfl
def J4_2  (P : Program) (R : Value → Heap → Prop) (h : Heap) (j : Int) (h_ : Heap) (t4 : Int) (h_6 : Heap) : Prop :=
 ∃ (A13 : Option Addr) (N13 C13 : Nat), cellH h_6 (Addr.add ⟨h_.size, 0, none⟩ 1) = some (.slice A13 N13 C13) ∧ ∃ zn : Zone, let h_7 : Heap := (h_6).push (.cells #[] 32); Zone.r zn h_6 h_7 ∧ Zone.hasL zn h_7 (Addr.add ⟨h_.size, 0, none⟩ 1) ∧ ∃ (A14 : Option Addr) (N14 C14 : Nat), cellH h_7 (Addr.add ⟨h_.size, 0, none⟩ 1) = some (.slice A14 N14 C14) ∧ ∃ ys : List Value, ReadL h_7 A14 ys ∧ ys.length = N14 * 1 ∧ AppS h_7 (some ⟨h_6.size, 0, none⟩) 0 0 32 24 1 #[.slice none 0 0] ys N14 fun apA apN apC h_8 => Zone.r zn h_7 h_8 ∧ Zone.hasL zn h_8 (Addr.add ⟨h_.size, 0, none⟩ 1) ∧ ∃ (A15 : Option Addr) (N15 C15 : Nat), cellH h_8 (Addr.add ⟨h_.size, 0, none⟩ 1) = some (.slice A15 N15 C15) ∧ 0 ≤ t4 ∧ t4 ≤ ((N15 : Nat) : Int) ∧ (((N15 : Nat) : Int) : Int) ≤ (C15 : Nat) ∧ ∃ ys1 : List Value, ReadL h_8 (cutA 1 A15 C15 (Int.toNat t4)) ys1 ∧ ys1.length = (Int.toNat ((N15 : Nat) : Int) - Int.toNat t4) * 1 ∧ AppS h_8 apA apN apC 32 24 1 #[.slice none 0 0] ys1 (Int.toNat ((N15 : Nat) : Int) - Int.toNat t4) fun apA1 apN1 apC1 h_9 => Zone.r zn h_8 h_9 ∧ ∃ (t7 : Int) (A16 : Option Addr) (N16 C16 : Nat) (A17 : Option Addr) (N17 C17 : Nat) (A18 : Option Addr) (N18 C18 : Nat) (A19 : Option Addr) (N19 C19 : Nat) (A20 : Option Addr) (N20 C20 : Nat) (A21 : Option Addr) (N21 C21 : Nat) (A22 : Option Addr) (N22 C22 : Nat) (A23 : Option Addr) (N23 C23 : Nat) (A24 : Option Addr) (N24 C24 : Nat) (A25 : Option Addr) (N25 C25 : Nat), cellsH h_9 ⟨h.size, 0, none⟩ 0 [.int .i64 t7, .slice A16 N16 C16, .slice A17 N17 C17, .slice A18 N18 C18, .slice A19 N19 C19, .slice A20 N20 C20, .slice A21 N21 C21, .slice A22 N22 C22, .slice A23 N23 C23, .slice A24 N24 C24, .slice A25 N25 C25] ∧ ∃ (A26 : Option Addr) (N26 C26 : Nat), cellH h_9 (Addr.add ⟨h_.size, 0, none⟩ 0) = some (.slice A26 N26 C26) ∧ CallsH P 19 #[(.agg #[.int .i64 t7, .slice A16 N16 C16, .slice A17 N17 C17, .slice A18 N18 C18, .slice A19 N19 C19, .slice A20 N20 C20, .slice A21 N21 C21, .slice A22 N22 C22, .slice A23 N23 C23, .slice A24 N24 C24, .slice A25 N25 C25]), .int .i64 j, (.agg #[.slice A26 N26 C26, .slice apA1 apN1 apC1, .int .i64 t4])] h_9 fun v2 h_10 =>
 ∃ (t8 t9 : Int), v2 = (.tuple #[.int .i64 t8, .int .i64 t9]) ∧ ∃ (t10 : Int) (A27 : Option Addr) (N27 C27 : Nat) (A28 : Option Addr) (N28 C28 : Nat) (A29 : Option Addr) (N29 C29 : Nat) (A30 : Option Addr) (N30 C30 : Nat) (A31 : Option Addr) (N31 C31 : Nat) (A32 : Option Addr) (N32 C32 : Nat) (A33 : Option Addr) (N33 C33 : Nat) (A34 : Option Addr) (N34 C34 : Nat) (A35 : Option Addr) (N35 C35 : Nat) (A36 : Option Addr) (N36 C36 : Nat), cellsH h_10 ⟨h.size, 0, none⟩ 0 [.int .i64 t10, .slice A27 N27 C27, .slice A28 N28 C28, .slice A29 N29 C29, .slice A30 N30 C30, .slice A31 N31 C31, .slice A32 N32 C32, .slice A33 N33 C33, .slice A34 N34 C34, .slice A35 N35 C35, .slice A36 N36 C36] ∧ ∃ (A37 : Option Addr) (N37 C37 : Nat), cellH h_10 (Addr.add ⟨h_.size, 0, none⟩ 0) = some (.slice A37 N37 C37) ∧ CallsH P 19 #[(.agg #[.int .i64 t10, .slice A27 N27 C27, .slice A28 N28 C28, .slice A29 N29 C29, .slice A30 N30 C30, .slice A31 N31 C31, .slice A32 N32 C32, .slice A33 N33 C33, .slice A34 N34 C34, .slice A35 N35 C35, .slice A36 N36 C36]), .int .i64 j, (.agg #[.slice A37 N37 C37, .slice apA1 apN1 apC1, (.int .i64 ((N13 : Nat) : Int))])] h_10 fun v3 h_11 =>
 ∃ (t11 t12 : Int), v3 = (.tuple #[.int .i64 t11, .int .i64 t12]) ∧ PIf (t9 = 0)
 (PIf (t8 = t4)
 (PIf (t12 = 0)
 (PIf (t11 = ((N13 : Nat) : Int))
 (R (.bool true) h_11)
 (R (.bool false) h_11))
 (R (.bool false) h_11))
 (R (.bool false) h_11))
 (R (.bool false) h_11)
def J4_1  (P : Program) (R : Value → Heap → Prop) (h : Heap) (j : Int) (h_ : Heap) (t4 : Int) (h_5 : Heap) : Prop :=
 ∃ (t6 : Int), cellH h_5 (Addr.add ⟨h_.size, 0, none⟩ 2) = some (.int .i64 t6) ∧ PIf (t4 = t6)
 (PIf (t4 < 0)
 (R (.bool false) h_5)
 (J4_2 P R h j h_ t4 h_5))
 (R (.bool false) h_5)
def J4_0  (P : Program) (R : Value → Heap → Prop) (h : Heap) (j : Int) (h_ h_3 : Heap) : Prop :=
 ∃ (t2 : Int) (A : Option Addr) (N C : Nat) (A1 : Option Addr) (N1 C1 : Nat) (A2 : Option Addr) (N2 C2 : Nat) (A3 : Option Addr) (N3 C3 : Nat) (A4 : Option Addr) (N4 C4 : Nat) (A5 : Option Addr) (N5 C5 : Nat) (A6 : Option Addr) (N6 C6 : Nat) (A7 : Option Addr) (N7 C7 : Nat) (A8 : Option Addr) (N8 C8 : Nat) (A9 : Option Addr) (N9 C9 : Nat), cellsH h_3 ⟨h.size, 0, none⟩ 0 [.int .i64 t2, .slice A N C, .slice A1 N1 C1, .slice A2 N2 C2, .slice A3 N3 C3, .slice A4 N4 C4, .slice A5 N5 C5, .slice A6 N6 C6, .slice A7 N7 C7, .slice A8 N8 C8, .slice A9 N9 C9] ∧ ∃ (A10 : Option Addr) (N10 C10 : Nat) (A11 : Option Addr) (N11 C11 : Nat) (t3 : Int), cellsH h_3 ⟨h_.size, 0, none⟩ 0 [.slice A10 N10 C10, .slice A11 N11 C11, .int .i64 t3] ∧ CallsH P 19 #[(.agg #[.int .i64 t2, .slice A N C, .slice A1 N1 C1, .slice A2 N2 C2, .slice A3 N3 C3, .slice A4 N4 C4, .slice A5 N5 C5, .slice A6 N6 C6, .slice A7 N7 C7, .slice A8 N8 C8, .slice A9 N9 C9]), .int .i64 j, (.agg #[.slice A10 N10 C10, .slice A11 N11 C11, .int .i64 t3])] h_3 fun v1 h_4 =>
 ∃ (t4 t5 : Int), v1 = (.tuple #[.int .i64 t4, .int .i64 t5]) ∧ PIf (t5 = 0)
 (∃ (A12 : Option Addr) (N12 C12 : Nat), cellH h_4 (Addr.add ⟨h_.size, 0, none⟩ 1) = some (.slice A12 N12 C12) ∧ PIf ((200 : Int) < ((N12 : Nat) : Int))
 (PIf (t5 = 0)
 (R (.bool true) h_4)
 (PIf ((0 : Int) ≤ t4)
 (R (.bool true) h_4)
 (R (.bool false) h_4)))
 (J4_1 P R h j h_ t4 h_4))
 (PIf (t5 = 0)
 (R (.bool true) h_4)
 (PIf ((0 : Int) ≤ t4)
 (R (.bool true) h_4)
 (R (.bool false) h_4)))
def VC4 (P : Program) (c : Int) (cA : Option Addr) (cN cC : Nat) (cA1 : Option Addr) (cN1 cC1 : Nat) (cA2 : Option Addr) (cN2 cC2 : Nat) (cA3 : Option Addr) (cN3 cC3 : Nat) (cA4 : Option Addr) (cN4 cC4 : Nat) (cA5 : Option Addr) (cN5 cC5 : Nat) (cA6 : Option Addr) (cN6 cC6 : Nat) (cA7 : Option Addr) (cN7 cC7 : Nat) (cA8 : Option Addr) (cN8 cC8 : Nat) (cA9 : Option Addr) (cN9 cC9 : Nat) (j : Int) (tA : Option Addr) (tN tC : Nat) (tA1 : Option Addr) (tN1 tC1 : Nat) (t : Int) (R : Value → Heap → Prop) (h : Heap) : Prop :=
 let h_ : Heap := (h).push (.cells (Value.cells (.agg #[.int .i64 c, .slice cA cN cC, .slice cA1 cN1 cC1, .slice cA2 cN2 cC2, .slice cA3 cN3 cC3, .slice cA4 cN4 cC4, .slice cA5 cN5 cC5, .slice cA6 cN6 cC6, .slice cA7 cN7 cC7, .slice cA8 cN8 cC8, .slice cA9 cN9 cC9])) 29); let h_1 : Heap := (h_).push (.cells (Value.cells (.agg #[.slice tA tN tC, .slice tA1 tN1 tC1, .int .i64 t])) 35); CallsH P 23 #[] h_1 fun v h_2 =>
 ∃ (t1 : Bool), v = (.bool t1) ∧ BIf (!t1) (R (.bool false) h_2) (J4_0 P R h j h_ h_2)
theorem vc4 (P : Program) (c : Int) (cA : Option Addr) (cN cC : Nat) (cA1 : Option Addr) (cN1 cC1 : Nat) (cA2 : Option Addr) (cN2 cC2 : Nat) (cA3 : Option Addr) (cN3 cC3 : Nat) (cA4 : Option Addr) (cN4 cC4 : Nat) (cA5 : Option Addr) (cN5 cC5 : Nat) (cA6 : Option Addr) (cN6 cC6 : Nat) (cA7 : Option Addr) (cN7 cC7 : Nat) (cA8 : Option Addr) (cN8 cC8 : Nat) (cA9 : Option Addr) (cN9 cC9 : Nat) (j : Int) (tA : Option Addr) (tN tC : Nat) (tA1 : Option Addr) (tN1 tC1 : Nat) (t : Int) (R : Value → Heap → Prop) (h : Heap) : fnC P ret4 code4 [(.agg #[.int .i64 c, .slice cA cN cC, .slice cA1 cN1 cC1, .slice cA2 cN2 cC2, .slice cA3 cN3 cC3, .slice cA4 cN4 cC4, .slice cA5 cN5 cC5, .slice cA6 cN6 cC6, .slice cA7 cN7 cC7, .slice cA8 cN8 cC8, .slice cA9 cN9 cC9]), .int .i64 j, (.agg #[.slice tA tN tC, .slice tA1 tN1 tC1, .int .i64 t])] h R = VC4 P c cA cN cC cA1 cN1 cC1 cA2 cN2 cC2 cA3 cN3 cC3 cA4 cN4 cC4 cA5 cN5 cC5 cA6 cN6 cC6 cA7 cN7 cC7 cA8 cN8 cC8 cA9 cN9 cC9 j tA tN tC tA1 tN1 tC1 t R h := by kernel_rfl
theorem run4 (c : Int) (cA : Option Addr) (cN cC : Nat) (cA1 : Option Addr) (cN1 cC1 : Nat) (cA2 : Option Addr) (cN2 cC2 : Nat) (cA3 : Option Addr) (cN3 cC3 : Nat) (cA4 : Option Addr) (cN4 cC4 : Nat) (cA5 : Option Addr) (cN5 cC5 : Nat) (cA6 : Option Addr) (cN6 cC6 : Nat) (cA7 : Option Addr) (cN7 cC7 : Nat) (cA8 : Option Addr) (cN8 cC8 : Nat) (cA9 : Option Addr) (cN9 cC9 : Nat) (j : Int) (tA : Option Addr) (tN tC : Nat) (tA1 : Option Addr) (tN1 tC1 : Nat) (t : Int) (R : Value → Heap → Prop) (h : Heap) (hv : VC4 Try.prog c cA cN cC cA1 cN1 cC1 cA2 cN2 cC2 cA3 cN3 cC3 cA4 cN4 cC4 cA5 cN5 cC5 cA6 cN6 cC6 cA7 cN7 cC7 cA8 cN8 cC8 cA9 cN9 cC9 j tA tN tC tA1 tN1 tC1 t R h) : CallsH Try.prog 4 #[(.agg #[.int .i64 c, .slice cA cN cC, .slice cA1 cN1 cC1, .slice cA2 cN2 cC2, .slice cA3 cN3 cC3, .slice cA4 cN4 cC4, .slice cA5 cN5 cC5, .slice cA6 cN6 cC6, .slice cA7 cN7 cC7, .slice cA8 cN8 cC8, .slice cA9 cN9 cC9]), .int .i64 j, (.agg #[.slice tA tN tC, .slice tA1 tN1 tC1, .int .i64 t])] h R := calls_of_fnC (Checked.mixed Try.checked) Try.func4 comp4 (Nat.le_of_ble_eq_true rfl) (by rw [vc4]; exact hv)
end Go.Proofs.Ytpmpacdjcfijbaa
