/- Words and facts that the claim's proof leans on. No condition. -/
import Derived.Test.YtpmpacdjcfijbaaHxK
import Derived.Test.YtpmpacdjcfijbaaChecked
set_option maxRecDepth 100000
set_option linter.unusedVariables false
namespace Go.Proofs.Ytpmpacdjcfijbaa
local notation "OA" => Option Addr
open Go.Hx

/-! 51: trestle/trestleref03.Check -/
def loops51 : List (List (Nat × Shp)) := [[(11, .int .i64)], [(14, .int .i64)], [(15, .int .i64)]]
noncomputable def code51 : SCode := ((compF Try.prog Try.f51 loops51).elim .skip fun x => x.2.2)
def ret51 : List RV := [.tmp 2, .tmp 3]
theorem comp51 : compF Try.prog Try.f51 loops51 = some (97, ret51, code51) := by kernel_rfl
def J51_4  (P : Program) (R : Value → Heap → Prop) (h : Heap) (A53 : OA) (N53 C53 : Nat) (i : Int) (next_ : (Int → Heap → Prop)) (h_10 : Heap) : Prop :=
 ∃ (t10 : Int) (A55 : OA) (N55 C55 : Nat) (A56 : OA) (N56 C56 : Nat) (A57 : OA) (N57 C57 : Nat) (A58 : OA) (N58 C58 : Nat) (A59 : OA) (N59 C59 : Nat) (A60 : OA) (N60 C60 : Nat) (A61 : OA) (N61 C61 : Nat) (A62 : OA) (N62 C62 : Nat) (A63 : OA) (N63 C63 : Nat) (A64 : OA) (N64 C64 : Nat), cellsH h_10 (Addr.mk (h).size 0 none) 0 [(.int .i64 t10), (.slice A55 N55 C55), (.slice A56 N56 C56), (.slice A57 N57 C57), (.slice A58 N58 C58), (.slice A59 N59 C59), (.slice A60 N60 C60), (.slice A61 N61 C61), (.slice A62 N62 C62), (.slice A63 N63 C63), (.slice A64 N64 C64)] ∧ CallsH P 93 #[(.agg #[(.int .i64 t10), (.slice A55 N55 C55), (.slice A56 N56 C56), (.slice A57 N57 C57), (.slice A58 N58 C58), (.slice A59 N59 C59), (.slice A60 N60 C60), (.slice A61 N61 C61), (.slice A62 N62 C62), (.slice A63 N63 C63), (.slice A64 N64 C64)]), (.slice A53 N53 C53), (.int .i64 i)] h_10 fun v5 h_11 =>
 ∃ (t11 : Bool), v5 = (.bool t11) ∧ BIf t11 (R (.tuple #[(.int .i64 i), (.int .i64 34)]) h_11) (next_ ((IntKind.wrap .i64 (i + 1))) h_11)
def J51_9  (R : Value → Heap → Prop) (h : Heap) (i1 k : Int) (next_2 : (Int → Heap → Prop)) (h_18 : Heap) : Prop :=
 ∃ (A77 : OA) (N77 C77 : Nat), cellH h_18 (Addr.add (Addr.mk (h).size 0 none) 10) = some (.slice A77 N77 C77) ∧ 0 ≤ (i1 : Int) ∧ (i1 : Int) < (N77 : Nat) ∧ AtP A77 fun ad1 => ∃ (t16 : ByteArray), cellH h_18 (Addr.add ad1 (Int.toNat i1 * 1)) = some (.string t16) ∧ 0 ≤ (k : Int) ∧ (k : Int) < (t16.size : Nat) ∧ PIf (((byteAt t16 k) : Int) = 10)
 (R (.tuple #[(.int .i64 i1), (.int .i64 36)]) h_18)
 (next_2 ((IntKind.wrap .i64 (k + 1))) h_18)
def J51_8  (i1 : Int) (next_1 : (Int → Heap → Prop)) (h_19 : Heap) : Prop :=
 next_1 ((IntKind.wrap .i64 (i1 + 1))) h_19
def B51_10 (R : Value → Heap → Prop) (h : Heap) (i1 : Int) (next_1 : (Int → Heap → Prop)) (k : Int) (h_17 : Heap) (next_2 : Int → Heap → Prop) : Prop :=
 ∃ (A76 : OA) (N76 C76 : Nat), cellH h_17 (Addr.add (Addr.mk (h).size 0 none) 10) = some (.slice A76 N76 C76) ∧ 0 ≤ (i1 : Int) ∧ (i1 : Int) < (N76 : Nat) ∧ AtP A76 fun ad => ∃ (t15 : ByteArray), cellH h_17 (Addr.add ad (Int.toNat i1 * 1)) = some (.string t15) ∧ PIf ((k : Int) < ((t15.size : Nat) : Int))
 (J51_9 R h i1 k next_2 h_17)
 (J51_8 i1 next_1 h_17)
def J51_7  (R : Value → Heap → Prop) (h : Heap) (i1 : Int) (next_1 : (Int → Heap → Prop)) (h_16 : Heap) : Prop :=
 LoopT (σ := Int) (fun st_ h_st nx_st => B51_10 R h i1 next_1 (st_) h_st nx_st) (0) h_16
def J51_6  (R : Value → Heap → Prop) (h_20 : Heap) : Prop :=
 R (.tuple #[(.int .i64 0), (.int .i64 0)]) h_20
def B51_11 (R : Value → Heap → Prop) (h : Heap) (i1 : Int) (h_15 : Heap) (next_1 : Int → Heap → Prop) : Prop :=
 ∃ (A75 : OA) (N75 C75 : Nat), cellH h_15 (Addr.add (Addr.mk (h).size 0 none) 10) = some (.slice A75 N75 C75) ∧ PIf ((i1 : Int) < ((N75 : Nat) : Int))
 (J51_7 R h i1 next_1 h_15)
 (J51_6 R h_15)
def J51_5  (R : Value → Heap → Prop) (h h_14 : Heap) : Prop :=
 LoopT (σ := Int) (fun st_ h_st nx_st => B51_11 R h (st_) h_st nx_st) (0) h_14
def J51_3  (P : Program) (R : Value → Heap → Prop) (h h_12 : Heap) : Prop :=
 ∃ (t12 : Int) (A65 : OA) (N65 C65 : Nat) (A66 : OA) (N66 C66 : Nat) (A67 : OA) (N67 C67 : Nat) (A68 : OA) (N68 C68 : Nat) (A69 : OA) (N69 C69 : Nat) (A70 : OA) (N70 C70 : Nat) (A71 : OA) (N71 C71 : Nat) (A72 : OA) (N72 C72 : Nat) (A73 : OA) (N73 C73 : Nat) (A74 : OA) (N74 C74 : Nat), cellsH h_12 (Addr.mk (h).size 0 none) 0 [(.int .i64 t12), (.slice A65 N65 C65), (.slice A66 N66 C66), (.slice A67 N67 C67), (.slice A68 N68 C68), (.slice A69 N69 C69), (.slice A70 N70 C70), (.slice A71 N71 C71), (.slice A72 N72 C72), (.slice A73 N73 C73), (.slice A74 N74 C74)] ∧ CallsH P 94 #[(.agg #[(.int .i64 t12), (.slice A65 N65 C65), (.slice A66 N66 C66), (.slice A67 N67 C67), (.slice A68 N68 C68), (.slice A69 N69 C69), (.slice A70 N70 C70), (.slice A71 N71 C71), (.slice A72 N72 C72), (.slice A73 N73 C73), (.slice A74 N74 C74)])] h_12 fun v6 h_13 =>
 ∃ (t13 t14 : Int), v6 = (.tuple #[(.int .i64 t13), (.int .i64 t14)]) ∧ PIf ((t14 : Int) = 0)
 (J51_5 R h h_13)
 (R (.tuple #[(.int .i64 t13), (.int .i64 t14)]) h_13)
def B51_12 (P : Program) (R : Value → Heap → Prop) (h : Heap) (A53 : OA) (N53 C53 : Nat) (i : Int) (h_9 : Heap) (next_ : Int → Heap → Prop) : Prop :=
 ∃ (A54 : OA) (N54 C54 : Nat), cellH h_9 (Addr.add (Addr.mk (h).size 0 none) 8) = some (.slice A54 N54 C54) ∧ PIf ((i : Int) < ((N54 : Nat) : Int))
 (J51_4 P R h A53 N53 C53 i next_ h_9)
 (J51_3 P R h h_9)
def J51_2  (P : Program) (R : Value → Heap → Prop) (h h_6 : Heap) : Prop :=
 (Addr.block (Addr.mk (h).size 0 none)) < (h_6).size ∧ ∃ (t8 : Int) (A31 : OA) (N31 C31 : Nat) (A32 : OA) (N32 C32 : Nat) (A33 : OA) (N33 C33 : Nat) (A34 : OA) (N34 C34 : Nat) (A35 : OA) (N35 C35 : Nat) (A36 : OA) (N36 C36 : Nat) (A37 : OA) (N37 C37 : Nat) (A38 : OA) (N38 C38 : Nat) (A39 : OA) (N39 C39 : Nat) (A40 : OA) (N40 C40 : Nat), cellsH h_6 (Addr.mk (h).size 0 none) 0 [(.int .i64 t8), (.slice A31 N31 C31), (.slice A32 N32 C32), (.slice A33 N33 C33), (.slice A34 N34 C34), (.slice A35 N35 C35), (.slice A36 N36 C36), (.slice A37 N37 C37), (.slice A38 N38 C38), (.slice A39 N39 C39), (.slice A40 N40 C40)] ∧ CallsH P 91 #[(.agg #[(.int .i64 t8), (.slice A31 N31 C31), (.slice A32 N32 C32), (.slice A33 N33 C33), (.slice A34 N34 C34), (.slice A35 N35 C35), (.slice A36 N36 C36), (.slice A37 N37 C37), (.slice A38 N38 C38), (.slice A39 N39 C39), (.slice A40 N40 C40)])] h_6 fun v3 h_7 =>
 ∃ (A41 : OA) (N41 C41 : Nat), v3 = (.slice A41 N41 C41) ∧ AgreeH (h_6).size h_6 h_7 ∧ (Addr.block (Addr.add (Addr.mk (h).size 0 none) 8)) < (h_6).size ∧ ∃ (A42 : OA) (N42 C42 : Nat), cellH h_7 (Addr.add (Addr.mk (h).size 0 none) 8) = some (.slice A42 N42 C42) ∧ PIf ((((N41 : Nat) : Int) : Int) < ((N42 : Nat) : Int))
 (∃ (t9 : Int) (A43 : OA) (N43 C43 : Nat) (A44 : OA) (N44 C44 : Nat) (A45 : OA) (N45 C45 : Nat) (A46 : OA) (N46 C46 : Nat) (A47 : OA) (N47 C47 : Nat) (A48 : OA) (N48 C48 : Nat) (A49 : OA) (N49 C49 : Nat) (A50 : OA) (N50 C50 : Nat) (A51 : OA) (N51 C51 : Nat) (A52 : OA) (N52 C52 : Nat), cellsH h_7 (Addr.mk (h).size 0 none) 0 [(.int .i64 t9), (.slice A43 N43 C43), (.slice A44 N44 C44), (.slice A45 N45 C45), (.slice A46 N46 C46), (.slice A47 N47 C47), (.slice A48 N48 C48), (.slice A49 N49 C49), (.slice A50 N50 C50), (.slice A51 N51 C51), (.slice A52 N52 C52)] ∧ CallsH P 92 #[(.agg #[(.int .i64 t9), (.slice A43 N43 C43), (.slice A44 N44 C44), (.slice A45 N45 C45), (.slice A46 N46 C46), (.slice A47 N47 C47), (.slice A48 N48 C48), (.slice A49 N49 C49), (.slice A50 N50 C50), (.slice A51 N51 C51), (.slice A52 N52 C52)])] h_7 fun v4 h_8 =>
 ∃ (A53 : OA) (N53 C53 : Nat), v4 = (.slice A53 N53 C53) ∧ LoopT (σ := Int) (fun st_ h_st nx_st => B51_12 P R h A53 N53 C53 (st_) h_st nx_st) (0) h_8)
 (J51_3 P R h h_7)
def J51_1  (P : Program) (R : Value → Heap → Prop) (h : Heap) (A20 : OA) (N20 C20 : Nat) (h_4 : Heap) : Prop :=
 ∃ (t5 : Int) (A21 : OA) (N21 C21 : Nat) (A22 : OA) (N22 C22 : Nat) (A23 : OA) (N23 C23 : Nat) (A24 : OA) (N24 C24 : Nat) (A25 : OA) (N25 C25 : Nat) (A26 : OA) (N26 C26 : Nat) (A27 : OA) (N27 C27 : Nat) (A28 : OA) (N28 C28 : Nat) (A29 : OA) (N29 C29 : Nat) (A30 : OA) (N30 C30 : Nat), cellsH h_4 (Addr.mk (h).size 0 none) 0 [(.int .i64 t5), (.slice A21 N21 C21), (.slice A22 N22 C22), (.slice A23 N23 C23), (.slice A24 N24 C24), (.slice A25 N25 C25), (.slice A26 N26 C26), (.slice A27 N27 C27), (.slice A28 N28 C28), (.slice A29 N29 C29), (.slice A30 N30 C30)] ∧ CallsH P 90 #[(.agg #[(.int .i64 t5), (.slice A21 N21 C21), (.slice A22 N22 C22), (.slice A23 N23 C23), (.slice A24 N24 C24), (.slice A25 N25 C25), (.slice A26 N26 C26), (.slice A27 N27 C27), (.slice A28 N28 C28), (.slice A29 N29 C29), (.slice A30 N30 C30)]), (.slice A20 N20 C20)] h_4 fun v2 h_5 =>
 ∃ (t6 t7 : Int), v2 = (.tuple #[(.int .i64 t6), (.int .i64 t7)]) ∧ PIf ((t7 : Int) = 0)
 (J51_2 P R h h_5)
 (R (.tuple #[(.int .i64 t6), (.int .i64 t7)]) h_5)
def J51_0  (P : Program) (R : Value → Heap → Prop) (h h_2 : Heap) : Prop :=
 ∃ (t2 : Int) (A10 : OA) (N10 C10 : Nat) (A11 : OA) (N11 C11 : Nat) (A12 : OA) (N12 C12 : Nat) (A13 : OA) (N13 C13 : Nat) (A14 : OA) (N14 C14 : Nat) (A15 : OA) (N15 C15 : Nat) (A16 : OA) (N16 C16 : Nat) (A17 : OA) (N17 C17 : Nat) (A18 : OA) (N18 C18 : Nat) (A19 : OA) (N19 C19 : Nat), cellsH h_2 (Addr.mk (h).size 0 none) 0 [(.int .i64 t2), (.slice A10 N10 C10), (.slice A11 N11 C11), (.slice A12 N12 C12), (.slice A13 N13 C13), (.slice A14 N14 C14), (.slice A15 N15 C15), (.slice A16 N16 C16), (.slice A17 N17 C17), (.slice A18 N18 C18), (.slice A19 N19 C19)] ∧ CallsH P 89 #[(.agg #[(.int .i64 t2), (.slice A10 N10 C10), (.slice A11 N11 C11), (.slice A12 N12 C12), (.slice A13 N13 C13), (.slice A14 N14 C14), (.slice A15 N15 C15), (.slice A16 N16 C16), (.slice A17 N17 C17), (.slice A18 N18 C18), (.slice A19 N19 C19)])] h_2 fun v1 h_3 =>
 ∃ (A20 : OA) (N20 C20 : Nat) (t3 t4 : Int), v1 = (.tuple #[(.slice A20 N20 C20), (.int .i64 t3), (.int .i64 t4)]) ∧ PIf ((t4 : Int) = 0)
 (J51_1 P R h A20 N20 C20 h_3)
 (R (.tuple #[(.int .i64 t3), (.int .i64 t4)]) h_3)
def VC51 (P : Program) (c : Int) (cA : OA) (cN cC : Nat) (cA1 : OA) (cN1 cC1 : Nat) (cA2 : OA) (cN2 cC2 : Nat) (cA3 : OA) (cN3 cC3 : Nat) (cA4 : OA) (cN4 cC4 : Nat) (cA5 : OA) (cN5 cC5 : Nat) (cA6 : OA) (cN6 cC6 : Nat) (cA7 : OA) (cN7 cC7 : Nat) (cA8 : OA) (cN8 cC8 : Nat) (cA9 : OA) (cN9 cC9 : Nat) (R : Value → Heap → Prop) (h : Heap) : Prop :=
 let h_ : Heap := (h).push (.cells (Value.cells (.agg #[(.int .i64 c), (.slice cA cN cC), (.slice cA1 cN1 cC1), (.slice cA2 cN2 cC2), (.slice cA3 cN3 cC3), (.slice cA4 cN4 cC4), (.slice cA5 cN5 cC5), (.slice cA6 cN6 cC6), (.slice cA7 cN7 cC7), (.slice cA8 cN8 cC8), (.slice cA9 cN9 cC9)])) 29); ∃ (t : Int) (A : OA) (N C : Nat) (A1 : OA) (N1 C1 : Nat) (A2 : OA) (N2 C2 : Nat) (A3 : OA) (N3 C3 : Nat) (A4 : OA) (N4 C4 : Nat) (A5 : OA) (N5 C5 : Nat) (A6 : OA) (N6 C6 : Nat) (A7 : OA) (N7 C7 : Nat) (A8 : OA) (N8 C8 : Nat) (A9 : OA) (N9 C9 : Nat), cellsH h_ (Addr.mk (h).size 0 none) 0 [(.int .i64 t), (.slice A N C), (.slice A1 N1 C1), (.slice A2 N2 C2), (.slice A3 N3 C3), (.slice A4 N4 C4), (.slice A5 N5 C5), (.slice A6 N6 C6), (.slice A7 N7 C7), (.slice A8 N8 C8), (.slice A9 N9 C9)] ∧ CallsH P 88 #[(.agg #[(.int .i64 t), (.slice A N C), (.slice A1 N1 C1), (.slice A2 N2 C2), (.slice A3 N3 C3), (.slice A4 N4 C4), (.slice A5 N5 C5), (.slice A6 N6 C6), (.slice A7 N7 C7), (.slice A8 N8 C8), (.slice A9 N9 C9)])] h_ fun v h_1 =>
 ∃ (t1 : Int), v = (.int .i64 t1) ∧ PIf ((t1 : Int) = 0)
 (J51_0 P R h h_1)
 (R (.tuple #[(.int .i64 0), (.int .i64 t1)]) h_1)
theorem vc51 (P : Program) (c : Int) (cA : OA) (cN cC : Nat) (cA1 : OA) (cN1 cC1 : Nat) (cA2 : OA) (cN2 cC2 : Nat) (cA3 : OA) (cN3 cC3 : Nat) (cA4 : OA) (cN4 cC4 : Nat) (cA5 : OA) (cN5 cC5 : Nat) (cA6 : OA) (cN6 cC6 : Nat) (cA7 : OA) (cN7 cC7 : Nat) (cA8 : OA) (cN8 cC8 : Nat) (cA9 : OA) (cN9 cC9 : Nat) (R : Value → Heap → Prop) (h : Heap) : fnC P ret51 code51 [(.agg #[(.int .i64 c), (.slice cA cN cC), (.slice cA1 cN1 cC1), (.slice cA2 cN2 cC2), (.slice cA3 cN3 cC3), (.slice cA4 cN4 cC4), (.slice cA5 cN5 cC5), (.slice cA6 cN6 cC6), (.slice cA7 cN7 cC7), (.slice cA8 cN8 cC8), (.slice cA9 cN9 cC9)])] h R = VC51 P c cA cN cC cA1 cN1 cC1 cA2 cN2 cC2 cA3 cN3 cC3 cA4 cN4 cC4 cA5 cN5 cC5 cA6 cN6 cC6 cA7 cN7 cC7 cA8 cN8 cC8 cA9 cN9 cC9 R h := by kernel_rfl
theorem run51 (c : Int) (cA : OA) (cN cC : Nat) (cA1 : OA) (cN1 cC1 : Nat) (cA2 : OA) (cN2 cC2 : Nat) (cA3 : OA) (cN3 cC3 : Nat) (cA4 : OA) (cN4 cC4 : Nat) (cA5 : OA) (cN5 cC5 : Nat) (cA6 : OA) (cN6 cC6 : Nat) (cA7 : OA) (cN7 cC7 : Nat) (cA8 : OA) (cN8 cC8 : Nat) (cA9 : OA) (cN9 cC9 : Nat) (R : Value → Heap → Prop) (h : Heap) (hv : VC51 Try.prog c cA cN cC cA1 cN1 cC1 cA2 cN2 cC2 cA3 cN3 cC3 cA4 cN4 cC4 cA5 cN5 cC5 cA6 cN6 cC6 cA7 cN7 cC7 cA8 cN8 cC8 cA9 cN9 cC9 R h) : CallsH Try.prog 51 #[(.agg #[(.int .i64 c), (.slice cA cN cC), (.slice cA1 cN1 cC1), (.slice cA2 cN2 cC2), (.slice cA3 cN3 cC3), (.slice cA4 cN4 cC4), (.slice cA5 cN5 cC5), (.slice cA6 cN6 cC6), (.slice cA7 cN7 cC7), (.slice cA8 cN8 cC8), (.slice cA9 cN9 cC9)])] h R := calls_of_fnC (Checked.mixed Try.checked) Try.func51 comp51 (Nat.le_of_ble_eq_true rfl) (by rw [vc51]; exact hv)

/-! 89: trestle/trestleref03.Defined -/
def loops89 : List (List (Nat × Shp)) := [[(6, .int .i64)], [(8, .int .i64)], [(11, .int .i64)]]
noncomputable def code89 : SCode := ((compF Try.prog Try.f89 loops89).elim .skip fun x => x.2.2)
def ret89 : List RV := [.tmp 2, .tmp 3, .tmp 4]
theorem comp89 : compF Try.prog Try.f89 loops89 = some (96, ret89, code89) := by kernel_rfl
def J89_1  (P : Program) (R : Value → Heap → Prop) (h h_ : Heap) (t i : Int) (next_ : (Int → Heap → Prop)) (h_3 : Heap) : Prop :=
 ∃ (t1 : Int) (A1 : OA) (N1 C1 : Nat) (A2 : OA) (N2 C2 : Nat) (A3 : OA) (N3 C3 : Nat) (A4 : OA) (N4 C4 : Nat) (A5 : OA) (N5 C5 : Nat) (A6 : OA) (N6 C6 : Nat) (A7 : OA) (N7 C7 : Nat) (A8 : OA) (N8 C8 : Nat) (A9 : OA) (N9 C9 : Nat) (A10 : OA) (N10 C10 : Nat), cellsH h_3 (Addr.mk (h).size 0 none) 0 [(.int .i64 t1), (.slice A1 N1 C1), (.slice A2 N2 C2), (.slice A3 N3 C3), (.slice A4 N4 C4), (.slice A5 N5 C5), (.slice A6 N6 C6), (.slice A7 N7 C7), (.slice A8 N8 C8), (.slice A9 N9 C9), (.slice A10 N10 C10)] ∧ ∃ (A11 : OA) (N11 C11 : Nat), cellH h_3 (Addr.add (Addr.mk (h).size 0 none) 1) = some (.slice A11 N11 C11) ∧ 0 ≤ (i : Int) ∧ (i : Int) < (N11 : Nat) ∧ AtP A11 fun ad => ∃ (t2 : Int), cellH h_3 (Addr.add ad (Int.toNat i * 1)) = some (.int .i64 t2) ∧ CallsH P 124 #[(.agg #[(.int .i64 t1), (.slice A1 N1 C1), (.slice A2 N2 C2), (.slice A3 N3 C3), (.slice A4 N4 C4), (.slice A5 N5 C5), (.slice A6 N6 C6), (.slice A7 N7 C7), (.slice A8 N8 C8), (.slice A9 N9 C9), (.slice A10 N10 C10)]), (.slice (some (Addr.mk (h_).size 0 none)) (Int.toNat (IntKind.wrap .i64 (t + 1))) (Int.toNat (IntKind.wrap .i64 (t + 1)))), (.int .i64 t2)] h_3 fun v h_4 =>
 ∃ (t3 : Int), v = (.int .i64 t3) ∧ PIf ((t3 : Int) = 0)
 (next_ ((IntKind.wrap .i64 (i + 1))) h_4)
 (R (.tuple #[(.slice none 0 0), (.int .i64 i), (.int .i64 t3)]) h_4)
def J89_4  (R : Value → Heap → Prop) (i1 : Int) (next_1 : (Int → Heap → Prop)) (h_7 h_11 : Heap) : Prop :=
 ∃ (t10 : Int), cellH h_11 (Addr.add (Addr.mk (h_7).size 0 none) 2) = some (.int .i64 t10) ∧ PIf ((t10 : Int) = 0)
 (next_1 ((IntKind.wrap .i64 (i1 + 1))) h_11)
 (∃ (t11 : Int), cellH h_11 (Addr.add (Addr.mk (h_7).size 0 none) 2) = some (.int .i64 t11) ∧ PIf ((t11 : Int) = 1)
 (next_1 ((IntKind.wrap .i64 (i1 + 1))) h_11)
 (∃ (t12 : Int), cellH h_11 (Addr.add (Addr.mk (h_7).size 0 none) 2) = some (.int .i64 t12) ∧ ∃ (t13 : Int), cellH h_11 (Addr.add (Addr.mk (h_7).size 0 none) 0) = some (.int .i64 t13) ∧ PIf ((t12 : Int) = t13)
 (next_1 ((IntKind.wrap .i64 (i1 + 1))) h_11)
 (R (.tuple #[(.slice none 0 0), (.int .i64 i1), (.int .i64 33)]) h_11)))
def J89_3  (P : Program) (R : Value → Heap → Prop) (h h_ : Heap) (t i1 : Int) (next_1 : (Int → Heap → Prop)) (h_7 : Heap) : Prop :=
 ∃ (A13 : OA) (N13 C13 : Nat), cellH h_7 (Addr.add (Addr.mk (h).size 0 none) 2) = some (.slice A13 N13 C13) ∧ 0 ≤ (i1 : Int) ∧ (i1 : Int) < (N13 : Nat) ∧ AtP A13 fun ad1 => ∃ (t4 t5 t6 : Int), cellsH h_7 (Addr.add ad1 (Int.toNat i1 * 3)) 0 [(.int .i64 t4), (.int .i64 t5), (.int .i64 t6)] ∧ let h_8 : Heap := (h_7).push (.cells #[(.int .i64 0), (.int .i64 0), (.int .i64 0)] 80); StoreH h_8 (Addr.mk (h_7).size 0 none) [(.int .i64 t4), (.int .i64 t5), (.int .i64 t6)] fun h_9 => ∃ (t7 : Int) (A14 : OA) (N14 C14 : Nat) (A15 : OA) (N15 C15 : Nat) (A16 : OA) (N16 C16 : Nat) (A17 : OA) (N17 C17 : Nat) (A18 : OA) (N18 C18 : Nat) (A19 : OA) (N19 C19 : Nat) (A20 : OA) (N20 C20 : Nat) (A21 : OA) (N21 C21 : Nat) (A22 : OA) (N22 C22 : Nat) (A23 : OA) (N23 C23 : Nat), cellsH h_9 (Addr.mk (h).size 0 none) 0 [(.int .i64 t7), (.slice A14 N14 C14), (.slice A15 N15 C15), (.slice A16 N16 C16), (.slice A17 N17 C17), (.slice A18 N18 C18), (.slice A19 N19 C19), (.slice A20 N20 C20), (.slice A21 N21 C21), (.slice A22 N22 C22), (.slice A23 N23 C23)] ∧ ∃ (t8 : Int), cellH h_9 (Addr.add (Addr.mk (h_7).size 0 none) 0) = some (.int .i64 t8) ∧ CallsH P 124 #[(.agg #[(.int .i64 t7), (.slice A14 N14 C14), (.slice A15 N15 C15), (.slice A16 N16 C16), (.slice A17 N17 C17), (.slice A18 N18 C18), (.slice A19 N19 C19), (.slice A20 N20 C20), (.slice A21 N21 C21), (.slice A22 N22 C22), (.slice A23 N23 C23)]), (.slice (some (Addr.mk (h_).size 0 none)) (Int.toNat (IntKind.wrap .i64 (t + 1))) (Int.toNat (IntKind.wrap .i64 (t + 1)))), (.int .i64 t8)] h_9 fun v1 h_10 =>
 ∃ (t9 : Int), v1 = (.int .i64 t9) ∧ PIf ((t9 : Int) = 0)
 (J89_4 R i1 next_1 h_7 h_10)
 (R (.tuple #[(.slice none 0 0), (.int .i64 i1), (.int .i64 t9)]) h_10)
def J89_6  (P : Program) (R : Value → Heap → Prop) (h h_ : Heap) (t i2 : Int) (next_2 : (Int → Heap → Prop)) (h_14 : Heap) : Prop :=
 ∃ (t14 : Int) (A25 : OA) (N25 C25 : Nat) (A26 : OA) (N26 C26 : Nat) (A27 : OA) (N27 C27 : Nat) (A28 : OA) (N28 C28 : Nat) (A29 : OA) (N29 C29 : Nat) (A30 : OA) (N30 C30 : Nat) (A31 : OA) (N31 C31 : Nat) (A32 : OA) (N32 C32 : Nat) (A33 : OA) (N33 C33 : Nat) (A34 : OA) (N34 C34 : Nat), cellsH h_14 (Addr.mk (h).size 0 none) 0 [(.int .i64 t14), (.slice A25 N25 C25), (.slice A26 N26 C26), (.slice A27 N27 C27), (.slice A28 N28 C28), (.slice A29 N29 C29), (.slice A30 N30 C30), (.slice A31 N31 C31), (.slice A32 N32 C32), (.slice A33 N33 C33), (.slice A34 N34 C34)] ∧ ∃ (A35 : OA) (N35 C35 : Nat), cellH h_14 (Addr.add (Addr.mk (h).size 0 none) 8) = some (.slice A35 N35 C35) ∧ 0 ≤ (i2 : Int) ∧ (i2 : Int) < (N35 : Nat) ∧ AtP A35 fun ad2 => ∃ (t15 : Int), cellH h_14 (Addr.add (Addr.add ad2 (Int.toNat i2 * 3)) 0) = some (.int .i64 t15) ∧ CallsH P 124 #[(.agg #[(.int .i64 t14), (.slice A25 N25 C25), (.slice A26 N26 C26), (.slice A27 N27 C27), (.slice A28 N28 C28), (.slice A29 N29 C29), (.slice A30 N30 C30), (.slice A31 N31 C31), (.slice A32 N32 C32), (.slice A33 N33 C33), (.slice A34 N34 C34)]), (.slice (some (Addr.mk (h_).size 0 none)) (Int.toNat (IntKind.wrap .i64 (t + 1))) (Int.toNat (IntKind.wrap .i64 (t + 1)))), (.int .i64 t15)] h_14 fun v2 h_15 =>
 ∃ (t16 : Int), v2 = (.int .i64 t16) ∧ PIf ((t16 : Int) = 0)
 (next_2 ((IntKind.wrap .i64 (i2 + 1))) h_15)
 (R (.tuple #[(.slice none 0 0), (.int .i64 i2), (.int .i64 t16)]) h_15)
def J89_5  (R : Value → Heap → Prop) (h_ : Heap) (t : Int) (h_16 : Heap) : Prop :=
 0 ≤ (0 : Int) ∧ (0 : Int) < ((Int.toNat (IntKind.wrap .i64 (t + 1))) : Nat) ∧ StoreH h_16 (Addr.add (Addr.mk (h_).size 0 none) (Int.toNat 0 * 1)) [(.bool true)] fun h_17 => R (.tuple #[(.slice (some (Addr.mk (h_).size 0 none)) (Int.toNat (IntKind.wrap .i64 (t + 1))) (Int.toNat (IntKind.wrap .i64 (t + 1)))), (.int .i64 0), (.int .i64 0)]) h_17
def B89_7 (P : Program) (R : Value → Heap → Prop) (h h_ : Heap) (t i2 : Int) (h_13 : Heap) (next_2 : Int → Heap → Prop) : Prop :=
 ∃ (A24 : OA) (N24 C24 : Nat), cellH h_13 (Addr.add (Addr.mk (h).size 0 none) 8) = some (.slice A24 N24 C24) ∧ PIf ((i2 : Int) < ((N24 : Nat) : Int))
 (J89_6 P R h h_ t i2 next_2 h_13)
 (J89_5 R h_ t h_13)
def J89_2  (P : Program) (R : Value → Heap → Prop) (h h_ : Heap) (t : Int) (h_12 : Heap) : Prop :=
 LoopT (σ := Int) (fun st_ h_st nx_st => B89_7 P R h h_ t (st_) h_st nx_st) (0) h_12
def B89_8 (P : Program) (R : Value → Heap → Prop) (h h_ : Heap) (t i1 : Int) (h_6 : Heap) (next_1 : Int → Heap → Prop) : Prop :=
 ∃ (A12 : OA) (N12 C12 : Nat), cellH h_6 (Addr.add (Addr.mk (h).size 0 none) 2) = some (.slice A12 N12 C12) ∧ PIf ((i1 : Int) < ((N12 : Nat) : Int))
 (J89_3 P R h h_ t i1 next_1 h_6)
 (J89_2 P R h h_ t h_6)
def J89_0  (P : Program) (R : Value → Heap → Prop) (h h_ : Heap) (t : Int) (h_5 : Heap) : Prop :=
 LoopT (σ := Int) (fun st_ h_st nx_st => B89_8 P R h h_ t (st_) h_st nx_st) (0) h_5
def B89_9 (P : Program) (R : Value → Heap → Prop) (h h_ : Heap) (t i : Int) (h_2 : Heap) (next_ : Int → Heap → Prop) : Prop :=
 ∃ (A : OA) (N C : Nat), cellH h_2 (Addr.add (Addr.mk (h).size 0 none) 1) = some (.slice A N C) ∧ PIf ((i : Int) < ((N : Nat) : Int))
 (J89_1 P R h h_ t i next_ h_2)
 (J89_0 P R h h_ t h_2)
def VC89 (P : Program) (c : Int) (cA : OA) (cN cC : Nat) (cA1 : OA) (cN1 cC1 : Nat) (cA2 : OA) (cN2 cC2 : Nat) (cA3 : OA) (cN3 cC3 : Nat) (cA4 : OA) (cN4 cC4 : Nat) (cA5 : OA) (cN5 cC5 : Nat) (cA6 : OA) (cN6 cC6 : Nat) (cA7 : OA) (cN7 cC7 : Nat) (cA8 : OA) (cN8 cC8 : Nat) (cA9 : OA) (cN9 cC9 : Nat) (R : Value → Heap → Prop) (h : Heap) : Prop :=
 let h_ : Heap := (h).push (.cells (Value.cells (.agg #[(.int .i64 c), (.slice cA cN cC), (.slice cA1 cN1 cC1), (.slice cA2 cN2 cC2), (.slice cA3 cN3 cC3), (.slice cA4 cN4 cC4), (.slice cA5 cN5 cC5), (.slice cA6 cN6 cC6), (.slice cA7 cN7 cC7), (.slice cA8 cN8 cC8), (.slice cA9 cN9 cC9)])) 29); ∃ (t : Int), cellH h_ (Addr.add (Addr.mk (h).size 0 none) 0) = some (.int .i64 t) ∧ 0 ≤ ((IntKind.wrap .i64 (t + 1)) : Int) ∧ ((IntKind.wrap .i64 (t + 1)) : Int) ≤ (IntKind.wrap .i64 (t + 1)) ∧ (1 : Int) * (IntKind.wrap .i64 (t + 1)) ≤ 281474976710656 ∧ let h_1 : Heap := (h_).push (.cells (zeroRow #[(.bool false)] (Int.toNat (IntKind.wrap .i64 (t + 1)) * 1)).toArray 4); LoopT (σ := Int) (fun st_ h_st nx_st => B89_9 P R h h_ t (st_) h_st nx_st) (0) h_1
theorem vc89 (P : Program) (c : Int) (cA : OA) (cN cC : Nat) (cA1 : OA) (cN1 cC1 : Nat) (cA2 : OA) (cN2 cC2 : Nat) (cA3 : OA) (cN3 cC3 : Nat) (cA4 : OA) (cN4 cC4 : Nat) (cA5 : OA) (cN5 cC5 : Nat) (cA6 : OA) (cN6 cC6 : Nat) (cA7 : OA) (cN7 cC7 : Nat) (cA8 : OA) (cN8 cC8 : Nat) (cA9 : OA) (cN9 cC9 : Nat) (R : Value → Heap → Prop) (h : Heap) : fnC P ret89 code89 [(.agg #[(.int .i64 c), (.slice cA cN cC), (.slice cA1 cN1 cC1), (.slice cA2 cN2 cC2), (.slice cA3 cN3 cC3), (.slice cA4 cN4 cC4), (.slice cA5 cN5 cC5), (.slice cA6 cN6 cC6), (.slice cA7 cN7 cC7), (.slice cA8 cN8 cC8), (.slice cA9 cN9 cC9)])] h R = VC89 P c cA cN cC cA1 cN1 cC1 cA2 cN2 cC2 cA3 cN3 cC3 cA4 cN4 cC4 cA5 cN5 cC5 cA6 cN6 cC6 cA7 cN7 cC7 cA8 cN8 cC8 cA9 cN9 cC9 R h := by kernel_rfl
theorem run89 (c : Int) (cA : OA) (cN cC : Nat) (cA1 : OA) (cN1 cC1 : Nat) (cA2 : OA) (cN2 cC2 : Nat) (cA3 : OA) (cN3 cC3 : Nat) (cA4 : OA) (cN4 cC4 : Nat) (cA5 : OA) (cN5 cC5 : Nat) (cA6 : OA) (cN6 cC6 : Nat) (cA7 : OA) (cN7 cC7 : Nat) (cA8 : OA) (cN8 cC8 : Nat) (cA9 : OA) (cN9 cC9 : Nat) (R : Value → Heap → Prop) (h : Heap) (hv : VC89 Try.prog c cA cN cC cA1 cN1 cC1 cA2 cN2 cC2 cA3 cN3 cC3 cA4 cN4 cC4 cA5 cN5 cC5 cA6 cN6 cC6 cA7 cN7 cC7 cA8 cN8 cC8 cA9 cN9 cC9 R h) : CallsH Try.prog 89 #[(.agg #[(.int .i64 c), (.slice cA cN cC), (.slice cA1 cN1 cC1), (.slice cA2 cN2 cC2), (.slice cA3 cN3 cC3), (.slice cA4 cN4 cC4), (.slice cA5 cN5 cC5), (.slice cA6 cN6 cC6), (.slice cA7 cN7 cC7), (.slice cA8 cN8 cC8), (.slice cA9 cN9 cC9)])] h R := calls_of_fnC (Checked.mixed Try.checked) Try.func89 comp89 (Nat.le_of_ble_eq_true rfl) (by rw [vc89]; exact hv)

/-! 90: trestle/trestleref03.uses -/
def loops90 : List (List (Nat × Shp)) := [[(6, .int .i64)], [(9, .int .i64)], [(12, .int .i64)], [(17, .int .i64)]]
noncomputable def code90 : SCode := ((compF Try.prog Try.f90 loops90).elim .skip fun x => x.2.2)
def ret90 : List RV := [.tmp 4, .tmp 5]
theorem comp90 : compF Try.prog Try.f90 loops90 = some (128, ret90, code90) := by kernel_rfl
def J90_1  (P : Program) (R : Value → Heap → Prop) (h : Heap) (definedA : OA) (definedN definedC : Nat) (i : Int) (next_ : (Int → Heap → Prop)) (h_2 : Heap) : Prop :=
 ∃ (t : Int) (A1 : OA) (N1 C1 : Nat) (A2 : OA) (N2 C2 : Nat) (A3 : OA) (N3 C3 : Nat) (A4 : OA) (N4 C4 : Nat) (A5 : OA) (N5 C5 : Nat) (A6 : OA) (N6 C6 : Nat) (A7 : OA) (N7 C7 : Nat) (A8 : OA) (N8 C8 : Nat) (A9 : OA) (N9 C9 : Nat) (A10 : OA) (N10 C10 : Nat), cellsH h_2 (Addr.mk (h).size 0 none) 0 [(.int .i64 t), (.slice A1 N1 C1), (.slice A2 N2 C2), (.slice A3 N3 C3), (.slice A4 N4 C4), (.slice A5 N5 C5), (.slice A6 N6 C6), (.slice A7 N7 C7), (.slice A8 N8 C8), (.slice A9 N9 C9), (.slice A10 N10 C10)] ∧ ∃ (A11 : OA) (N11 C11 : Nat), cellH h_2 (Addr.add (Addr.mk (h).size 0 none) 2) = some (.slice A11 N11 C11) ∧ 0 ≤ (i : Int) ∧ (i : Int) < (N11 : Nat) ∧ AtP A11 fun ad => ∃ (t1 : Int), cellH h_2 (Addr.add (Addr.add ad (Int.toNat i * 3)) 1) = some (.int .i64 t1) ∧ CallsH P 125 #[(.agg #[(.int .i64 t), (.slice A1 N1 C1), (.slice A2 N2 C2), (.slice A3 N3 C3), (.slice A4 N4 C4), (.slice A5 N5 C5), (.slice A6 N6 C6), (.slice A7 N7 C7), (.slice A8 N8 C8), (.slice A9 N9 C9), (.slice A10 N10 C10)]), (.slice definedA definedN definedC), (.int .i64 t1)] h_2 fun v h_3 =>
 ∃ (t2 : Int), v = (.int .i64 t2) ∧ PIf ((t2 : Int) = 0)
 (next_ ((IntKind.wrap .i64 (i + 1))) h_3)
 (R (.tuple #[(.int .i64 i), (.int .i64 t2)]) h_3)
def J90_3  (P : Program) (R : Value → Heap → Prop) (h : Heap) (definedA : OA) (definedN definedC : Nat) (h_4 : Heap) (k : Int) (next_1 : (Int → Heap → Prop)) (h_8 : Heap) : Prop :=
 ∃ (t3 : Int) (A15 : OA) (N15 C15 : Nat) (A16 : OA) (N16 C16 : Nat) (A17 : OA) (N17 C17 : Nat) (A18 : OA) (N18 C18 : Nat) (A19 : OA) (N19 C19 : Nat) (A20 : OA) (N20 C20 : Nat) (A21 : OA) (N21 C21 : Nat) (A22 : OA) (N22 C22 : Nat) (A23 : OA) (N23 C23 : Nat) (A24 : OA) (N24 C24 : Nat), cellsH h_8 (Addr.mk (h).size 0 none) 0 [(.int .i64 t3), (.slice A15 N15 C15), (.slice A16 N16 C16), (.slice A17 N17 C17), (.slice A18 N18 C18), (.slice A19 N19 C19), (.slice A20 N20 C20), (.slice A21 N21 C21), (.slice A22 N22 C22), (.slice A23 N23 C23), (.slice A24 N24 C24)] ∧ 0 ≤ (k : Int) ∧ (k : Int) < (3 : Nat) ∧ ∃ (A25 : OA) (N25 C25 : Nat), cellH h_8 (Addr.add (Addr.mk (h_4).size 0 none) (Int.toNat k * 1)) = some (.slice A25 N25 C25) ∧ CallsH P 126 #[(.agg #[(.int .i64 t3), (.slice A15 N15 C15), (.slice A16 N16 C16), (.slice A17 N17 C17), (.slice A18 N18 C18), (.slice A19 N19 C19), (.slice A20 N20 C20), (.slice A21 N21 C21), (.slice A22 N22 C22), (.slice A23 N23 C23), (.slice A24 N24 C24)]), (.slice definedA definedN definedC), (.slice A25 N25 C25)] h_8 fun v1 h_9 =>
 ∃ (t4 t5 : Int), v1 = (.tuple #[(.int .i64 t4), (.int .i64 t5)]) ∧ PIf ((t5 : Int) = 0)
 (next_1 ((IntKind.wrap .i64 (k + 1))) h_9)
 (R (.tuple #[(.int .i64 t4), (.int .i64 t5)]) h_9)
def J90_5  (P : Program) (R : Value → Heap → Prop) (h : Heap) (definedA : OA) (definedN definedC : Nat) (i1 : Int) (next_2 : (Int → Heap → Prop)) (h_12 : Heap) : Prop :=
 ∃ (t6 : Int) (A27 : OA) (N27 C27 : Nat) (A28 : OA) (N28 C28 : Nat) (A29 : OA) (N29 C29 : Nat) (A30 : OA) (N30 C30 : Nat) (A31 : OA) (N31 C31 : Nat) (A32 : OA) (N32 C32 : Nat) (A33 : OA) (N33 C33 : Nat) (A34 : OA) (N34 C34 : Nat) (A35 : OA) (N35 C35 : Nat) (A36 : OA) (N36 C36 : Nat), cellsH h_12 (Addr.mk (h).size 0 none) 0 [(.int .i64 t6), (.slice A27 N27 C27), (.slice A28 N28 C28), (.slice A29 N29 C29), (.slice A30 N30 C30), (.slice A31 N31 C31), (.slice A32 N32 C32), (.slice A33 N33 C33), (.slice A34 N34 C34), (.slice A35 N35 C35), (.slice A36 N36 C36)] ∧ ∃ (A37 : OA) (N37 C37 : Nat), cellH h_12 (Addr.add (Addr.mk (h).size 0 none) 6) = some (.slice A37 N37 C37) ∧ 0 ≤ (i1 : Int) ∧ (i1 : Int) < (N37 : Nat) ∧ AtP A37 fun ad1 => ∃ (A38 : OA) (N38 C38 : Nat), cellH h_12 (Addr.add ad1 (Int.toNat i1 * 1)) = some (.slice A38 N38 C38) ∧ CallsH P 126 #[(.agg #[(.int .i64 t6), (.slice A27 N27 C27), (.slice A28 N28 C28), (.slice A29 N29 C29), (.slice A30 N30 C30), (.slice A31 N31 C31), (.slice A32 N32 C32), (.slice A33 N33 C33), (.slice A34 N34 C34), (.slice A35 N35 C35), (.slice A36 N36 C36)]), (.slice definedA definedN definedC), (.slice A38 N38 C38)] h_12 fun v2 h_13 =>
 ∃ (t7 t8 : Int), v2 = (.tuple #[(.int .i64 t7), (.int .i64 t8)]) ∧ PIf ((t8 : Int) = 0)
 (next_2 ((IntKind.wrap .i64 (i1 + 1))) h_13)
 (R (.tuple #[(.int .i64 i1), (.int .i64 t8)]) h_13)
def J90_8  (P : Program) (R : Value → Heap → Prop) (h : Heap) (definedA : OA) (definedN definedC : Nat) (i2 : Int) (next_3 : (Int → Heap → Prop)) (h_18 : Heap) : Prop :=
 (Addr.block (Addr.mk (h).size 0 none)) < (h_18).size ∧ ∃ (t12 : Int) (A51 : OA) (N51 C51 : Nat) (A52 : OA) (N52 C52 : Nat) (A53 : OA) (N53 C53 : Nat) (A54 : OA) (N54 C54 : Nat) (A55 : OA) (N55 C55 : Nat) (A56 : OA) (N56 C56 : Nat) (A57 : OA) (N57 C57 : Nat) (A58 : OA) (N58 C58 : Nat) (A59 : OA) (N59 C59 : Nat) (A60 : OA) (N60 C60 : Nat), cellsH h_18 (Addr.mk (h).size 0 none) 0 [(.int .i64 t12), (.slice A51 N51 C51), (.slice A52 N52 C52), (.slice A53 N53 C53), (.slice A54 N54 C54), (.slice A55 N55 C55), (.slice A56 N56 C56), (.slice A57 N57 C57), (.slice A58 N58 C58), (.slice A59 N59 C59), (.slice A60 N60 C60)] ∧ (Addr.block (Addr.add (Addr.mk (h).size 0 none) 8)) < (h_18).size ∧ ∃ (A61 : OA) (N61 C61 : Nat), cellH h_18 (Addr.add (Addr.mk (h).size 0 none) 8) = some (.slice A61 N61 C61) ∧ 0 ≤ (i2 : Int) ∧ (i2 : Int) < (N61 : Nat) ∧ AtP A61 fun ad2 => (Addr.block (Addr.add (Addr.add ad2 (Int.toNat i2 * 3)) 1)) < (h_18).size ∧ ∃ (t13 : Int), cellH h_18 (Addr.add (Addr.add ad2 (Int.toNat i2 * 3)) 1) = some (.int .i64 t13) ∧ (Addr.block (Addr.add (Addr.mk (h).size 0 none) 8)) < (h_18).size ∧ ∃ (A62 : OA) (N62 C62 : Nat), cellH h_18 (Addr.add (Addr.mk (h).size 0 none) 8) = some (.slice A62 N62 C62) ∧ 0 ≤ (i2 : Int) ∧ (i2 : Int) < (N62 : Nat) ∧ AtP A62 fun ad3 => (Addr.block (Addr.add (Addr.add ad3 (Int.toNat i2 * 3)) 2)) < (h_18).size ∧ ∃ (t14 : Int), cellH h_18 (Addr.add (Addr.add ad3 (Int.toNat i2 * 3)) 2) = some (.int .i64 t14) ∧ let h_19 : Heap := (h_18).push (.cells #[(.int .i64 t13), (.int .i64 t14)] 3); AgreeH (h_18).size h_18 h_19 ∧ CallsH P 126 #[(.agg #[(.int .i64 t12), (.slice A51 N51 C51), (.slice A52 N52 C52), (.slice A53 N53 C53), (.slice A54 N54 C54), (.slice A55 N55 C55), (.slice A56 N56 C56), (.slice A57 N57 C57), (.slice A58 N58 C58), (.slice A59 N59 C59), (.slice A60 N60 C60)]), (.slice definedA definedN definedC), (.slice (some (Addr.mk (h_18).size 0 none)) 2 2)] h_19 fun v4 h_20 =>
 ∃ (t15 t16 : Int), v4 = (.tuple #[(.int .i64 t15), (.int .i64 t16)]) ∧ AgreeH (h_18).size h_19 h_20 ∧ PIf ((t16 : Int) = 0)
 (next_3 ((IntKind.wrap .i64 (i2 + 1))) h_20)
 (R (.tuple #[(.int .i64 i2), (.int .i64 t16)]) h_20)
def J90_7  (R : Value → Heap → Prop) (h_21 : Heap) : Prop :=
 R (.tuple #[(.int .i64 0), (.int .i64 0)]) h_21
def B90_9 (P : Program) (R : Value → Heap → Prop) (h : Heap) (definedA : OA) (definedN definedC : Nat) (i2 : Int) (h_17 : Heap) (next_3 : Int → Heap → Prop) : Prop :=
 ∃ (A50 : OA) (N50 C50 : Nat), cellH h_17 (Addr.add (Addr.mk (h).size 0 none) 8) = some (.slice A50 N50 C50) ∧ PIf ((i2 : Int) < ((N50 : Nat) : Int))
 (J90_8 P R h definedA definedN definedC i2 next_3 h_17)
 (J90_7 R h_17)
def J90_6  (P : Program) (R : Value → Heap → Prop) (h : Heap) (definedA : OA) (definedN definedC : Nat) (h_16 : Heap) : Prop :=
 LoopT (σ := Int) (fun st_ h_st nx_st => B90_9 P R h definedA definedN definedC (st_) h_st nx_st) (0) h_16
def J90_4  (P : Program) (R : Value → Heap → Prop) (h : Heap) (definedA : OA) (definedN definedC : Nat) (h_14 : Heap) : Prop :=
 ∃ (t9 : Int) (A39 : OA) (N39 C39 : Nat) (A40 : OA) (N40 C40 : Nat) (A41 : OA) (N41 C41 : Nat) (A42 : OA) (N42 C42 : Nat) (A43 : OA) (N43 C43 : Nat) (A44 : OA) (N44 C44 : Nat) (A45 : OA) (N45 C45 : Nat) (A46 : OA) (N46 C46 : Nat) (A47 : OA) (N47 C47 : Nat) (A48 : OA) (N48 C48 : Nat), cellsH h_14 (Addr.mk (h).size 0 none) 0 [(.int .i64 t9), (.slice A39 N39 C39), (.slice A40 N40 C40), (.slice A41 N41 C41), (.slice A42 N42 C42), (.slice A43 N43 C43), (.slice A44 N44 C44), (.slice A45 N45 C45), (.slice A46 N46 C46), (.slice A47 N47 C47), (.slice A48 N48 C48)] ∧ ∃ (A49 : OA) (N49 C49 : Nat), cellH h_14 (Addr.add (Addr.mk (h).size 0 none) 7) = some (.slice A49 N49 C49) ∧ CallsH P 126 #[(.agg #[(.int .i64 t9), (.slice A39 N39 C39), (.slice A40 N40 C40), (.slice A41 N41 C41), (.slice A42 N42 C42), (.slice A43 N43 C43), (.slice A44 N44 C44), (.slice A45 N45 C45), (.slice A46 N46 C46), (.slice A47 N47 C47), (.slice A48 N48 C48)]), (.slice definedA definedN definedC), (.slice A49 N49 C49)] h_14 fun v3 h_15 =>
 ∃ (t10 t11 : Int), v3 = (.tuple #[(.int .i64 t10), (.int .i64 t11)]) ∧ PIf ((t11 : Int) = 0)
 (J90_6 P R h definedA definedN definedC h_15)
 (R (.tuple #[(.int .i64 t10), (.int .i64 t11)]) h_15)
def B90_10 (P : Program) (R : Value → Heap → Prop) (h : Heap) (definedA : OA) (definedN definedC : Nat) (i1 : Int) (h_11 : Heap) (next_2 : Int → Heap → Prop) : Prop :=
 ∃ (A26 : OA) (N26 C26 : Nat), cellH h_11 (Addr.add (Addr.mk (h).size 0 none) 6) = some (.slice A26 N26 C26) ∧ PIf ((i1 : Int) < ((N26 : Nat) : Int))
 (J90_5 P R h definedA definedN definedC i1 next_2 h_11)
 (J90_4 P R h definedA definedN definedC h_11)
def J90_2  (P : Program) (R : Value → Heap → Prop) (h : Heap) (definedA : OA) (definedN definedC : Nat) (h_10 : Heap) : Prop :=
 LoopT (σ := Int) (fun st_ h_st nx_st => B90_10 P R h definedA definedN definedC (st_) h_st nx_st) (0) h_10
def B90_11 (P : Program) (R : Value → Heap → Prop) (h : Heap) (definedA : OA) (definedN definedC : Nat) (h_4 : Heap) (k : Int) (h_7 : Heap) (next_1 : Int → Heap → Prop) : Prop :=
 PIf ((k : Int) < 3)
 (J90_3 P R h definedA definedN definedC h_4 k next_1 h_7)
 (J90_2 P R h definedA definedN definedC h_7)
def J90_0  (P : Program) (R : Value → Heap → Prop) (h : Heap) (definedA : OA) (definedN definedC : Nat) (h_4 : Heap) : Prop :=
 ∃ (A12 : OA) (N12 C12 : Nat), cellH h_4 (Addr.add (Addr.mk (h).size 0 none) 3) = some (.slice A12 N12 C12) ∧ ∃ (A13 : OA) (N13 C13 : Nat), cellH h_4 (Addr.add (Addr.mk (h).size 0 none) 4) = some (.slice A13 N13 C13) ∧ ∃ (A14 : OA) (N14 C14 : Nat), cellH h_4 (Addr.add (Addr.mk (h).size 0 none) 5) = some (.slice A14 N14 C14) ∧ let h_5 : Heap := (h_4).push (.cells #[(.slice none 0 0), (.slice none 0 0), (.slice none 0 0)] 175); StoreH h_5 (Addr.mk (h_4).size 0 none) [(.slice A12 N12 C12), (.slice A13 N13 C13), (.slice A14 N14 C14)] fun h_6 => LoopT (σ := Int) (fun st_ h_st nx_st => B90_11 P R h definedA definedN definedC h_4 (st_) h_st nx_st) (0) h_6
def B90_12 (P : Program) (R : Value → Heap → Prop) (h : Heap) (definedA : OA) (definedN definedC : Nat) (i : Int) (h_1 : Heap) (next_ : Int → Heap → Prop) : Prop :=
 ∃ (A : OA) (N C : Nat), cellH h_1 (Addr.add (Addr.mk (h).size 0 none) 2) = some (.slice A N C) ∧ PIf ((i : Int) < ((N : Nat) : Int))
 (J90_1 P R h definedA definedN definedC i next_ h_1)
 (J90_0 P R h definedA definedN definedC h_1)
def VC90 (P : Program) (c : Int) (cA : OA) (cN cC : Nat) (cA1 : OA) (cN1 cC1 : Nat) (cA2 : OA) (cN2 cC2 : Nat) (cA3 : OA) (cN3 cC3 : Nat) (cA4 : OA) (cN4 cC4 : Nat) (cA5 : OA) (cN5 cC5 : Nat) (cA6 : OA) (cN6 cC6 : Nat) (cA7 : OA) (cN7 cC7 : Nat) (cA8 : OA) (cN8 cC8 : Nat) (cA9 : OA) (cN9 cC9 : Nat) (definedA : OA) (definedN definedC : Nat) (R : Value → Heap → Prop) (h : Heap) : Prop :=
 let h_ : Heap := (h).push (.cells (Value.cells (.agg #[(.int .i64 c), (.slice cA cN cC), (.slice cA1 cN1 cC1), (.slice cA2 cN2 cC2), (.slice cA3 cN3 cC3), (.slice cA4 cN4 cC4), (.slice cA5 cN5 cC5), (.slice cA6 cN6 cC6), (.slice cA7 cN7 cC7), (.slice cA8 cN8 cC8), (.slice cA9 cN9 cC9)])) 29); LoopT (σ := Int) (fun st_ h_st nx_st => B90_12 P R h definedA definedN definedC (st_) h_st nx_st) (0) h_
theorem vc90 (P : Program) (c : Int) (cA : OA) (cN cC : Nat) (cA1 : OA) (cN1 cC1 : Nat) (cA2 : OA) (cN2 cC2 : Nat) (cA3 : OA) (cN3 cC3 : Nat) (cA4 : OA) (cN4 cC4 : Nat) (cA5 : OA) (cN5 cC5 : Nat) (cA6 : OA) (cN6 cC6 : Nat) (cA7 : OA) (cN7 cC7 : Nat) (cA8 : OA) (cN8 cC8 : Nat) (cA9 : OA) (cN9 cC9 : Nat) (definedA : OA) (definedN definedC : Nat) (R : Value → Heap → Prop) (h : Heap) : fnC P ret90 code90 [(.agg #[(.int .i64 c), (.slice cA cN cC), (.slice cA1 cN1 cC1), (.slice cA2 cN2 cC2), (.slice cA3 cN3 cC3), (.slice cA4 cN4 cC4), (.slice cA5 cN5 cC5), (.slice cA6 cN6 cC6), (.slice cA7 cN7 cC7), (.slice cA8 cN8 cC8), (.slice cA9 cN9 cC9)]), (.slice definedA definedN definedC)] h R = VC90 P c cA cN cC cA1 cN1 cC1 cA2 cN2 cC2 cA3 cN3 cC3 cA4 cN4 cC4 cA5 cN5 cC5 cA6 cN6 cC6 cA7 cN7 cC7 cA8 cN8 cC8 cA9 cN9 cC9 definedA definedN definedC R h := by kernel_rfl
theorem run90 (c : Int) (cA : OA) (cN cC : Nat) (cA1 : OA) (cN1 cC1 : Nat) (cA2 : OA) (cN2 cC2 : Nat) (cA3 : OA) (cN3 cC3 : Nat) (cA4 : OA) (cN4 cC4 : Nat) (cA5 : OA) (cN5 cC5 : Nat) (cA6 : OA) (cN6 cC6 : Nat) (cA7 : OA) (cN7 cC7 : Nat) (cA8 : OA) (cN8 cC8 : Nat) (cA9 : OA) (cN9 cC9 : Nat) (definedA : OA) (definedN definedC : Nat) (R : Value → Heap → Prop) (h : Heap) (hv : VC90 Try.prog c cA cN cC cA1 cN1 cC1 cA2 cN2 cC2 cA3 cN3 cC3 cA4 cN4 cC4 cA5 cN5 cC5 cA6 cN6 cC6 cA7 cN7 cC7 cA8 cN8 cC8 cA9 cN9 cC9 definedA definedN definedC R h) : CallsH Try.prog 90 #[(.agg #[(.int .i64 c), (.slice cA cN cC), (.slice cA1 cN1 cC1), (.slice cA2 cN2 cC2), (.slice cA3 cN3 cC3), (.slice cA4 cN4 cC4), (.slice cA5 cN5 cC5), (.slice cA6 cN6 cC6), (.slice cA7 cN7 cC7), (.slice cA8 cN8 cC8), (.slice cA9 cN9 cC9)]), (.slice definedA definedN definedC)] h R := calls_of_fnC (Checked.mixed Try.checked) Try.func90 comp90 (Nat.le_of_ble_eq_true rfl) (by rw [vc90]; exact hv)

/-! 91: trestle/trestleref03.told -/
def loops91 : List (List (Nat × Shp)) := [[(5, .slice), (6, .bool)], [(5, .slice), (6, .bool), (7, .int .i64)]]
noncomputable def code91 : SCode := ((compF Try.prog Try.f91 loops91).elim .skip fun x => x.2.2)
def ret91 : List RV := [.tmp 2]
theorem comp91 : compF Try.prog Try.f91 loops91 = some (74, ret91, code91) := by kernel_rfl
def J91_3  (h : Heap) (A10 : OA) (N10 : Nat) (h_1 : Heap) (N11 : Nat) (next_ : ((Option Addr × Nat × Nat) × Bool → Heap → Prop)) (outA1 : OA) (outN1 outC1 : Nat) (again1 : Bool) (i : Int) (next_1 : ((Option Addr × Nat × Nat) × Bool × Int → Heap → Prop)) (h_7 : Heap) : Prop :=
 ∃ (A13 : OA) (N13 C13 : Nat), cellH h_7 (Addr.add (Addr.mk (h).size 0 none) 8) = some (.slice A13 N13 C13) ∧ 0 ≤ (i : Int) ∧ (i : Int) < (N13 : Nat) ∧ AtP A13 fun ad => ∃ (t2 : Int), cellH h_7 (Addr.add (Addr.add ad (Int.toNat i * 3)) 1) = some (.int .i64 t2) ∧ 0 ≤ ((IntKind.wrap .i64 (Int.tdiv t2 2)) : Int) ∧ ((IntKind.wrap .i64 (Int.tdiv t2 2)) : Int) < (N10 : Nat) ∧ AtP A10 fun ad1 => ∃ (t3 : Int), cellH h_7 (Addr.add ad1 (Int.toNat (IntKind.wrap .i64 (Int.tdiv t2 2)) * 1)) = some (.int .i64 t3) ∧ ∃ (A14 : OA) (N14 C14 : Nat), cellH h_7 (Addr.add (Addr.mk (h).size 0 none) 8) = some (.slice A14 N14 C14) ∧ 0 ≤ (i : Int) ∧ (i : Int) < (N14 : Nat) ∧ AtP A14 fun ad2 => ∃ (t4 : Int), cellH h_7 (Addr.add (Addr.add ad2 (Int.toNat i * 3)) 2) = some (.int .i64 t4) ∧ 0 ≤ ((IntKind.wrap .i64 (Int.tdiv t4 2)) : Int) ∧ ((IntKind.wrap .i64 (Int.tdiv t4 2)) : Int) < (N10 : Nat) ∧ AtP A10 fun ad3 => ∃ (t5 : Int), cellH h_7 (Addr.add ad3 (Int.toNat (IntKind.wrap .i64 (Int.tdiv t4 2)) * 1)) = some (.int .i64 t5) ∧ PIf ((t3 : Int) < 0)
 (PIf ((t5 : Int) < 0)
 (0 ≤ (i : Int) ∧ (i : Int) < ((Int.toNat ((N11 : Nat) : Int)) : Nat) ∧ StoreH h_7 (Addr.add (Addr.mk (h_1).size 0 none) (Int.toNat i * 1)) [(.bool true)] fun h_8 => let h_9 : Heap := (h_8).push (.cells #[(.int .i64 i)] 3); ∃ ys : List Value, ReadL h_9 (some (Addr.mk (h_8).size 0 none)) ys ∧ ys.length = 1 * 1 ∧ AppS h_9 outA1 outN1 outC1 3 8 1 #[(.int .i64 0)] ys 1 fun apA apN apC h_10 => next_ ((apA, apN, apC), true) h_10)
 (0 ≤ (t5 : Int) ∧ (t5 : Int) < ((Int.toNat ((N11 : Nat) : Int)) : Nat) ∧ ∃ (t6 : Bool), cellH h_7 (Addr.add (Addr.mk (h_1).size 0 none) (Int.toNat t5 * 1)) = some (.bool t6) ∧ BIf t6 (0 ≤ (i : Int) ∧ (i : Int) < ((Int.toNat ((N11 : Nat) : Int)) : Nat) ∧ StoreH h_7 (Addr.add (Addr.mk (h_1).size 0 none) (Int.toNat i * 1)) [(.bool true)] fun h_11 => let h_12 : Heap := (h_11).push (.cells #[(.int .i64 i)] 3); ∃ ys1 : List Value, ReadL h_12 (some (Addr.mk (h_11).size 0 none)) ys1 ∧ ys1.length = 1 * 1 ∧ AppS h_12 outA1 outN1 outC1 3 8 1 #[(.int .i64 0)] ys1 1 fun apA1 apN1 apC1 h_13 => next_ ((apA1, apN1, apC1), true) h_13) (next_1 ((outA1, outN1, outC1), again1, (IntKind.wrap .i64 (i + 1))) h_7)))
 (0 ≤ (t3 : Int) ∧ (t3 : Int) < ((Int.toNat ((N11 : Nat) : Int)) : Nat) ∧ ∃ (t7 : Bool), cellH h_7 (Addr.add (Addr.mk (h_1).size 0 none) (Int.toNat t3 * 1)) = some (.bool t7) ∧ BIf t7 (PIf ((t5 : Int) < 0)
 (0 ≤ (i : Int) ∧ (i : Int) < ((Int.toNat ((N11 : Nat) : Int)) : Nat) ∧ StoreH h_7 (Addr.add (Addr.mk (h_1).size 0 none) (Int.toNat i * 1)) [(.bool true)] fun h_14 => let h_15 : Heap := (h_14).push (.cells #[(.int .i64 i)] 3); ∃ ys2 : List Value, ReadL h_15 (some (Addr.mk (h_14).size 0 none)) ys2 ∧ ys2.length = 1 * 1 ∧ AppS h_15 outA1 outN1 outC1 3 8 1 #[(.int .i64 0)] ys2 1 fun apA2 apN2 apC2 h_16 => next_ ((apA2, apN2, apC2), true) h_16)
 (0 ≤ (t5 : Int) ∧ (t5 : Int) < ((Int.toNat ((N11 : Nat) : Int)) : Nat) ∧ ∃ (t8 : Bool), cellH h_7 (Addr.add (Addr.mk (h_1).size 0 none) (Int.toNat t5 * 1)) = some (.bool t8) ∧ BIf t8 (0 ≤ (i : Int) ∧ (i : Int) < ((Int.toNat ((N11 : Nat) : Int)) : Nat) ∧ StoreH h_7 (Addr.add (Addr.mk (h_1).size 0 none) (Int.toNat i * 1)) [(.bool true)] fun h_17 => let h_18 : Heap := (h_17).push (.cells #[(.int .i64 i)] 3); ∃ ys3 : List Value, ReadL h_18 (some (Addr.mk (h_17).size 0 none)) ys3 ∧ ys3.length = 1 * 1 ∧ AppS h_18 outA1 outN1 outC1 3 8 1 #[(.int .i64 0)] ys3 1 fun apA3 apN3 apC3 h_19 => next_ ((apA3, apN3, apC3), true) h_19) (next_1 ((outA1, outN1, outC1), again1, (IntKind.wrap .i64 (i + 1))) h_7))) (next_1 ((outA1, outN1, outC1), again1, (IntKind.wrap .i64 (i + 1))) h_7))
def J91_2  (h : Heap) (A10 : OA) (N10 : Nat) (h_1 : Heap) (N11 : Nat) (next_ : ((Option Addr × Nat × Nat) × Bool → Heap → Prop)) (outA1 : OA) (outN1 outC1 : Nat) (again1 : Bool) (i : Int) (next_1 : ((Option Addr × Nat × Nat) × Bool × Int → Heap → Prop)) (h_6 : Heap) : Prop :=
 0 ≤ (i : Int) ∧ (i : Int) < ((Int.toNat ((N11 : Nat) : Int)) : Nat) ∧ ∃ (t1 : Bool), cellH h_6 (Addr.add (Addr.mk (h_1).size 0 none) (Int.toNat i * 1)) = some (.bool t1) ∧ BIf t1 (next_1 ((outA1, outN1, outC1), again1, (IntKind.wrap .i64 (i + 1))) h_6) (J91_3 h A10 N10 h_1 N11 next_ outA1 outN1 outC1 again1 i next_1 h_6)
def B91_4 (h : Heap) (A10 : OA) (N10 : Nat) (h_1 : Heap) (N11 : Nat) (next_ : ((Option Addr × Nat × Nat) × Bool → Heap → Prop)) (outA1 : OA) (outN1 outC1 : Nat) (again1 : Bool) (i : Int) (h_5 : Heap) (next_1 : (Option Addr × Nat × Nat) × Bool × Int → Heap → Prop) : Prop :=
 ∃ (A12 : OA) (N12 C12 : Nat), cellH h_5 (Addr.add (Addr.mk (h).size 0 none) 8) = some (.slice A12 N12 C12) ∧ PIf ((i : Int) < ((N12 : Nat) : Int))
 (J91_2 h A10 N10 h_1 N11 next_ outA1 outN1 outC1 again1 i next_1 h_5)
 (next_ ((outA1, outN1, outC1), again1) h_5)
def J91_1  (h : Heap) (A10 : OA) (N10 : Nat) (h_1 : Heap) (N11 : Nat) (outA : OA) (outN outC : Nat) (next_ : ((Option Addr × Nat × Nat) × Bool → Heap → Prop)) (h_4 : Heap) : Prop :=
 LoopT (σ := (Option Addr × Nat × Nat) × Bool × Int) (fun st_ h_st nx_st => B91_4 h A10 N10 h_1 N11 next_ (st_.1.1) (st_.1.2.1) (st_.1.2.2) (st_.2.1) (st_.2.2) h_st nx_st) ((outA, outN, outC), false, 0) h_4
def J91_0  (R : Value → Heap → Prop) (outA2 : OA) (outN2 outC2 : Nat) (h_20 : Heap) : Prop :=
 R (.slice outA2 outN2 outC2) h_20
def B91_5 (R : Value → Heap → Prop) (h : Heap) (A10 : OA) (N10 : Nat) (h_1 : Heap) (N11 : Nat) (outA : OA) (outN outC : Nat) (again : Bool) (h_3 : Heap) (next_ : (Option Addr × Nat × Nat) × Bool → Heap → Prop) : Prop :=
 BIf again (J91_1 h A10 N10 h_1 N11 outA outN outC next_ h_3) (J91_0 R (outA) (outN) (outC) h_3)
def VC91 (P : Program) (c : Int) (cA : OA) (cN cC : Nat) (cA1 : OA) (cN1 cC1 : Nat) (cA2 : OA) (cN2 cC2 : Nat) (cA3 : OA) (cN3 cC3 : Nat) (cA4 : OA) (cN4 cC4 : Nat) (cA5 : OA) (cN5 cC5 : Nat) (cA6 : OA) (cN6 cC6 : Nat) (cA7 : OA) (cN7 cC7 : Nat) (cA8 : OA) (cN8 cC8 : Nat) (cA9 : OA) (cN9 cC9 : Nat) (R : Value → Heap → Prop) (h : Heap) : Prop :=
 let h_ : Heap := (h).push (.cells (Value.cells (.agg #[(.int .i64 c), (.slice cA cN cC), (.slice cA1 cN1 cC1), (.slice cA2 cN2 cC2), (.slice cA3 cN3 cC3), (.slice cA4 cN4 cC4), (.slice cA5 cN5 cC5), (.slice cA6 cN6 cC6), (.slice cA7 cN7 cC7), (.slice cA8 cN8 cC8), (.slice cA9 cN9 cC9)])) 29); ∃ (t : Int) (A : OA) (N C : Nat) (A1 : OA) (N1 C1 : Nat) (A2 : OA) (N2 C2 : Nat) (A3 : OA) (N3 C3 : Nat) (A4 : OA) (N4 C4 : Nat) (A5 : OA) (N5 C5 : Nat) (A6 : OA) (N6 C6 : Nat) (A7 : OA) (N7 C7 : Nat) (A8 : OA) (N8 C8 : Nat) (A9 : OA) (N9 C9 : Nat), cellsH h_ (Addr.mk (h).size 0 none) 0 [(.int .i64 t), (.slice A N C), (.slice A1 N1 C1), (.slice A2 N2 C2), (.slice A3 N3 C3), (.slice A4 N4 C4), (.slice A5 N5 C5), (.slice A6 N6 C6), (.slice A7 N7 C7), (.slice A8 N8 C8), (.slice A9 N9 C9)] ∧ CallsH P 92 #[(.agg #[(.int .i64 t), (.slice A N C), (.slice A1 N1 C1), (.slice A2 N2 C2), (.slice A3 N3 C3), (.slice A4 N4 C4), (.slice A5 N5 C5), (.slice A6 N6 C6), (.slice A7 N7 C7), (.slice A8 N8 C8), (.slice A9 N9 C9)])] h_ fun v h_1 =>
 ∃ (A10 : OA) (N10 C10 : Nat), v = (.slice A10 N10 C10) ∧ ∃ (A11 : OA) (N11 C11 : Nat), cellH h_1 (Addr.add (Addr.mk (h).size 0 none) 8) = some (.slice A11 N11 C11) ∧ 0 ≤ (((N11 : Nat) : Int) : Int) ∧ (((N11 : Nat) : Int) : Int) ≤ ((N11 : Nat) : Int) ∧ (1 : Int) * ((N11 : Nat) : Int) ≤ 281474976710656 ∧ let h_2 : Heap := (h_1).push (.cells (zeroRow #[(.bool false)] (Int.toNat ((N11 : Nat) : Int) * 1)).toArray 4); LoopT (σ := (Option Addr × Nat × Nat) × Bool) (fun st_ h_st nx_st => B91_5 R h A10 N10 h_1 N11 (st_.1.1) (st_.1.2.1) (st_.1.2.2) (st_.2) h_st nx_st) ((none, 0, 0), true) h_2
theorem vc91 (P : Program) (c : Int) (cA : OA) (cN cC : Nat) (cA1 : OA) (cN1 cC1 : Nat) (cA2 : OA) (cN2 cC2 : Nat) (cA3 : OA) (cN3 cC3 : Nat) (cA4 : OA) (cN4 cC4 : Nat) (cA5 : OA) (cN5 cC5 : Nat) (cA6 : OA) (cN6 cC6 : Nat) (cA7 : OA) (cN7 cC7 : Nat) (cA8 : OA) (cN8 cC8 : Nat) (cA9 : OA) (cN9 cC9 : Nat) (R : Value → Heap → Prop) (h : Heap) : fnC P ret91 code91 [(.agg #[(.int .i64 c), (.slice cA cN cC), (.slice cA1 cN1 cC1), (.slice cA2 cN2 cC2), (.slice cA3 cN3 cC3), (.slice cA4 cN4 cC4), (.slice cA5 cN5 cC5), (.slice cA6 cN6 cC6), (.slice cA7 cN7 cC7), (.slice cA8 cN8 cC8), (.slice cA9 cN9 cC9)])] h R = VC91 P c cA cN cC cA1 cN1 cC1 cA2 cN2 cC2 cA3 cN3 cC3 cA4 cN4 cC4 cA5 cN5 cC5 cA6 cN6 cC6 cA7 cN7 cC7 cA8 cN8 cC8 cA9 cN9 cC9 R h := by kernel_rfl
theorem run91 (c : Int) (cA : OA) (cN cC : Nat) (cA1 : OA) (cN1 cC1 : Nat) (cA2 : OA) (cN2 cC2 : Nat) (cA3 : OA) (cN3 cC3 : Nat) (cA4 : OA) (cN4 cC4 : Nat) (cA5 : OA) (cN5 cC5 : Nat) (cA6 : OA) (cN6 cC6 : Nat) (cA7 : OA) (cN7 cC7 : Nat) (cA8 : OA) (cN8 cC8 : Nat) (cA9 : OA) (cN9 cC9 : Nat) (R : Value → Heap → Prop) (h : Heap) (hv : VC91 Try.prog c cA cN cC cA1 cN1 cC1 cA2 cN2 cC2 cA3 cN3 cC3 cA4 cN4 cC4 cA5 cN5 cC5 cA6 cN6 cC6 cA7 cN7 cC7 cA8 cN8 cC8 cA9 cN9 cC9 R h) : CallsH Try.prog 91 #[(.agg #[(.int .i64 c), (.slice cA cN cC), (.slice cA1 cN1 cC1), (.slice cA2 cN2 cC2), (.slice cA3 cN3 cC3), (.slice cA4 cN4 cC4), (.slice cA5 cN5 cC5), (.slice cA6 cN6 cC6), (.slice cA7 cN7 cC7), (.slice cA8 cN8 cC8), (.slice cA9 cN9 cC9)])] h R := calls_of_fnC (Checked.mixed Try.checked) Try.func91 comp91 (Nat.le_of_ble_eq_true rfl) (by rw [vc91]; exact hv)

/-! 92: trestle/trestleref03.gates -/
def loops92 : List (List (Nat × Shp)) := [[(4, .int .i64)], [(5, .int .i64)]]
noncomputable def code92 : SCode := ((compF Try.prog Try.f92 loops92).elim .skip fun x => x.2.2)
def ret92 : List RV := [.tmp 2]
theorem comp92 : compF Try.prog Try.f92 loops92 = some (37, ret92, code92) := by kernel_rfl
def J92_2  (h h_ : Heap) (t i : Int) (next_1 : (Int → Heap → Prop)) (h_6 : Heap) : Prop :=
 ∃ (A1 : OA) (N1 C1 : Nat), cellH h_6 (Addr.add (Addr.mk (h).size 0 none) 8) = some (.slice A1 N1 C1) ∧ 0 ≤ (i : Int) ∧ (i : Int) < (N1 : Nat) ∧ AtP A1 fun ad => ∃ (t2 : Int), cellH h_6 (Addr.add (Addr.add ad (Int.toNat i * 3)) 0) = some (.int .i64 t2) ∧ 0 ≤ ((IntKind.wrap .i64 (Int.tdiv t2 2)) : Int) ∧ ((IntKind.wrap .i64 (Int.tdiv t2 2)) : Int) < ((Int.toNat (IntKind.wrap .i64 (t + 1))) : Nat) ∧ StoreH h_6 (Addr.add (Addr.mk (h_).size 0 none) (Int.toNat (IntKind.wrap .i64 (Int.tdiv t2 2)) * 1)) [(.int .i64 i)] fun h_7 => next_1 ((IntKind.wrap .i64 (i + 1))) h_7
def J92_1  (R : Value → Heap → Prop) (h_ : Heap) (t : Int) (h_8 : Heap) : Prop :=
 R (.slice (some (Addr.mk (h_).size 0 none)) (Int.toNat (IntKind.wrap .i64 (t + 1))) (Int.toNat (IntKind.wrap .i64 (t + 1)))) h_8
def B92_3 (R : Value → Heap → Prop) (h h_ : Heap) (t i : Int) (h_5 : Heap) (next_1 : Int → Heap → Prop) : Prop :=
 ∃ (A : OA) (N C : Nat), cellH h_5 (Addr.add (Addr.mk (h).size 0 none) 8) = some (.slice A N C) ∧ PIf ((i : Int) < ((N : Nat) : Int))
 (J92_2 h h_ t i next_1 h_5)
 (J92_1 R h_ t h_5)
def J92_0  (R : Value → Heap → Prop) (h h_ : Heap) (t : Int) (h_4 : Heap) : Prop :=
 LoopT (σ := Int) (fun st_ h_st nx_st => B92_3 R h h_ t (st_) h_st nx_st) (0) h_4
def B92_4 (R : Value → Heap → Prop) (h h_ : Heap) (t v : Int) (h_2 : Heap) (next_ : Int → Heap → Prop) : Prop :=
 ∃ (t1 : Int), cellH h_2 (Addr.add (Addr.mk (h).size 0 none) 0) = some (.int .i64 t1) ∧ PIf ((v : Int) ≤ t1)
 (0 ≤ (v : Int) ∧ (v : Int) < ((Int.toNat (IntKind.wrap .i64 (t + 1))) : Nat) ∧ StoreH h_2 (Addr.add (Addr.mk (h_).size 0 none) (Int.toNat v * 1)) [(.int .i64 (-1))] fun h_3 => next_ ((IntKind.wrap .i64 (v + 1))) h_3)
 (J92_0 R h h_ t h_2)
def VC92 (P : Program) (c : Int) (cA : OA) (cN cC : Nat) (cA1 : OA) (cN1 cC1 : Nat) (cA2 : OA) (cN2 cC2 : Nat) (cA3 : OA) (cN3 cC3 : Nat) (cA4 : OA) (cN4 cC4 : Nat) (cA5 : OA) (cN5 cC5 : Nat) (cA6 : OA) (cN6 cC6 : Nat) (cA7 : OA) (cN7 cC7 : Nat) (cA8 : OA) (cN8 cC8 : Nat) (cA9 : OA) (cN9 cC9 : Nat) (R : Value → Heap → Prop) (h : Heap) : Prop :=
 let h_ : Heap := (h).push (.cells (Value.cells (.agg #[(.int .i64 c), (.slice cA cN cC), (.slice cA1 cN1 cC1), (.slice cA2 cN2 cC2), (.slice cA3 cN3 cC3), (.slice cA4 cN4 cC4), (.slice cA5 cN5 cC5), (.slice cA6 cN6 cC6), (.slice cA7 cN7 cC7), (.slice cA8 cN8 cC8), (.slice cA9 cN9 cC9)])) 29); ∃ (t : Int), cellH h_ (Addr.add (Addr.mk (h).size 0 none) 0) = some (.int .i64 t) ∧ 0 ≤ ((IntKind.wrap .i64 (t + 1)) : Int) ∧ ((IntKind.wrap .i64 (t + 1)) : Int) ≤ (IntKind.wrap .i64 (t + 1)) ∧ (8 : Int) * (IntKind.wrap .i64 (t + 1)) ≤ 281474976710656 ∧ let h_1 : Heap := (h_).push (.cells (zeroRow #[(.int .i64 0)] (Int.toNat (IntKind.wrap .i64 (t + 1)) * 1)).toArray 3); LoopT (σ := Int) (fun st_ h_st nx_st => B92_4 R h h_ t (st_) h_st nx_st) (0) h_1
theorem vc92 (P : Program) (c : Int) (cA : OA) (cN cC : Nat) (cA1 : OA) (cN1 cC1 : Nat) (cA2 : OA) (cN2 cC2 : Nat) (cA3 : OA) (cN3 cC3 : Nat) (cA4 : OA) (cN4 cC4 : Nat) (cA5 : OA) (cN5 cC5 : Nat) (cA6 : OA) (cN6 cC6 : Nat) (cA7 : OA) (cN7 cC7 : Nat) (cA8 : OA) (cN8 cC8 : Nat) (cA9 : OA) (cN9 cC9 : Nat) (R : Value → Heap → Prop) (h : Heap) : fnC P ret92 code92 [(.agg #[(.int .i64 c), (.slice cA cN cC), (.slice cA1 cN1 cC1), (.slice cA2 cN2 cC2), (.slice cA3 cN3 cC3), (.slice cA4 cN4 cC4), (.slice cA5 cN5 cC5), (.slice cA6 cN6 cC6), (.slice cA7 cN7 cC7), (.slice cA8 cN8 cC8), (.slice cA9 cN9 cC9)])] h R = VC92 P c cA cN cC cA1 cN1 cC1 cA2 cN2 cC2 cA3 cN3 cC3 cA4 cN4 cC4 cA5 cN5 cC5 cA6 cN6 cC6 cA7 cN7 cC7 cA8 cN8 cC8 cA9 cN9 cC9 R h := by kernel_rfl
theorem run92 (c : Int) (cA : OA) (cN cC : Nat) (cA1 : OA) (cN1 cC1 : Nat) (cA2 : OA) (cN2 cC2 : Nat) (cA3 : OA) (cN3 cC3 : Nat) (cA4 : OA) (cN4 cC4 : Nat) (cA5 : OA) (cN5 cC5 : Nat) (cA6 : OA) (cN6 cC6 : Nat) (cA7 : OA) (cN7 cC7 : Nat) (cA8 : OA) (cN8 cC8 : Nat) (cA9 : OA) (cN9 cC9 : Nat) (R : Value → Heap → Prop) (h : Heap) (hv : VC92 Try.prog c cA cN cC cA1 cN1 cC1 cA2 cN2 cC2 cA3 cN3 cC3 cA4 cN4 cC4 cA5 cN5 cC5 cA6 cN6 cC6 cA7 cN7 cC7 cA8 cN8 cC8 cA9 cN9 cC9 R h) : CallsH Try.prog 92 #[(.agg #[(.int .i64 c), (.slice cA cN cC), (.slice cA1 cN1 cC1), (.slice cA2 cN2 cC2), (.slice cA3 cN3 cC3), (.slice cA4 cN4 cC4), (.slice cA5 cN5 cC5), (.slice cA6 cN6 cC6), (.slice cA7 cN7 cC7), (.slice cA8 cN8 cC8), (.slice cA9 cN9 cC9)])] h R := calls_of_fnC (Checked.mixed Try.checked) Try.func92 comp92 (Nat.le_of_ble_eq_true rfl) (by rw [vc92]; exact hv)

/-! 93: trestle/trestleref03.round -/
def loops93 : List (List (Nat × Shp)) := [[(8, .slice), (9, .int .i64)], [(8, .slice), (12, .int .i64)]]
noncomputable def code93 : SCode := ((compF Try.prog Try.f93 loops93).elim .skip fun x => x.2.2)
def ret93 : List RV := [.tmp 6]
theorem comp93 : compF Try.prog Try.f93 loops93 = some (79, ret93, code93) := by kernel_rfl
def J93_4  (h_ : Heap) (N : Nat) (h_6 : Heap) (listA1 : OA) (listN1 listC1 : Nat) (k : Int) (next_1 : ((Option Addr × Nat × Nat) × Int → Heap → Prop)) (h_11 : Heap) : Prop :=
 0 ≤ (k : Int) ∧ (k : Int) < (2 : Nat) ∧ ∃ (t9 : Int), cellH h_11 (Addr.add (Addr.mk (h_6).size 0 none) (Int.toNat k * 1)) = some (.int .i64 t9) ∧ PIf ((0 : Int) ≤ t9)
 (0 ≤ (k : Int) ∧ (k : Int) < (2 : Nat) ∧ ∃ (t10 : Int), cellH h_11 (Addr.add (Addr.mk (h_6).size 0 none) (Int.toNat k * 1)) = some (.int .i64 t10) ∧ 0 ≤ (t10 : Int) ∧ (t10 : Int) < ((Int.toNat ((N : Nat) : Int)) : Nat) ∧ ∃ (t11 : Bool), cellH h_11 (Addr.add (Addr.mk (h_).size 0 none) (Int.toNat t10 * 1)) = some (.bool t11) ∧ BIf (!t11) (0 ≤ (k : Int) ∧ (k : Int) < (2 : Nat) ∧ ∃ (t12 : Int), cellH h_11 (Addr.add (Addr.mk (h_6).size 0 none) (Int.toNat k * 1)) = some (.int .i64 t12) ∧ 0 ≤ (t12 : Int) ∧ (t12 : Int) < ((Int.toNat ((N : Nat) : Int)) : Nat) ∧ StoreH h_11 (Addr.add (Addr.mk (h_).size 0 none) (Int.toNat t12 * 1)) [(.bool true)] fun h_12 => 0 ≤ (k : Int) ∧ (k : Int) < (2 : Nat) ∧ ∃ (t13 : Int), cellH h_12 (Addr.add (Addr.mk (h_6).size 0 none) (Int.toNat k * 1)) = some (.int .i64 t13) ∧ let h_13 : Heap := (h_12).push (.cells #[(.int .i64 t13)] 3); ∃ ys : List Value, ReadL h_13 (some (Addr.mk (h_12).size 0 none)) ys ∧ ys.length = 1 * 1 ∧ AppS h_13 listA1 listN1 listC1 3 8 1 #[(.int .i64 0)] ys 1 fun apA apN apC h_14 => next_1 ((apA, apN, apC), (IntKind.wrap .i64 (k + 1))) h_14) (next_1 ((listA1, listN1, listC1), (IntKind.wrap .i64 (k + 1))) h_11))
 (next_1 ((listA1, listN1, listC1), (IntKind.wrap .i64 (k + 1))) h_11)
def J93_3  (R : Value → Heap → Prop) (at_ : Int) (h_ : Heap) (N : Nat) (h_6 : Heap) (listA1 : OA) (listN1 listC1 : Nat) (k : Int) (next_1 : ((Option Addr × Nat × Nat) × Int → Heap → Prop)) (h_10 : Heap) : Prop :=
 0 ≤ (k : Int) ∧ (k : Int) < (2 : Nat) ∧ ∃ (t8 : Int), cellH h_10 (Addr.add (Addr.mk (h_6).size 0 none) (Int.toNat k * 1)) = some (.int .i64 t8) ∧ PIf ((t8 : Int) = at_)
 (R (.bool true) h_10)
 (J93_4 h_ N h_6 listA1 listN1 listC1 k next_1 h_10)
def J93_2  (i : Int) (next_ : ((Option Addr × Nat × Nat) × Int → Heap → Prop)) (listA2 : OA) (listN2 listC2 : Nat) (h_15 : Heap) : Prop :=
 next_ ((listA2, listN2, listC2), (IntKind.wrap .i64 (i + 1))) h_15
def B93_5 (R : Value → Heap → Prop) (at_ : Int) (h_ : Heap) (N : Nat) (i : Int) (next_ : ((Option Addr × Nat × Nat) × Int → Heap → Prop)) (h_6 : Heap) (listA1 : OA) (listN1 listC1 : Nat) (k : Int) (h_9 : Heap) (next_1 : (Option Addr × Nat × Nat) × Int → Heap → Prop) : Prop :=
 PIf ((k : Int) < 2)
 (J93_3 R at_ h_ N h_6 listA1 listN1 listC1 k next_1 h_9)
 (J93_2 i next_ (listA1) (listN1) (listC1) h_9)
def J93_1  (R : Value → Heap → Prop) (h : Heap) (gateA : OA) (gateN : Nat) (at_ : Int) (h_ : Heap) (N : Nat) (listA : OA) (listN listC : Nat) (i : Int) (next_ : ((Option Addr × Nat × Nat) × Int → Heap → Prop)) (h_4 : Heap) : Prop :=
 (Addr.block (Addr.add (Addr.mk (h).size 0 none) 8)) < (h_4).size ∧ ∃ (A1 : OA) (N1 C1 : Nat), cellH h_4 (Addr.add (Addr.mk (h).size 0 none) 8) = some (.slice A1 N1 C1) ∧ 0 ≤ (i : Int) ∧ (i : Int) < (listN : Nat) ∧ AtP listA fun ad => (Addr.block (Addr.add ad (Int.toNat i * 1))) < (h_4).size ∧ ∃ (t : Int), cellH h_4 (Addr.add ad (Int.toNat i * 1)) = some (.int .i64 t) ∧ 0 ≤ (t : Int) ∧ (t : Int) < (N1 : Nat) ∧ AtP A1 fun ad1 => (Addr.block (Addr.add ad1 (Int.toNat t * 3))) < (h_4).size ∧ ∃ (t1 t2 t3 : Int), cellsH h_4 (Addr.add ad1 (Int.toNat t * 3)) 0 [(.int .i64 t1), (.int .i64 t2), (.int .i64 t3)] ∧ let h_5 : Heap := (h_4).push (.cells #[(.int .i64 0), (.int .i64 0), (.int .i64 0)] 82); AgreeH (h_4).size h_4 h_5 ∧ StoreH h_5 (Addr.mk (h_4).size 0 none) [(.int .i64 t1), (.int .i64 t2), (.int .i64 t3)] fun h_6 => (Addr.block (Addr.add (Addr.mk (h_4).size 0 none) 1)) < (h_6).size ∧ ∃ (t4 : Int), cellH h_6 (Addr.add (Addr.mk (h_4).size 0 none) 1) = some (.int .i64 t4) ∧ 0 ≤ ((IntKind.wrap .i64 (Int.tdiv t4 2)) : Int) ∧ ((IntKind.wrap .i64 (Int.tdiv t4 2)) : Int) < (gateN : Nat) ∧ AtP gateA fun ad2 => (Addr.block (Addr.add ad2 (Int.toNat (IntKind.wrap .i64 (Int.tdiv t4 2)) * 1))) < (h_6).size ∧ ∃ (t5 : Int), cellH h_6 (Addr.add ad2 (Int.toNat (IntKind.wrap .i64 (Int.tdiv t4 2)) * 1)) = some (.int .i64 t5) ∧ (Addr.block (Addr.add (Addr.mk (h_4).size 0 none) 2)) < (h_6).size ∧ ∃ (t6 : Int), cellH h_6 (Addr.add (Addr.mk (h_4).size 0 none) 2) = some (.int .i64 t6) ∧ 0 ≤ ((IntKind.wrap .i64 (Int.tdiv t6 2)) : Int) ∧ ((IntKind.wrap .i64 (Int.tdiv t6 2)) : Int) < (gateN : Nat) ∧ AtP gateA fun ad3 => (Addr.block (Addr.add ad3 (Int.toNat (IntKind.wrap .i64 (Int.tdiv t6 2)) * 1))) < (h_6).size ∧ ∃ (t7 : Int), cellH h_6 (Addr.add ad3 (Int.toNat (IntKind.wrap .i64 (Int.tdiv t6 2)) * 1)) = some (.int .i64 t7) ∧ let h_7 : Heap := (h_6).push (.cells #[(.int .i64 0), (.int .i64 0)] 177); AgreeH (h_6).size h_6 h_7 ∧ StoreH h_7 (Addr.mk (h_6).size 0 none) [(.int .i64 t5), (.int .i64 t7)] fun h_8 => LoopT (σ := (Option Addr × Nat × Nat) × Int) (fun st_ h_st nx_st => B93_5 R at_ h_ N i next_ h_6 (st_.1.1) (st_.1.2.1) (st_.1.2.2) (st_.2) h_st nx_st) ((listA, listN, listC), 0) h_8
def J93_0  (R : Value → Heap → Prop) (h_16 : Heap) : Prop :=
 R (.bool false) h_16
def B93_6 (R : Value → Heap → Prop) (h : Heap) (gateA : OA) (gateN : Nat) (at_ : Int) (h_ : Heap) (N : Nat) (listA : OA) (listN listC : Nat) (i : Int) (h_3 : Heap) (next_ : (Option Addr × Nat × Nat) × Int → Heap → Prop) : Prop :=
 PIf ((i : Int) < ((listN : Nat) : Int))
 (J93_1 R h gateA gateN at_ h_ N listA listN listC i next_ h_3)
 (J93_0 R h_3)
def VC93 (P : Program) (c : Int) (cA : OA) (cN cC : Nat) (cA1 : OA) (cN1 cC1 : Nat) (cA2 : OA) (cN2 cC2 : Nat) (cA3 : OA) (cN3 cC3 : Nat) (cA4 : OA) (cN4 cC4 : Nat) (cA5 : OA) (cN5 cC5 : Nat) (cA6 : OA) (cN6 cC6 : Nat) (cA7 : OA) (cN7 cC7 : Nat) (cA8 : OA) (cN8 cC8 : Nat) (cA9 : OA) (cN9 cC9 : Nat) (gateA : OA) (gateN gateC : Nat) (at_ : Int) (R : Value → Heap → Prop) (h : Heap) : Prop :=
 let h_ : Heap := (h).push (.cells (Value.cells (.agg #[(.int .i64 c), (.slice cA cN cC), (.slice cA1 cN1 cC1), (.slice cA2 cN2 cC2), (.slice cA3 cN3 cC3), (.slice cA4 cN4 cC4), (.slice cA5 cN5 cC5), (.slice cA6 cN6 cC6), (.slice cA7 cN7 cC7), (.slice cA8 cN8 cC8), (.slice cA9 cN9 cC9)])) 29); ∃ (A : OA) (N C : Nat), cellH h_ (Addr.add (Addr.mk (h).size 0 none) 8) = some (.slice A N C) ∧ 0 ≤ (((N : Nat) : Int) : Int) ∧ (((N : Nat) : Int) : Int) ≤ ((N : Nat) : Int) ∧ (1 : Int) * ((N : Nat) : Int) ≤ 281474976710656 ∧ let h_1 : Heap := (h_).push (.cells (zeroRow #[(.bool false)] (Int.toNat ((N : Nat) : Int) * 1)).toArray 4); let h_2 : Heap := (h_1).push (.cells #[(.int .i64 at_)] 3); LoopT (σ := (Option Addr × Nat × Nat) × Int) (fun st_ h_st nx_st => B93_6 R h gateA gateN at_ h_ N (st_.1.1) (st_.1.2.1) (st_.1.2.2) (st_.2) h_st nx_st) (((some (Addr.mk (h_1).size 0 none)), 1, 1), 0) h_2
theorem vc93 (P : Program) (c : Int) (cA : OA) (cN cC : Nat) (cA1 : OA) (cN1 cC1 : Nat) (cA2 : OA) (cN2 cC2 : Nat) (cA3 : OA) (cN3 cC3 : Nat) (cA4 : OA) (cN4 cC4 : Nat) (cA5 : OA) (cN5 cC5 : Nat) (cA6 : OA) (cN6 cC6 : Nat) (cA7 : OA) (cN7 cC7 : Nat) (cA8 : OA) (cN8 cC8 : Nat) (cA9 : OA) (cN9 cC9 : Nat) (gateA : OA) (gateN gateC : Nat) (at_ : Int) (R : Value → Heap → Prop) (h : Heap) : fnC P ret93 code93 [(.agg #[(.int .i64 c), (.slice cA cN cC), (.slice cA1 cN1 cC1), (.slice cA2 cN2 cC2), (.slice cA3 cN3 cC3), (.slice cA4 cN4 cC4), (.slice cA5 cN5 cC5), (.slice cA6 cN6 cC6), (.slice cA7 cN7 cC7), (.slice cA8 cN8 cC8), (.slice cA9 cN9 cC9)]), (.slice gateA gateN gateC), (.int .i64 at_)] h R = VC93 P c cA cN cC cA1 cN1 cC1 cA2 cN2 cC2 cA3 cN3 cC3 cA4 cN4 cC4 cA5 cN5 cC5 cA6 cN6 cC6 cA7 cN7 cC7 cA8 cN8 cC8 cA9 cN9 cC9 gateA gateN gateC at_ R h := by kernel_rfl
theorem run93 (c : Int) (cA : OA) (cN cC : Nat) (cA1 : OA) (cN1 cC1 : Nat) (cA2 : OA) (cN2 cC2 : Nat) (cA3 : OA) (cN3 cC3 : Nat) (cA4 : OA) (cN4 cC4 : Nat) (cA5 : OA) (cN5 cC5 : Nat) (cA6 : OA) (cN6 cC6 : Nat) (cA7 : OA) (cN7 cC7 : Nat) (cA8 : OA) (cN8 cC8 : Nat) (cA9 : OA) (cN9 cC9 : Nat) (gateA : OA) (gateN gateC : Nat) (at_ : Int) (R : Value → Heap → Prop) (h : Heap) (hv : VC93 Try.prog c cA cN cC cA1 cN1 cC1 cA2 cN2 cC2 cA3 cN3 cC3 cA4 cN4 cC4 cA5 cN5 cC5 cA6 cN6 cC6 cA7 cN7 cC7 cA8 cN8 cC8 cA9 cN9 cC9 gateA gateN gateC at_ R h) : CallsH Try.prog 93 #[(.agg #[(.int .i64 c), (.slice cA cN cC), (.slice cA1 cN1 cC1), (.slice cA2 cN2 cC2), (.slice cA3 cN3 cC3), (.slice cA4 cN4 cC4), (.slice cA5 cN5 cC5), (.slice cA6 cN6 cC6), (.slice cA7 cN7 cC7), (.slice cA8 cN8 cC8), (.slice cA9 cN9 cC9)]), (.slice gateA gateN gateC), (.int .i64 at_)] h R := calls_of_fnC (Checked.mixed Try.checked) Try.func93 comp93 (Nat.le_of_ble_eq_true rfl) (by rw [vc93]; exact hv)

/-! 94: trestle/trestleref03.symbols -/
def loops94 : List (List (Nat × Shp)) := [[(4, .int .i64)], [(7, .bool), (8, .int .i64)], [(7, .bool), (9, .int .i64)]]
noncomputable def code94 : SCode := ((compF Try.prog Try.f94 loops94).elim .skip fun x => x.2.2)
def ret94 : List RV := [.tmp 2, .tmp 3]
theorem comp94 : compF Try.prog Try.f94 loops94 = some (126, ret94, code94) := by kernel_rfl
def J94_5  (h_2 : Heap) (k : Int) (next_1 : (Bool × Int → Heap → Prop)) (h_7 : Heap) : Prop :=
 ∃ (t9 : ByteArray), cellH h_7 (Addr.add (Addr.mk (h_2).size 0 none) 2) = some (.string t9) ∧ 0 ≤ (k : Int) ∧ (k : Int) < (t9.size : Nat) ∧ PIf ((32 : Int) ≤ (byteAt t9 k))
 (next_1 (true, (IntKind.wrap .i64 (k + 1))) h_7)
 (next_1 (false, (IntKind.wrap .i64 (k + 1))) h_7)
def J94_7  (h h_2 : Heap) (k1 : Int) (next_2 : (Bool × Int → Heap → Prop)) (h_10 : Heap) : Prop :=
 ∃ (A3 : OA) (N3 C3 : Nat), cellH h_10 (Addr.add (Addr.mk (h).size 0 none) 9) = some (.slice A3 N3 C3) ∧ 0 ≤ (k1 : Int) ∧ (k1 : Int) < (N3 : Nat) ∧ AtP A3 fun ad1 => ∃ (t10 : Int), cellH h_10 (Addr.add (Addr.add ad1 (Int.toNat k1 * 3)) 0) = some (.int .u8 t10) ∧ ∃ (t11 : Int), cellH h_10 (Addr.add (Addr.mk (h_2).size 0 none) 0) = some (.int .u8 t11) ∧ PIf ((t10 : Int) = t11)
 (∃ (A4 : OA) (N4 C4 : Nat), cellH h_10 (Addr.add (Addr.mk (h).size 0 none) 9) = some (.slice A4 N4 C4) ∧ 0 ≤ (k1 : Int) ∧ (k1 : Int) < (N4 : Nat) ∧ AtP A4 fun ad2 => ∃ (t12 : Int), cellH h_10 (Addr.add (Addr.add ad2 (Int.toNat k1 * 3)) 1) = some (.int .i64 t12) ∧ ∃ (t13 : Int), cellH h_10 (Addr.add (Addr.mk (h_2).size 0 none) 1) = some (.int .i64 t13) ∧ PIf ((t12 : Int) = t13)
 (next_2 (false, (IntKind.wrap .i64 (k1 + 1))) h_10)
 (next_2 (true, (IntKind.wrap .i64 (k1 + 1))) h_10))
 (next_2 (true, (IntKind.wrap .i64 (k1 + 1))) h_10)
def J94_2  (i : Int) (next_ : (Int → Heap → Prop)) (h_12 : Heap) : Prop :=
 next_ ((IntKind.wrap .i64 (i + 1))) h_12
def J94_6  (R : Value → Heap → Prop) (i : Int) (next_ : (Int → Heap → Prop)) (ok3 : Bool) (h_11 : Heap) : Prop :=
 BIf (!ok3) (R (.tuple #[(.int .i64 i), (.int .i64 35)]) h_11) (J94_2 i next_ h_11)
def B94_8 (R : Value → Heap → Prop) (h : Heap) (i : Int) (next_ : (Int → Heap → Prop)) (h_2 : Heap) (ok2 : Bool) (k1 : Int) (h_9 : Heap) (next_2 : Bool × Int → Heap → Prop) : Prop :=
 BIf ok2 (PIf ((k1 : Int) < i)
 (J94_7 h h_2 k1 next_2 h_9)
 (J94_6 R i next_ (ok2) h_9)) (J94_6 R i next_ (ok2) h_9)
def J94_4  (R : Value → Heap → Prop) (h : Heap) (i : Int) (next_ : (Int → Heap → Prop)) (h_2 : Heap) (ok1 : Bool) (h_8 : Heap) : Prop :=
 LoopT (σ := Bool × Int) (fun st_ h_st nx_st => B94_8 R h i next_ h_2 (st_.1) (st_.2) h_st nx_st) (ok1, 0) h_8
def B94_9 (R : Value → Heap → Prop) (h : Heap) (i : Int) (next_ : (Int → Heap → Prop)) (h_2 : Heap) (ok : Bool) (k : Int) (h_6 : Heap) (next_1 : Bool × Int → Heap → Prop) : Prop :=
 BIf ok (∃ (t8 : ByteArray), cellH h_6 (Addr.add (Addr.mk (h_2).size 0 none) 2) = some (.string t8) ∧ PIf ((k : Int) < ((t8.size : Nat) : Int))
 (J94_5 h_2 k next_1 h_6)
 (J94_4 R h i next_ h_2 (ok) h_6)) (J94_4 R h i next_ h_2 (ok) h_6)
def J94_11  (h_2 : Heap) (k2 : Int) (next_3 : (Bool × Int → Heap → Prop)) (h_14 : Heap) : Prop :=
 ∃ (t15 : ByteArray), cellH h_14 (Addr.add (Addr.mk (h_2).size 0 none) 2) = some (.string t15) ∧ 0 ≤ (k2 : Int) ∧ (k2 : Int) < (t15.size : Nat) ∧ PIf ((32 : Int) ≤ (byteAt t15 k2))
 (next_3 (true, (IntKind.wrap .i64 (k2 + 1))) h_14)
 (next_3 (false, (IntKind.wrap .i64 (k2 + 1))) h_14)
def J94_13  (h h_2 : Heap) (k3 : Int) (next_4 : (Bool × Int → Heap → Prop)) (h_17 : Heap) : Prop :=
 ∃ (A5 : OA) (N5 C5 : Nat), cellH h_17 (Addr.add (Addr.mk (h).size 0 none) 9) = some (.slice A5 N5 C5) ∧ 0 ≤ (k3 : Int) ∧ (k3 : Int) < (N5 : Nat) ∧ AtP A5 fun ad3 => ∃ (t16 : Int), cellH h_17 (Addr.add (Addr.add ad3 (Int.toNat k3 * 3)) 0) = some (.int .u8 t16) ∧ ∃ (t17 : Int), cellH h_17 (Addr.add (Addr.mk (h_2).size 0 none) 0) = some (.int .u8 t17) ∧ PIf ((t16 : Int) = t17)
 (∃ (A6 : OA) (N6 C6 : Nat), cellH h_17 (Addr.add (Addr.mk (h).size 0 none) 9) = some (.slice A6 N6 C6) ∧ 0 ≤ (k3 : Int) ∧ (k3 : Int) < (N6 : Nat) ∧ AtP A6 fun ad4 => ∃ (t18 : Int), cellH h_17 (Addr.add (Addr.add ad4 (Int.toNat k3 * 3)) 1) = some (.int .i64 t18) ∧ ∃ (t19 : Int), cellH h_17 (Addr.add (Addr.mk (h_2).size 0 none) 1) = some (.int .i64 t19) ∧ PIf ((t18 : Int) = t19)
 (next_4 (false, (IntKind.wrap .i64 (k3 + 1))) h_17)
 (next_4 (true, (IntKind.wrap .i64 (k3 + 1))) h_17))
 (next_4 (true, (IntKind.wrap .i64 (k3 + 1))) h_17)
def J94_12  (R : Value → Heap → Prop) (i : Int) (next_ : (Int → Heap → Prop)) (ok7 : Bool) (h_18 : Heap) : Prop :=
 BIf (!ok7) (R (.tuple #[(.int .i64 i), (.int .i64 35)]) h_18) (J94_2 i next_ h_18)
def B94_14 (R : Value → Heap → Prop) (h : Heap) (i : Int) (next_ : (Int → Heap → Prop)) (h_2 : Heap) (ok6 : Bool) (k3 : Int) (h_16 : Heap) (next_4 : Bool × Int → Heap → Prop) : Prop :=
 BIf ok6 (PIf ((k3 : Int) < i)
 (J94_13 h h_2 k3 next_4 h_16)
 (J94_12 R i next_ (ok6) h_16)) (J94_12 R i next_ (ok6) h_16)
def J94_10  (R : Value → Heap → Prop) (h : Heap) (i : Int) (next_ : (Int → Heap → Prop)) (h_2 : Heap) (ok5 : Bool) (h_15 : Heap) : Prop :=
 LoopT (σ := Bool × Int) (fun st_ h_st nx_st => B94_14 R h i next_ h_2 (st_.1) (st_.2) h_st nx_st) (ok5, 0) h_15
def B94_15 (R : Value → Heap → Prop) (h : Heap) (i : Int) (next_ : (Int → Heap → Prop)) (h_2 : Heap) (ok4 : Bool) (k2 : Int) (h_13 : Heap) (next_3 : Bool × Int → Heap → Prop) : Prop :=
 BIf ok4 (∃ (t14 : ByteArray), cellH h_13 (Addr.add (Addr.mk (h_2).size 0 none) 2) = some (.string t14) ∧ PIf ((k2 : Int) < ((t14.size : Nat) : Int))
 (J94_11 h_2 k2 next_3 h_13)
 (J94_10 R h i next_ h_2 (ok4) h_13)) (J94_10 R h i next_ h_2 (ok4) h_13)
def J94_17  (h_2 : Heap) (k4 : Int) (next_5 : (Bool × Int → Heap → Prop)) (h_20 : Heap) : Prop :=
 ∃ (t21 : ByteArray), cellH h_20 (Addr.add (Addr.mk (h_2).size 0 none) 2) = some (.string t21) ∧ 0 ≤ (k4 : Int) ∧ (k4 : Int) < (t21.size : Nat) ∧ PIf ((32 : Int) ≤ (byteAt t21 k4))
 (next_5 (true, (IntKind.wrap .i64 (k4 + 1))) h_20)
 (next_5 (false, (IntKind.wrap .i64 (k4 + 1))) h_20)
def J94_19  (h h_2 : Heap) (k5 : Int) (next_6 : (Bool × Int → Heap → Prop)) (h_23 : Heap) : Prop :=
 ∃ (A7 : OA) (N7 C7 : Nat), cellH h_23 (Addr.add (Addr.mk (h).size 0 none) 9) = some (.slice A7 N7 C7) ∧ 0 ≤ (k5 : Int) ∧ (k5 : Int) < (N7 : Nat) ∧ AtP A7 fun ad5 => ∃ (t22 : Int), cellH h_23 (Addr.add (Addr.add ad5 (Int.toNat k5 * 3)) 0) = some (.int .u8 t22) ∧ ∃ (t23 : Int), cellH h_23 (Addr.add (Addr.mk (h_2).size 0 none) 0) = some (.int .u8 t23) ∧ PIf ((t22 : Int) = t23)
 (∃ (A8 : OA) (N8 C8 : Nat), cellH h_23 (Addr.add (Addr.mk (h).size 0 none) 9) = some (.slice A8 N8 C8) ∧ 0 ≤ (k5 : Int) ∧ (k5 : Int) < (N8 : Nat) ∧ AtP A8 fun ad6 => ∃ (t24 : Int), cellH h_23 (Addr.add (Addr.add ad6 (Int.toNat k5 * 3)) 1) = some (.int .i64 t24) ∧ ∃ (t25 : Int), cellH h_23 (Addr.add (Addr.mk (h_2).size 0 none) 1) = some (.int .i64 t25) ∧ PIf ((t24 : Int) = t25)
 (next_6 (false, (IntKind.wrap .i64 (k5 + 1))) h_23)
 (next_6 (true, (IntKind.wrap .i64 (k5 + 1))) h_23))
 (next_6 (true, (IntKind.wrap .i64 (k5 + 1))) h_23)
def J94_18  (R : Value → Heap → Prop) (i : Int) (next_ : (Int → Heap → Prop)) (ok11 : Bool) (h_24 : Heap) : Prop :=
 BIf (!ok11) (R (.tuple #[(.int .i64 i), (.int .i64 35)]) h_24) (J94_2 i next_ h_24)
def B94_20 (R : Value → Heap → Prop) (h : Heap) (i : Int) (next_ : (Int → Heap → Prop)) (h_2 : Heap) (ok10 : Bool) (k5 : Int) (h_22 : Heap) (next_6 : Bool × Int → Heap → Prop) : Prop :=
 BIf ok10 (PIf ((k5 : Int) < i)
 (J94_19 h h_2 k5 next_6 h_22)
 (J94_18 R i next_ (ok10) h_22)) (J94_18 R i next_ (ok10) h_22)
def J94_16  (R : Value → Heap → Prop) (h : Heap) (i : Int) (next_ : (Int → Heap → Prop)) (h_2 : Heap) (ok9 : Bool) (h_21 : Heap) : Prop :=
 LoopT (σ := Bool × Int) (fun st_ h_st nx_st => B94_20 R h i next_ h_2 (st_.1) (st_.2) h_st nx_st) (ok9, 0) h_21
def B94_21 (R : Value → Heap → Prop) (h : Heap) (i : Int) (next_ : (Int → Heap → Prop)) (h_2 : Heap) (ok8 : Bool) (k4 : Int) (h_19 : Heap) (next_5 : Bool × Int → Heap → Prop) : Prop :=
 BIf ok8 (∃ (t20 : ByteArray), cellH h_19 (Addr.add (Addr.mk (h_2).size 0 none) 2) = some (.string t20) ∧ PIf ((k4 : Int) < ((t20.size : Nat) : Int))
 (J94_17 h_2 k4 next_5 h_19)
 (J94_16 R h i next_ h_2 (ok8) h_19)) (J94_16 R h i next_ h_2 (ok8) h_19)
def J94_23  (h_2 : Heap) (k6 : Int) (next_7 : (Bool × Int → Heap → Prop)) (h_26 : Heap) : Prop :=
 ∃ (t27 : ByteArray), cellH h_26 (Addr.add (Addr.mk (h_2).size 0 none) 2) = some (.string t27) ∧ 0 ≤ (k6 : Int) ∧ (k6 : Int) < (t27.size : Nat) ∧ PIf ((32 : Int) ≤ (byteAt t27 k6))
 (next_7 (true, (IntKind.wrap .i64 (k6 + 1))) h_26)
 (next_7 (false, (IntKind.wrap .i64 (k6 + 1))) h_26)
def J94_25  (h h_2 : Heap) (k7 : Int) (next_8 : (Bool × Int → Heap → Prop)) (h_29 : Heap) : Prop :=
 ∃ (A9 : OA) (N9 C9 : Nat), cellH h_29 (Addr.add (Addr.mk (h).size 0 none) 9) = some (.slice A9 N9 C9) ∧ 0 ≤ (k7 : Int) ∧ (k7 : Int) < (N9 : Nat) ∧ AtP A9 fun ad7 => ∃ (t28 : Int), cellH h_29 (Addr.add (Addr.add ad7 (Int.toNat k7 * 3)) 0) = some (.int .u8 t28) ∧ ∃ (t29 : Int), cellH h_29 (Addr.add (Addr.mk (h_2).size 0 none) 0) = some (.int .u8 t29) ∧ PIf ((t28 : Int) = t29)
 (∃ (A10 : OA) (N10 C10 : Nat), cellH h_29 (Addr.add (Addr.mk (h).size 0 none) 9) = some (.slice A10 N10 C10) ∧ 0 ≤ (k7 : Int) ∧ (k7 : Int) < (N10 : Nat) ∧ AtP A10 fun ad8 => ∃ (t30 : Int), cellH h_29 (Addr.add (Addr.add ad8 (Int.toNat k7 * 3)) 1) = some (.int .i64 t30) ∧ ∃ (t31 : Int), cellH h_29 (Addr.add (Addr.mk (h_2).size 0 none) 1) = some (.int .i64 t31) ∧ PIf ((t30 : Int) = t31)
 (next_8 (false, (IntKind.wrap .i64 (k7 + 1))) h_29)
 (next_8 (true, (IntKind.wrap .i64 (k7 + 1))) h_29))
 (next_8 (true, (IntKind.wrap .i64 (k7 + 1))) h_29)
def J94_24  (R : Value → Heap → Prop) (i : Int) (next_ : (Int → Heap → Prop)) (ok15 : Bool) (h_30 : Heap) : Prop :=
 BIf (!ok15) (R (.tuple #[(.int .i64 i), (.int .i64 35)]) h_30) (J94_2 i next_ h_30)
def B94_26 (R : Value → Heap → Prop) (h : Heap) (i : Int) (next_ : (Int → Heap → Prop)) (h_2 : Heap) (ok14 : Bool) (k7 : Int) (h_28 : Heap) (next_8 : Bool × Int → Heap → Prop) : Prop :=
 BIf ok14 (PIf ((k7 : Int) < i)
 (J94_25 h h_2 k7 next_8 h_28)
 (J94_24 R i next_ (ok14) h_28)) (J94_24 R i next_ (ok14) h_28)
def J94_22  (R : Value → Heap → Prop) (h : Heap) (i : Int) (next_ : (Int → Heap → Prop)) (h_2 : Heap) (ok13 : Bool) (h_27 : Heap) : Prop :=
 LoopT (σ := Bool × Int) (fun st_ h_st nx_st => B94_26 R h i next_ h_2 (st_.1) (st_.2) h_st nx_st) (ok13, 0) h_27
def B94_27 (R : Value → Heap → Prop) (h : Heap) (i : Int) (next_ : (Int → Heap → Prop)) (h_2 : Heap) (ok12 : Bool) (k6 : Int) (h_25 : Heap) (next_7 : Bool × Int → Heap → Prop) : Prop :=
 BIf ok12 (∃ (t26 : ByteArray), cellH h_25 (Addr.add (Addr.mk (h_2).size 0 none) 2) = some (.string t26) ∧ PIf ((k6 : Int) < ((t26.size : Nat) : Int))
 (J94_23 h_2 k6 next_7 h_25)
 (J94_22 R h i next_ h_2 (ok12) h_25)) (J94_22 R h i next_ h_2 (ok12) h_25)
def J94_29  (h_2 : Heap) (k8 : Int) (next_9 : (Bool × Int → Heap → Prop)) (h_32 : Heap) : Prop :=
 ∃ (t33 : ByteArray), cellH h_32 (Addr.add (Addr.mk (h_2).size 0 none) 2) = some (.string t33) ∧ 0 ≤ (k8 : Int) ∧ (k8 : Int) < (t33.size : Nat) ∧ PIf ((32 : Int) ≤ (byteAt t33 k8))
 (next_9 (true, (IntKind.wrap .i64 (k8 + 1))) h_32)
 (next_9 (false, (IntKind.wrap .i64 (k8 + 1))) h_32)
def J94_31  (h h_2 : Heap) (k9 : Int) (next_10 : (Bool × Int → Heap → Prop)) (h_35 : Heap) : Prop :=
 ∃ (A11 : OA) (N11 C11 : Nat), cellH h_35 (Addr.add (Addr.mk (h).size 0 none) 9) = some (.slice A11 N11 C11) ∧ 0 ≤ (k9 : Int) ∧ (k9 : Int) < (N11 : Nat) ∧ AtP A11 fun ad9 => ∃ (t34 : Int), cellH h_35 (Addr.add (Addr.add ad9 (Int.toNat k9 * 3)) 0) = some (.int .u8 t34) ∧ ∃ (t35 : Int), cellH h_35 (Addr.add (Addr.mk (h_2).size 0 none) 0) = some (.int .u8 t35) ∧ PIf ((t34 : Int) = t35)
 (∃ (A12 : OA) (N12 C12 : Nat), cellH h_35 (Addr.add (Addr.mk (h).size 0 none) 9) = some (.slice A12 N12 C12) ∧ 0 ≤ (k9 : Int) ∧ (k9 : Int) < (N12 : Nat) ∧ AtP A12 fun ad10 => ∃ (t36 : Int), cellH h_35 (Addr.add (Addr.add ad10 (Int.toNat k9 * 3)) 1) = some (.int .i64 t36) ∧ ∃ (t37 : Int), cellH h_35 (Addr.add (Addr.mk (h_2).size 0 none) 1) = some (.int .i64 t37) ∧ PIf ((t36 : Int) = t37)
 (next_10 (false, (IntKind.wrap .i64 (k9 + 1))) h_35)
 (next_10 (true, (IntKind.wrap .i64 (k9 + 1))) h_35))
 (next_10 (true, (IntKind.wrap .i64 (k9 + 1))) h_35)
def J94_30  (R : Value → Heap → Prop) (i : Int) (next_ : (Int → Heap → Prop)) (ok19 : Bool) (h_36 : Heap) : Prop :=
 BIf (!ok19) (R (.tuple #[(.int .i64 i), (.int .i64 35)]) h_36) (J94_2 i next_ h_36)
def B94_32 (R : Value → Heap → Prop) (h : Heap) (i : Int) (next_ : (Int → Heap → Prop)) (h_2 : Heap) (ok18 : Bool) (k9 : Int) (h_34 : Heap) (next_10 : Bool × Int → Heap → Prop) : Prop :=
 BIf ok18 (PIf ((k9 : Int) < i)
 (J94_31 h h_2 k9 next_10 h_34)
 (J94_30 R i next_ (ok18) h_34)) (J94_30 R i next_ (ok18) h_34)
def J94_28  (R : Value → Heap → Prop) (h : Heap) (i : Int) (next_ : (Int → Heap → Prop)) (h_2 : Heap) (ok17 : Bool) (h_33 : Heap) : Prop :=
 LoopT (σ := Bool × Int) (fun st_ h_st nx_st => B94_32 R h i next_ h_2 (st_.1) (st_.2) h_st nx_st) (ok17, 0) h_33
def B94_33 (R : Value → Heap → Prop) (h : Heap) (i : Int) (next_ : (Int → Heap → Prop)) (h_2 : Heap) (ok16 : Bool) (k8 : Int) (h_31 : Heap) (next_9 : Bool × Int → Heap → Prop) : Prop :=
 BIf ok16 (∃ (t32 : ByteArray), cellH h_31 (Addr.add (Addr.mk (h_2).size 0 none) 2) = some (.string t32) ∧ PIf ((k8 : Int) < ((t32.size : Nat) : Int))
 (J94_29 h_2 k8 next_9 h_31)
 (J94_28 R h i next_ h_2 (ok16) h_31)) (J94_28 R h i next_ h_2 (ok16) h_31)
def J94_3  (R : Value → Heap → Prop) (h : Heap) (i : Int) (next_ : (Int → Heap → Prop)) (h_2 : Heap) (many : Int) (h_5 : Heap) : Prop :=
 ∃ (t4 : Int), cellH h_5 (Addr.add (Addr.mk (h_2).size 0 none) 1) = some (.int .i64 t4) ∧ PIf ((0 : Int) ≤ t4)
 (∃ (t5 : Int), cellH h_5 (Addr.add (Addr.mk (h_2).size 0 none) 1) = some (.int .i64 t5) ∧ PIf ((t5 : Int) < many)
 (∃ (t6 : ByteArray), cellH h_5 (Addr.add (Addr.mk (h_2).size 0 none) 2) = some (.string t6) ∧ PIf ((1 : Int) ≤ ((t6.size : Nat) : Int))
 (∃ (t7 : ByteArray), cellH h_5 (Addr.add (Addr.mk (h_2).size 0 none) 2) = some (.string t7) ∧ PIf ((((t7.size : Nat) : Int) : Int) ≤ 64)
 (LoopT (σ := Bool × Int) (fun st_ h_st nx_st => B94_9 R h i next_ h_2 (st_.1) (st_.2) h_st nx_st) (true, 0) h_5)
 (LoopT (σ := Bool × Int) (fun st_ h_st nx_st => B94_15 R h i next_ h_2 (st_.1) (st_.2) h_st nx_st) (false, 0) h_5))
 (LoopT (σ := Bool × Int) (fun st_ h_st nx_st => B94_21 R h i next_ h_2 (st_.1) (st_.2) h_st nx_st) (false, 0) h_5))
 (LoopT (σ := Bool × Int) (fun st_ h_st nx_st => B94_27 R h i next_ h_2 (st_.1) (st_.2) h_st nx_st) (false, 0) h_5))
 (LoopT (σ := Bool × Int) (fun st_ h_st nx_st => B94_33 R h i next_ h_2 (st_.1) (st_.2) h_st nx_st) (false, 0) h_5)
def J94_1  (R : Value → Heap → Prop) (h : Heap) (i : Int) (next_ : (Int → Heap → Prop)) (h_2 : Heap) : Prop :=
 ∃ (A1 : OA) (N1 C1 : Nat), cellH h_2 (Addr.add (Addr.mk (h).size 0 none) 9) = some (.slice A1 N1 C1) ∧ 0 ≤ (i : Int) ∧ (i : Int) < (N1 : Nat) ∧ AtP A1 fun ad => ∃ (t t1 : Int) (t2 : ByteArray), cellsH h_2 (Addr.add ad (Int.toNat i * 3)) 0 [(.int .u8 t), (.int .i64 t1), (.string t2)] ∧ let h_3 : Heap := (h_2).push (.cells #[(.int .u8 0), (.int .i64 0), (.string (ByteArray.mk #[]))] 103); StoreH h_3 (Addr.mk (h_2).size 0 none) [(.int .u8 t), (.int .i64 t1), (.string t2)] fun h_4 => ∃ (t3 : Int), cellH h_4 (Addr.add (Addr.mk (h_2).size 0 none) 0) = some (.int .u8 t3) ∧ PIf ((t3 : Int) = 105)
 (∃ (A2 : OA) (N2 C2 : Nat), cellH h_4 (Addr.add (Addr.mk (h).size 0 none) 1) = some (.slice A2 N2 C2) ∧ J94_3 R h i next_ h_2 (((N2 : Nat) : Int)) h_4)
 (PIf ((t3 : Int) = 108)
 (∃ (A13 : OA) (N13 C13 : Nat), cellH h_4 (Addr.add (Addr.mk (h).size 0 none) 2) = some (.slice A13 N13 C13) ∧ J94_3 R h i next_ h_2 (((N13 : Nat) : Int)) h_4)
 (PIf ((t3 : Int) = 111)
 (∃ (A14 : OA) (N14 C14 : Nat), cellH h_4 (Addr.add (Addr.mk (h).size 0 none) 3) = some (.slice A14 N14 C14) ∧ J94_3 R h i next_ h_2 (((N14 : Nat) : Int)) h_4)
 (PIf ((t3 : Int) = 98)
 (∃ (A15 : OA) (N15 C15 : Nat), cellH h_4 (Addr.add (Addr.mk (h).size 0 none) 4) = some (.slice A15 N15 C15) ∧ J94_3 R h i next_ h_2 (((N15 : Nat) : Int)) h_4)
 (PIf ((t3 : Int) = 99)
 (∃ (A16 : OA) (N16 C16 : Nat), cellH h_4 (Addr.add (Addr.mk (h).size 0 none) 5) = some (.slice A16 N16 C16) ∧ J94_3 R h i next_ h_2 (((N16 : Nat) : Int)) h_4)
 (PIf ((t3 : Int) = 106)
 (∃ (A17 : OA) (N17 C17 : Nat), cellH h_4 (Addr.add (Addr.mk (h).size 0 none) 6) = some (.slice A17 N17 C17) ∧ J94_3 R h i next_ h_2 (((N17 : Nat) : Int)) h_4)
 (PIf ((t3 : Int) = 102)
 (∃ (A18 : OA) (N18 C18 : Nat), cellH h_4 (Addr.add (Addr.mk (h).size 0 none) 7) = some (.slice A18 N18 C18) ∧ J94_3 R h i next_ h_2 (((N18 : Nat) : Int)) h_4)
 (J94_3 R h i next_ h_2 ((-1)) h_4)))))))
def J94_0  (R : Value → Heap → Prop) (h_37 : Heap) : Prop :=
 R (.tuple #[(.int .i64 0), (.int .i64 0)]) h_37
def B94_34 (R : Value → Heap → Prop) (h : Heap) (i : Int) (h_1 : Heap) (next_ : Int → Heap → Prop) : Prop :=
 ∃ (A : OA) (N C : Nat), cellH h_1 (Addr.add (Addr.mk (h).size 0 none) 9) = some (.slice A N C) ∧ PIf ((i : Int) < ((N : Nat) : Int))
 (J94_1 R h i next_ h_1)
 (J94_0 R h_1)
def VC94 (P : Program) (c : Int) (cA : OA) (cN cC : Nat) (cA1 : OA) (cN1 cC1 : Nat) (cA2 : OA) (cN2 cC2 : Nat) (cA3 : OA) (cN3 cC3 : Nat) (cA4 : OA) (cN4 cC4 : Nat) (cA5 : OA) (cN5 cC5 : Nat) (cA6 : OA) (cN6 cC6 : Nat) (cA7 : OA) (cN7 cC7 : Nat) (cA8 : OA) (cN8 cC8 : Nat) (cA9 : OA) (cN9 cC9 : Nat) (R : Value → Heap → Prop) (h : Heap) : Prop :=
 let h_ : Heap := (h).push (.cells (Value.cells (.agg #[(.int .i64 c), (.slice cA cN cC), (.slice cA1 cN1 cC1), (.slice cA2 cN2 cC2), (.slice cA3 cN3 cC3), (.slice cA4 cN4 cC4), (.slice cA5 cN5 cC5), (.slice cA6 cN6 cC6), (.slice cA7 cN7 cC7), (.slice cA8 cN8 cC8), (.slice cA9 cN9 cC9)])) 29); LoopT (σ := Int) (fun st_ h_st nx_st => B94_34 R h (st_) h_st nx_st) (0) h_
theorem vc94 (P : Program) (c : Int) (cA : OA) (cN cC : Nat) (cA1 : OA) (cN1 cC1 : Nat) (cA2 : OA) (cN2 cC2 : Nat) (cA3 : OA) (cN3 cC3 : Nat) (cA4 : OA) (cN4 cC4 : Nat) (cA5 : OA) (cN5 cC5 : Nat) (cA6 : OA) (cN6 cC6 : Nat) (cA7 : OA) (cN7 cC7 : Nat) (cA8 : OA) (cN8 cC8 : Nat) (cA9 : OA) (cN9 cC9 : Nat) (R : Value → Heap → Prop) (h : Heap) : fnC P ret94 code94 [(.agg #[(.int .i64 c), (.slice cA cN cC), (.slice cA1 cN1 cC1), (.slice cA2 cN2 cC2), (.slice cA3 cN3 cC3), (.slice cA4 cN4 cC4), (.slice cA5 cN5 cC5), (.slice cA6 cN6 cC6), (.slice cA7 cN7 cC7), (.slice cA8 cN8 cC8), (.slice cA9 cN9 cC9)])] h R = VC94 P c cA cN cC cA1 cN1 cC1 cA2 cN2 cC2 cA3 cN3 cC3 cA4 cN4 cC4 cA5 cN5 cC5 cA6 cN6 cC6 cA7 cN7 cC7 cA8 cN8 cC8 cA9 cN9 cC9 R h := by kernel_rfl
theorem run94 (c : Int) (cA : OA) (cN cC : Nat) (cA1 : OA) (cN1 cC1 : Nat) (cA2 : OA) (cN2 cC2 : Nat) (cA3 : OA) (cN3 cC3 : Nat) (cA4 : OA) (cN4 cC4 : Nat) (cA5 : OA) (cN5 cC5 : Nat) (cA6 : OA) (cN6 cC6 : Nat) (cA7 : OA) (cN7 cC7 : Nat) (cA8 : OA) (cN8 cC8 : Nat) (cA9 : OA) (cN9 cC9 : Nat) (R : Value → Heap → Prop) (h : Heap) (hv : VC94 Try.prog c cA cN cC cA1 cN1 cC1 cA2 cN2 cC2 cA3 cN3 cC3 cA4 cN4 cC4 cA5 cN5 cC5 cA6 cN6 cC6 cA7 cN7 cC7 cA8 cN8 cC8 cA9 cN9 cC9 R h) : CallsH Try.prog 94 #[(.agg #[(.int .i64 c), (.slice cA cN cC), (.slice cA1 cN1 cC1), (.slice cA2 cN2 cC2), (.slice cA3 cN3 cC3), (.slice cA4 cN4 cC4), (.slice cA5 cN5 cC5), (.slice cA6 cN6 cC6), (.slice cA7 cN7 cC7), (.slice cA8 cN8 cC8), (.slice cA9 cN9 cC9)])] h R := calls_of_fnC (Checked.mixed Try.checked) Try.func94 comp94 (Nat.le_of_ble_eq_true rfl) (by rw [vc94]; exact hv)

/-! 124: trestle/trestleref03.one -/
def loops124 : List (List (Nat × Shp)) := []
noncomputable def code124 : SCode := ((compF Try.prog Try.f124 loops124).elim .skip fun x => x.2.2)
def ret124 : List RV := [.tmp 6]
theorem comp124 : compF Try.prog Try.f124 loops124 = some (30, ret124, code124) := by kernel_rfl
def J124_0  (R : Value → Heap → Prop) (definedA : OA) (definedN : Nat) (l : Int) (h_1 : Heap) : Prop :=
 0 ≤ ((IntKind.wrap .i64 (Int.tdiv l 2)) : Int) ∧ ((IntKind.wrap .i64 (Int.tdiv l 2)) : Int) < (definedN : Nat) ∧ AtP definedA fun ad => ∃ (t1 : Bool), cellH h_1 (Addr.add ad (Int.toNat (IntKind.wrap .i64 (Int.tdiv l 2)) * 1)) = some (.bool t1) ∧ BIf t1 (R (.int .i64 31) h_1) (0 ≤ ((IntKind.wrap .i64 (Int.tdiv l 2)) : Int) ∧ ((IntKind.wrap .i64 (Int.tdiv l 2)) : Int) < (definedN : Nat) ∧ AtP definedA fun ad1 => StoreH h_1 (Addr.add ad1 (Int.toNat (IntKind.wrap .i64 (Int.tdiv l 2)) * 1)) [(.bool true)] fun h_2 => R (.int .i64 0) h_2)
def VC124 (P : Program) (c : Int) (cA : OA) (cN cC : Nat) (cA1 : OA) (cN1 cC1 : Nat) (cA2 : OA) (cN2 cC2 : Nat) (cA3 : OA) (cN3 cC3 : Nat) (cA4 : OA) (cN4 cC4 : Nat) (cA5 : OA) (cN5 cC5 : Nat) (cA6 : OA) (cN6 cC6 : Nat) (cA7 : OA) (cN7 cC7 : Nat) (cA8 : OA) (cN8 cC8 : Nat) (cA9 : OA) (cN9 cC9 : Nat) (definedA : OA) (definedN definedC : Nat) (l : Int) (R : Value → Heap → Prop) (h : Heap) : Prop :=
 let h_ : Heap := (h).push (.cells (Value.cells (.agg #[(.int .i64 c), (.slice cA cN cC), (.slice cA1 cN1 cC1), (.slice cA2 cN2 cC2), (.slice cA3 cN3 cC3), (.slice cA4 cN4 cC4), (.slice cA5 cN5 cC5), (.slice cA6 cN6 cC6), (.slice cA7 cN7 cC7), (.slice cA8 cN8 cC8), (.slice cA9 cN9 cC9)])) 29); PIf ((l : Int) < 2)
 (R (.int .i64 30) h_)
 (PIf (((Int.tmod l 2) : Int) = 1)
 (R (.int .i64 30) h_)
 (∃ (t : Int), cellH h_ (Addr.add (Addr.mk (h).size 0 none) 0) = some (.int .i64 t) ∧ PIf (((IntKind.wrap .i64 (2 * t)) : Int) < l)
 (R (.int .i64 30) h_)
 (J124_0 R definedA definedN l h_)))
theorem vc124 (P : Program) (c : Int) (cA : OA) (cN cC : Nat) (cA1 : OA) (cN1 cC1 : Nat) (cA2 : OA) (cN2 cC2 : Nat) (cA3 : OA) (cN3 cC3 : Nat) (cA4 : OA) (cN4 cC4 : Nat) (cA5 : OA) (cN5 cC5 : Nat) (cA6 : OA) (cN6 cC6 : Nat) (cA7 : OA) (cN7 cC7 : Nat) (cA8 : OA) (cN8 cC8 : Nat) (cA9 : OA) (cN9 cC9 : Nat) (definedA : OA) (definedN definedC : Nat) (l : Int) (R : Value → Heap → Prop) (h : Heap) : fnC P ret124 code124 [(.agg #[(.int .i64 c), (.slice cA cN cC), (.slice cA1 cN1 cC1), (.slice cA2 cN2 cC2), (.slice cA3 cN3 cC3), (.slice cA4 cN4 cC4), (.slice cA5 cN5 cC5), (.slice cA6 cN6 cC6), (.slice cA7 cN7 cC7), (.slice cA8 cN8 cC8), (.slice cA9 cN9 cC9)]), (.slice definedA definedN definedC), (.int .i64 l)] h R = VC124 P c cA cN cC cA1 cN1 cC1 cA2 cN2 cC2 cA3 cN3 cC3 cA4 cN4 cC4 cA5 cN5 cC5 cA6 cN6 cC6 cA7 cN7 cC7 cA8 cN8 cC8 cA9 cN9 cC9 definedA definedN definedC l R h := by kernel_rfl
theorem run124 (c : Int) (cA : OA) (cN cC : Nat) (cA1 : OA) (cN1 cC1 : Nat) (cA2 : OA) (cN2 cC2 : Nat) (cA3 : OA) (cN3 cC3 : Nat) (cA4 : OA) (cN4 cC4 : Nat) (cA5 : OA) (cN5 cC5 : Nat) (cA6 : OA) (cN6 cC6 : Nat) (cA7 : OA) (cN7 cC7 : Nat) (cA8 : OA) (cN8 cC8 : Nat) (cA9 : OA) (cN9 cC9 : Nat) (definedA : OA) (definedN definedC : Nat) (l : Int) (R : Value → Heap → Prop) (h : Heap) (hv : VC124 Try.prog c cA cN cC cA1 cN1 cC1 cA2 cN2 cC2 cA3 cN3 cC3 cA4 cN4 cC4 cA5 cN5 cC5 cA6 cN6 cC6 cA7 cN7 cC7 cA8 cN8 cC8 cA9 cN9 cC9 definedA definedN definedC l R h) : CallsH Try.prog 124 #[(.agg #[(.int .i64 c), (.slice cA cN cC), (.slice cA1 cN1 cC1), (.slice cA2 cN2 cC2), (.slice cA3 cN3 cC3), (.slice cA4 cN4 cC4), (.slice cA5 cN5 cC5), (.slice cA6 cN6 cC6), (.slice cA7 cN7 cC7), (.slice cA8 cN8 cC8), (.slice cA9 cN9 cC9)]), (.slice definedA definedN definedC), (.int .i64 l)] h R := calls_of_fnC (Checked.mixed Try.checked) Try.func124 comp124 (Nat.le_of_ble_eq_true rfl) (by rw [vc124]; exact hv)

/-! 125: trestle/trestleref03.used -/
def loops125 : List (List (Nat × Shp)) := []
noncomputable def code125 : SCode := ((compF Try.prog Try.f125 loops125).elim .skip fun x => x.2.2)
def ret125 : List RV := [.tmp 6]
theorem comp125 : compF Try.prog Try.f125 loops125 = some (23, ret125, code125) := by kernel_rfl
def J125_0  (R : Value → Heap → Prop) (definedA : OA) (definedN : Nat) (l : Int) (h_1 : Heap) : Prop :=
 0 ≤ ((IntKind.wrap .i64 (Int.tdiv l 2)) : Int) ∧ ((IntKind.wrap .i64 (Int.tdiv l 2)) : Int) < (definedN : Nat) ∧ AtP definedA fun ad => ∃ (t1 : Bool), cellH h_1 (Addr.add ad (Int.toNat (IntKind.wrap .i64 (Int.tdiv l 2)) * 1)) = some (.bool t1) ∧ BIf (!t1) (R (.int .i64 32) h_1) (R (.int .i64 0) h_1)
def VC125 (P : Program) (c : Int) (cA : OA) (cN cC : Nat) (cA1 : OA) (cN1 cC1 : Nat) (cA2 : OA) (cN2 cC2 : Nat) (cA3 : OA) (cN3 cC3 : Nat) (cA4 : OA) (cN4 cC4 : Nat) (cA5 : OA) (cN5 cC5 : Nat) (cA6 : OA) (cN6 cC6 : Nat) (cA7 : OA) (cN7 cC7 : Nat) (cA8 : OA) (cN8 cC8 : Nat) (cA9 : OA) (cN9 cC9 : Nat) (definedA : OA) (definedN definedC : Nat) (l : Int) (R : Value → Heap → Prop) (h : Heap) : Prop :=
 let h_ : Heap := (h).push (.cells (Value.cells (.agg #[(.int .i64 c), (.slice cA cN cC), (.slice cA1 cN1 cC1), (.slice cA2 cN2 cC2), (.slice cA3 cN3 cC3), (.slice cA4 cN4 cC4), (.slice cA5 cN5 cC5), (.slice cA6 cN6 cC6), (.slice cA7 cN7 cC7), (.slice cA8 cN8 cC8), (.slice cA9 cN9 cC9)])) 29); PIf ((l : Int) < 0)
 (R (.int .i64 30) h_)
 (∃ (t : Int), cellH h_ (Addr.add (Addr.mk (h).size 0 none) 0) = some (.int .i64 t) ∧ PIf (((IntKind.wrap .i64 ((IntKind.wrap .i64 (2 * t)) + 1)) : Int) < l)
 (R (.int .i64 30) h_)
 (J125_0 R definedA definedN l h_))
theorem vc125 (P : Program) (c : Int) (cA : OA) (cN cC : Nat) (cA1 : OA) (cN1 cC1 : Nat) (cA2 : OA) (cN2 cC2 : Nat) (cA3 : OA) (cN3 cC3 : Nat) (cA4 : OA) (cN4 cC4 : Nat) (cA5 : OA) (cN5 cC5 : Nat) (cA6 : OA) (cN6 cC6 : Nat) (cA7 : OA) (cN7 cC7 : Nat) (cA8 : OA) (cN8 cC8 : Nat) (cA9 : OA) (cN9 cC9 : Nat) (definedA : OA) (definedN definedC : Nat) (l : Int) (R : Value → Heap → Prop) (h : Heap) : fnC P ret125 code125 [(.agg #[(.int .i64 c), (.slice cA cN cC), (.slice cA1 cN1 cC1), (.slice cA2 cN2 cC2), (.slice cA3 cN3 cC3), (.slice cA4 cN4 cC4), (.slice cA5 cN5 cC5), (.slice cA6 cN6 cC6), (.slice cA7 cN7 cC7), (.slice cA8 cN8 cC8), (.slice cA9 cN9 cC9)]), (.slice definedA definedN definedC), (.int .i64 l)] h R = VC125 P c cA cN cC cA1 cN1 cC1 cA2 cN2 cC2 cA3 cN3 cC3 cA4 cN4 cC4 cA5 cN5 cC5 cA6 cN6 cC6 cA7 cN7 cC7 cA8 cN8 cC8 cA9 cN9 cC9 definedA definedN definedC l R h := by kernel_rfl
theorem run125 (c : Int) (cA : OA) (cN cC : Nat) (cA1 : OA) (cN1 cC1 : Nat) (cA2 : OA) (cN2 cC2 : Nat) (cA3 : OA) (cN3 cC3 : Nat) (cA4 : OA) (cN4 cC4 : Nat) (cA5 : OA) (cN5 cC5 : Nat) (cA6 : OA) (cN6 cC6 : Nat) (cA7 : OA) (cN7 cC7 : Nat) (cA8 : OA) (cN8 cC8 : Nat) (cA9 : OA) (cN9 cC9 : Nat) (definedA : OA) (definedN definedC : Nat) (l : Int) (R : Value → Heap → Prop) (h : Heap) (hv : VC125 Try.prog c cA cN cC cA1 cN1 cC1 cA2 cN2 cC2 cA3 cN3 cC3 cA4 cN4 cC4 cA5 cN5 cC5 cA6 cN6 cC6 cA7 cN7 cC7 cA8 cN8 cC8 cA9 cN9 cC9 definedA definedN definedC l R h) : CallsH Try.prog 125 #[(.agg #[(.int .i64 c), (.slice cA cN cC), (.slice cA1 cN1 cC1), (.slice cA2 cN2 cC2), (.slice cA3 cN3 cC3), (.slice cA4 cN4 cC4), (.slice cA5 cN5 cC5), (.slice cA6 cN6 cC6), (.slice cA7 cN7 cC7), (.slice cA8 cN8 cC8), (.slice cA9 cN9 cC9)]), (.slice definedA definedN definedC), (.int .i64 l)] h R := calls_of_fnC (Checked.mixed Try.checked) Try.func125 comp125 (Nat.le_of_ble_eq_true rfl) (by rw [vc125]; exact hv)

/-! 126: trestle/trestleref03.usedAll -/
def loops126 : List (List (Nat × Shp)) := [[(8, .int .i64)]]
noncomputable def code126 : SCode := ((compF Try.prog Try.f126 loops126).elim .skip fun x => x.2.2)
def ret126 : List RV := [.tmp 6, .tmp 7]
theorem comp126 : compF Try.prog Try.f126 loops126 = some (27, ret126, code126) := by kernel_rfl
def J126_1  (P : Program) (R : Value → Heap → Prop) (h : Heap) (definedA : OA) (definedN definedC : Nat) (lA : OA) (lN : Nat) (i : Int) (next_ : (Int → Heap → Prop)) (h_2 : Heap) : Prop :=
 ∃ (t : Int) (A : OA) (N C : Nat) (A1 : OA) (N1 C1 : Nat) (A2 : OA) (N2 C2 : Nat) (A3 : OA) (N3 C3 : Nat) (A4 : OA) (N4 C4 : Nat) (A5 : OA) (N5 C5 : Nat) (A6 : OA) (N6 C6 : Nat) (A7 : OA) (N7 C7 : Nat) (A8 : OA) (N8 C8 : Nat) (A9 : OA) (N9 C9 : Nat), cellsH h_2 (Addr.mk (h).size 0 none) 0 [(.int .i64 t), (.slice A N C), (.slice A1 N1 C1), (.slice A2 N2 C2), (.slice A3 N3 C3), (.slice A4 N4 C4), (.slice A5 N5 C5), (.slice A6 N6 C6), (.slice A7 N7 C7), (.slice A8 N8 C8), (.slice A9 N9 C9)] ∧ 0 ≤ (i : Int) ∧ (i : Int) < (lN : Nat) ∧ AtP lA fun ad => ∃ (t1 : Int), cellH h_2 (Addr.add ad (Int.toNat i * 1)) = some (.int .i64 t1) ∧ CallsH P 125 #[(.agg #[(.int .i64 t), (.slice A N C), (.slice A1 N1 C1), (.slice A2 N2 C2), (.slice A3 N3 C3), (.slice A4 N4 C4), (.slice A5 N5 C5), (.slice A6 N6 C6), (.slice A7 N7 C7), (.slice A8 N8 C8), (.slice A9 N9 C9)]), (.slice definedA definedN definedC), (.int .i64 t1)] h_2 fun v h_3 =>
 ∃ (t2 : Int), v = (.int .i64 t2) ∧ PIf ((t2 : Int) = 0)
 (next_ ((IntKind.wrap .i64 (i + 1))) h_3)
 (R (.tuple #[(.int .i64 i), (.int .i64 t2)]) h_3)
def J126_0  (R : Value → Heap → Prop) (h_4 : Heap) : Prop :=
 R (.tuple #[(.int .i64 0), (.int .i64 0)]) h_4
def B126_2 (P : Program) (R : Value → Heap → Prop) (h : Heap) (definedA : OA) (definedN definedC : Nat) (lA : OA) (lN : Nat) (i : Int) (h_1 : Heap) (next_ : Int → Heap → Prop) : Prop :=
 PIf ((i : Int) < ((lN : Nat) : Int))
 (J126_1 P R h definedA definedN definedC lA lN i next_ h_1)
 (J126_0 R h_1)
def VC126 (P : Program) (c : Int) (cA : OA) (cN cC : Nat) (cA1 : OA) (cN1 cC1 : Nat) (cA2 : OA) (cN2 cC2 : Nat) (cA3 : OA) (cN3 cC3 : Nat) (cA4 : OA) (cN4 cC4 : Nat) (cA5 : OA) (cN5 cC5 : Nat) (cA6 : OA) (cN6 cC6 : Nat) (cA7 : OA) (cN7 cC7 : Nat) (cA8 : OA) (cN8 cC8 : Nat) (cA9 : OA) (cN9 cC9 : Nat) (definedA : OA) (definedN definedC : Nat) (lA : OA) (lN lC : Nat) (R : Value → Heap → Prop) (h : Heap) : Prop :=
 let h_ : Heap := (h).push (.cells (Value.cells (.agg #[(.int .i64 c), (.slice cA cN cC), (.slice cA1 cN1 cC1), (.slice cA2 cN2 cC2), (.slice cA3 cN3 cC3), (.slice cA4 cN4 cC4), (.slice cA5 cN5 cC5), (.slice cA6 cN6 cC6), (.slice cA7 cN7 cC7), (.slice cA8 cN8 cC8), (.slice cA9 cN9 cC9)])) 29); LoopT (σ := Int) (fun st_ h_st nx_st => B126_2 P R h definedA definedN definedC lA lN (st_) h_st nx_st) (0) h_
theorem vc126 (P : Program) (c : Int) (cA : OA) (cN cC : Nat) (cA1 : OA) (cN1 cC1 : Nat) (cA2 : OA) (cN2 cC2 : Nat) (cA3 : OA) (cN3 cC3 : Nat) (cA4 : OA) (cN4 cC4 : Nat) (cA5 : OA) (cN5 cC5 : Nat) (cA6 : OA) (cN6 cC6 : Nat) (cA7 : OA) (cN7 cC7 : Nat) (cA8 : OA) (cN8 cC8 : Nat) (cA9 : OA) (cN9 cC9 : Nat) (definedA : OA) (definedN definedC : Nat) (lA : OA) (lN lC : Nat) (R : Value → Heap → Prop) (h : Heap) : fnC P ret126 code126 [(.agg #[(.int .i64 c), (.slice cA cN cC), (.slice cA1 cN1 cC1), (.slice cA2 cN2 cC2), (.slice cA3 cN3 cC3), (.slice cA4 cN4 cC4), (.slice cA5 cN5 cC5), (.slice cA6 cN6 cC6), (.slice cA7 cN7 cC7), (.slice cA8 cN8 cC8), (.slice cA9 cN9 cC9)]), (.slice definedA definedN definedC), (.slice lA lN lC)] h R = VC126 P c cA cN cC cA1 cN1 cC1 cA2 cN2 cC2 cA3 cN3 cC3 cA4 cN4 cC4 cA5 cN5 cC5 cA6 cN6 cC6 cA7 cN7 cC7 cA8 cN8 cC8 cA9 cN9 cC9 definedA definedN definedC lA lN lC R h := by kernel_rfl
theorem run126 (c : Int) (cA : OA) (cN cC : Nat) (cA1 : OA) (cN1 cC1 : Nat) (cA2 : OA) (cN2 cC2 : Nat) (cA3 : OA) (cN3 cC3 : Nat) (cA4 : OA) (cN4 cC4 : Nat) (cA5 : OA) (cN5 cC5 : Nat) (cA6 : OA) (cN6 cC6 : Nat) (cA7 : OA) (cN7 cC7 : Nat) (cA8 : OA) (cN8 cC8 : Nat) (cA9 : OA) (cN9 cC9 : Nat) (definedA : OA) (definedN definedC : Nat) (lA : OA) (lN lC : Nat) (R : Value → Heap → Prop) (h : Heap) (hv : VC126 Try.prog c cA cN cC cA1 cN1 cC1 cA2 cN2 cC2 cA3 cN3 cC3 cA4 cN4 cC4 cA5 cN5 cC5 cA6 cN6 cC6 cA7 cN7 cC7 cA8 cN8 cC8 cA9 cN9 cC9 definedA definedN definedC lA lN lC R h) : CallsH Try.prog 126 #[(.agg #[(.int .i64 c), (.slice cA cN cC), (.slice cA1 cN1 cC1), (.slice cA2 cN2 cC2), (.slice cA3 cN3 cC3), (.slice cA4 cN4 cC4), (.slice cA5 cN5 cC5), (.slice cA6 cN6 cC6), (.slice cA7 cN7 cC7), (.slice cA8 cN8 cC8), (.slice cA9 cN9 cC9)]), (.slice definedA definedN definedC), (.slice lA lN lC)] h R := calls_of_fnC (Checked.mixed Try.checked) Try.func126 comp126 (Nat.le_of_ble_eq_true rfl) (by rw [vc126]; exact hv)

/-! 127: trestle/trestleref03.Order -/
def loops127 : List (List (Nat × Shp)) := []
noncomputable def code127 : SCode := ((compF Try.prog Try.f127 loops127).elim .skip fun x => x.2.2)
def ret127 : List RV := [.tmp 2, .tmp 3]
theorem comp127 : compF Try.prog Try.f127 loops127 = some (16, ret127, code127) := by kernel_rfl
def VC127 (P : Program) (c : Int) (cA : OA) (cN cC : Nat) (cA1 : OA) (cN1 cC1 : Nat) (cA2 : OA) (cN2 cC2 : Nat) (cA3 : OA) (cN3 cC3 : Nat) (cA4 : OA) (cN4 cC4 : Nat) (cA5 : OA) (cN5 cC5 : Nat) (cA6 : OA) (cN6 cC6 : Nat) (cA7 : OA) (cN7 cC7 : Nat) (cA8 : OA) (cN8 cC8 : Nat) (cA9 : OA) (cN9 cC9 : Nat) (R : Value → Heap → Prop) (h : Heap) : Prop :=
 let h_ : Heap := (h).push (.cells (Value.cells (.agg #[(.int .i64 c), (.slice cA cN cC), (.slice cA1 cN1 cC1), (.slice cA2 cN2 cC2), (.slice cA3 cN3 cC3), (.slice cA4 cN4 cC4), (.slice cA5 cN5 cC5), (.slice cA6 cN6 cC6), (.slice cA7 cN7 cC7), (.slice cA8 cN8 cC8), (.slice cA9 cN9 cC9)])) 29); ∃ (t : Int) (A : OA) (N C : Nat) (A1 : OA) (N1 C1 : Nat) (A2 : OA) (N2 C2 : Nat) (A3 : OA) (N3 C3 : Nat) (A4 : OA) (N4 C4 : Nat) (A5 : OA) (N5 C5 : Nat) (A6 : OA) (N6 C6 : Nat) (A7 : OA) (N7 C7 : Nat) (A8 : OA) (N8 C8 : Nat) (A9 : OA) (N9 C9 : Nat), cellsH h_ (Addr.mk (h).size 0 none) 0 [(.int .i64 t), (.slice A N C), (.slice A1 N1 C1), (.slice A2 N2 C2), (.slice A3 N3 C3), (.slice A4 N4 C4), (.slice A5 N5 C5), (.slice A6 N6 C6), (.slice A7 N7 C7), (.slice A8 N8 C8), (.slice A9 N9 C9)] ∧ CallsH P 51 #[(.agg #[(.int .i64 t), (.slice A N C), (.slice A1 N1 C1), (.slice A2 N2 C2), (.slice A3 N3 C3), (.slice A4 N4 C4), (.slice A5 N5 C5), (.slice A6 N6 C6), (.slice A7 N7 C7), (.slice A8 N8 C8), (.slice A9 N9 C9)])] h_ fun v h_1 =>
 ∃ (t1 t2 : Int), v = (.tuple #[(.int .i64 t1), (.int .i64 t2)]) ∧ PIf ((t2 : Int) = 0)
 (∃ (t3 : Int) (A10 : OA) (N10 C10 : Nat) (A11 : OA) (N11 C11 : Nat) (A12 : OA) (N12 C12 : Nat) (A13 : OA) (N13 C13 : Nat) (A14 : OA) (N14 C14 : Nat) (A15 : OA) (N15 C15 : Nat) (A16 : OA) (N16 C16 : Nat) (A17 : OA) (N17 C17 : Nat) (A18 : OA) (N18 C18 : Nat) (A19 : OA) (N19 C19 : Nat), cellsH h_1 (Addr.mk (h).size 0 none) 0 [(.int .i64 t3), (.slice A10 N10 C10), (.slice A11 N11 C11), (.slice A12 N12 C12), (.slice A13 N13 C13), (.slice A14 N14 C14), (.slice A15 N15 C15), (.slice A16 N16 C16), (.slice A17 N17 C17), (.slice A18 N18 C18), (.slice A19 N19 C19)] ∧ CallsH P 91 #[(.agg #[(.int .i64 t3), (.slice A10 N10 C10), (.slice A11 N11 C11), (.slice A12 N12 C12), (.slice A13 N13 C13), (.slice A14 N14 C14), (.slice A15 N15 C15), (.slice A16 N16 C16), (.slice A17 N17 C17), (.slice A18 N18 C18), (.slice A19 N19 C19)])] h_1 fun v1 h_2 =>
 ∃ (A20 : OA) (N20 C20 : Nat), v1 = (.slice A20 N20 C20) ∧ R (.tuple #[(.slice A20 N20 C20), (.int .i64 0)]) h_2)
 (R (.tuple #[(.slice none 0 0), (.int .i64 t2)]) h_1)
theorem vc127 (P : Program) (c : Int) (cA : OA) (cN cC : Nat) (cA1 : OA) (cN1 cC1 : Nat) (cA2 : OA) (cN2 cC2 : Nat) (cA3 : OA) (cN3 cC3 : Nat) (cA4 : OA) (cN4 cC4 : Nat) (cA5 : OA) (cN5 cC5 : Nat) (cA6 : OA) (cN6 cC6 : Nat) (cA7 : OA) (cN7 cC7 : Nat) (cA8 : OA) (cN8 cC8 : Nat) (cA9 : OA) (cN9 cC9 : Nat) (R : Value → Heap → Prop) (h : Heap) : fnC P ret127 code127 [(.agg #[(.int .i64 c), (.slice cA cN cC), (.slice cA1 cN1 cC1), (.slice cA2 cN2 cC2), (.slice cA3 cN3 cC3), (.slice cA4 cN4 cC4), (.slice cA5 cN5 cC5), (.slice cA6 cN6 cC6), (.slice cA7 cN7 cC7), (.slice cA8 cN8 cC8), (.slice cA9 cN9 cC9)])] h R = VC127 P c cA cN cC cA1 cN1 cC1 cA2 cN2 cC2 cA3 cN3 cC3 cA4 cN4 cC4 cA5 cN5 cC5 cA6 cN6 cC6 cA7 cN7 cC7 cA8 cN8 cC8 cA9 cN9 cC9 R h := by kernel_rfl
theorem run127 (c : Int) (cA : OA) (cN cC : Nat) (cA1 : OA) (cN1 cC1 : Nat) (cA2 : OA) (cN2 cC2 : Nat) (cA3 : OA) (cN3 cC3 : Nat) (cA4 : OA) (cN4 cC4 : Nat) (cA5 : OA) (cN5 cC5 : Nat) (cA6 : OA) (cN6 cC6 : Nat) (cA7 : OA) (cN7 cC7 : Nat) (cA8 : OA) (cN8 cC8 : Nat) (cA9 : OA) (cN9 cC9 : Nat) (R : Value → Heap → Prop) (h : Heap) (hv : VC127 Try.prog c cA cN cC cA1 cN1 cC1 cA2 cN2 cC2 cA3 cN3 cC3 cA4 cN4 cC4 cA5 cN5 cC5 cA6 cN6 cC6 cA7 cN7 cC7 cA8 cN8 cC8 cA9 cN9 cC9 R h) : CallsH Try.prog 127 #[(.agg #[(.int .i64 c), (.slice cA cN cC), (.slice cA1 cN1 cC1), (.slice cA2 cN2 cC2), (.slice cA3 cN3 cC3), (.slice cA4 cN4 cC4), (.slice cA5 cN5 cC5), (.slice cA6 cN6 cC6), (.slice cA7 cN7 cC7), (.slice cA8 cN8 cC8), (.slice cA9 cN9 cC9)])] h R := calls_of_fnC (Checked.mixed Try.checked) Try.func127 comp127 (Nat.le_of_ble_eq_true rfl) (by rw [vc127]; exact hv)
end Go.Proofs.Ytpmpacdjcfijbaa
