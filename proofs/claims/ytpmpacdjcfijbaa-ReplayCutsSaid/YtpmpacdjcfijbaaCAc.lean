/- Words and facts that the claim's proof leans on. No condition. -/
import Derived.Test.YtpmpacdjcfijbaaHxK
import Derived.Test.YtpmpacdjcfijbaaChecked
set_option maxRecDepth 100000
set_option linter.unusedVariables false
namespace Go.Proofs.Ytpmpacdjcfijbaa
open Go.Hx
def J89_4  (R : Value → Heap → Prop) (i1 : Int) (next_1 : (Int → Heap → Prop)) (h_7 h_11 : Heap) : Prop :=
 ∃ (t10 : Int), cellH h_11 (Addr.add ⟨h_7.size, 0, none⟩ 2) = some (.int .i64 t10) ∧ PIf (t10 = 0)
 (next_1 (IntKind.wrap .i64 (i1 + 1)) h_11)
 (∃ (t11 : Int), cellH h_11 (Addr.add ⟨h_7.size, 0, none⟩ 2) = some (.int .i64 t11) ∧ PIf (t11 = 1)
 (next_1 (IntKind.wrap .i64 (i1 + 1)) h_11)
 (∃ (t12 : Int), cellH h_11 (Addr.add ⟨h_7.size, 0, none⟩ 2) = some (.int .i64 t12) ∧ ∃ (t13 : Int), cellH h_11 (Addr.add ⟨h_7.size, 0, none⟩ 0) = some (.int .i64 t13) ∧ PIf (t12 = t13)
 (next_1 (IntKind.wrap .i64 (i1 + 1)) h_11)
 (R (.tuple #[.slice none 0 0, .int .i64 i1, .int .i64 33]) h_11)))
def J89_3  (P : Program) (R : Value → Heap → Prop) (h h_ : Heap) (t i1 : Int) (next_1 : (Int → Heap → Prop)) (h_7 : Heap) : Prop :=
 ∃ (A13 : Option Addr) (N13 C13 : Nat), cellH h_7 (Addr.add ⟨h.size, 0, none⟩ 2) = some (.slice A13 N13 C13) ∧ 0 ≤ i1 ∧ i1 < (N13 : Nat) ∧ AtP A13 fun ad1 => ∃ (t4 t5 t6 : Int), cellsH h_7 (Addr.add ad1 (Int.toNat i1 * 3)) 0 [.int .i64 t4, .int .i64 t5, .int .i64 t6] ∧ let h_8 : Heap := (h_7).push (.cells #[.int .i64 0, .int .i64 0, .int .i64 0] 80); StoreH h_8 ⟨h_7.size, 0, none⟩ [.int .i64 t4, .int .i64 t5, .int .i64 t6] fun h_9 => ∃ (t7 : Int) (A14 : Option Addr) (N14 C14 : Nat) (A15 : Option Addr) (N15 C15 : Nat) (A16 : Option Addr) (N16 C16 : Nat) (A17 : Option Addr) (N17 C17 : Nat) (A18 : Option Addr) (N18 C18 : Nat) (A19 : Option Addr) (N19 C19 : Nat) (A20 : Option Addr) (N20 C20 : Nat) (A21 : Option Addr) (N21 C21 : Nat) (A22 : Option Addr) (N22 C22 : Nat) (A23 : Option Addr) (N23 C23 : Nat), cellsH h_9 ⟨h.size, 0, none⟩ 0 [.int .i64 t7, .slice A14 N14 C14, .slice A15 N15 C15, .slice A16 N16 C16, .slice A17 N17 C17, .slice A18 N18 C18, .slice A19 N19 C19, .slice A20 N20 C20, .slice A21 N21 C21, .slice A22 N22 C22, .slice A23 N23 C23] ∧ ∃ (t8 : Int), cellH h_9 (Addr.add ⟨h_7.size, 0, none⟩ 0) = some (.int .i64 t8) ∧ CallsH P 124 #[(.agg #[.int .i64 t7, .slice A14 N14 C14, .slice A15 N15 C15, .slice A16 N16 C16, .slice A17 N17 C17, .slice A18 N18 C18, .slice A19 N19 C19, .slice A20 N20 C20, .slice A21 N21 C21, .slice A22 N22 C22, .slice A23 N23 C23]), (.slice (some ⟨h_.size, 0, none⟩) (Int.toNat (IntKind.wrap .i64 (t + 1))) (Int.toNat (IntKind.wrap .i64 (t + 1)))), .int .i64 t8] h_9 fun v1 h_10 =>
 ∃ (t9 : Int), v1 = (.int .i64 t9) ∧ PIf (t9 = 0)
 (J89_4 R i1 next_1 h_7 h_10)
 (R (.tuple #[.slice none 0 0, .int .i64 i1, .int .i64 t9]) h_10)
def J89_6  (P : Program) (R : Value → Heap → Prop) (h h_ : Heap) (t i2 : Int) (next_2 : (Int → Heap → Prop)) (h_14 : Heap) : Prop :=
 ∃ (t14 : Int) (A25 : Option Addr) (N25 C25 : Nat) (A26 : Option Addr) (N26 C26 : Nat) (A27 : Option Addr) (N27 C27 : Nat) (A28 : Option Addr) (N28 C28 : Nat) (A29 : Option Addr) (N29 C29 : Nat) (A30 : Option Addr) (N30 C30 : Nat) (A31 : Option Addr) (N31 C31 : Nat) (A32 : Option Addr) (N32 C32 : Nat) (A33 : Option Addr) (N33 C33 : Nat) (A34 : Option Addr) (N34 C34 : Nat), cellsH h_14 ⟨h.size, 0, none⟩ 0 [.int .i64 t14, .slice A25 N25 C25, .slice A26 N26 C26, .slice A27 N27 C27, .slice A28 N28 C28, .slice A29 N29 C29, .slice A30 N30 C30, .slice A31 N31 C31, .slice A32 N32 C32, .slice A33 N33 C33, .slice A34 N34 C34] ∧ ∃ (A35 : Option Addr) (N35 C35 : Nat), cellH h_14 (Addr.add ⟨h.size, 0, none⟩ 8) = some (.slice A35 N35 C35) ∧ 0 ≤ i2 ∧ i2 < (N35 : Nat) ∧ AtP A35 fun ad2 => ∃ (t15 : Int), cellH h_14 (Addr.add (Addr.add ad2 (Int.toNat i2 * 3)) 0) = some (.int .i64 t15) ∧ CallsH P 124 #[(.agg #[.int .i64 t14, .slice A25 N25 C25, .slice A26 N26 C26, .slice A27 N27 C27, .slice A28 N28 C28, .slice A29 N29 C29, .slice A30 N30 C30, .slice A31 N31 C31, .slice A32 N32 C32, .slice A33 N33 C33, .slice A34 N34 C34]), (.slice (some ⟨h_.size, 0, none⟩) (Int.toNat (IntKind.wrap .i64 (t + 1))) (Int.toNat (IntKind.wrap .i64 (t + 1)))), .int .i64 t15] h_14 fun v2 h_15 =>
 ∃ (t16 : Int), v2 = (.int .i64 t16) ∧ PIf (t16 = 0)
 (next_2 (IntKind.wrap .i64 (i2 + 1)) h_15)
 (R (.tuple #[.slice none 0 0, .int .i64 i2, .int .i64 t16]) h_15)
def J89_5  (R : Value → Heap → Prop) (h_ : Heap) (t : Int) (h_16 : Heap) : Prop :=
 0 ≤ (0 : Int) ∧ (0 : Int) < ((Int.toNat (IntKind.wrap .i64 (t + 1))) : Nat) ∧ StoreH h_16 (Addr.add ⟨h_.size, 0, none⟩ (Int.toNat 0 * 1)) [.bool true] fun h_17 => R (.tuple #[(.slice (some ⟨h_.size, 0, none⟩) (Int.toNat (IntKind.wrap .i64 (t + 1))) (Int.toNat (IntKind.wrap .i64 (t + 1)))), .int .i64 0, .int .i64 0]) h_17
def B89_7 (P : Program) (R : Value → Heap → Prop) (h h_ : Heap) (t i2 : Int) (h_13 : Heap) (next_2 : Int → Heap → Prop) : Prop :=
 ∃ (A24 : Option Addr) (N24 C24 : Nat), cellH h_13 (Addr.add ⟨h.size, 0, none⟩ 8) = some (.slice A24 N24 C24) ∧ PIf (i2 < ((N24 : Nat) : Int))
 (J89_6 P R h h_ t i2 next_2 h_13)
 (J89_5 R h_ t h_13)
def J89_2  (P : Program) (R : Value → Heap → Prop) (h h_ : Heap) (t : Int) (h_12 : Heap) : Prop :=
 LoopT (σ := Int) (fun st_ h_st nx_st => B89_7 P R h h_ t (st_) h_st nx_st) (0) h_12
def B89_8 (P : Program) (R : Value → Heap → Prop) (h h_ : Heap) (t i1 : Int) (h_6 : Heap) (next_1 : Int → Heap → Prop) : Prop :=
 ∃ (A12 : Option Addr) (N12 C12 : Nat), cellH h_6 (Addr.add ⟨h.size, 0, none⟩ 2) = some (.slice A12 N12 C12) ∧ PIf (i1 < ((N12 : Nat) : Int))
 (J89_3 P R h h_ t i1 next_1 h_6)
 (J89_2 P R h h_ t h_6)
def J89_0  (P : Program) (R : Value → Heap → Prop) (h h_ : Heap) (t : Int) (h_5 : Heap) : Prop :=
 LoopT (σ := Int) (fun st_ h_st nx_st => B89_8 P R h h_ t (st_) h_st nx_st) (0) h_5
/-! 124: trestle/trestleref03.one -/
def loops124 : List (List (Nat × Shp)) := []
noncomputable def code124 : SCode := ((compF Try.prog Try.f124 loops124).elim .skip fun x => x.2.2)
def ret124 : List RV := [.tmp 6]
theorem comp124 : compF Try.prog Try.f124 loops124 = some (30, ret124, code124) := by kernel_rfl
def J124_0  (R : Value → Heap → Prop) (definedA : (Option Addr)) (definedN : Nat) (l : Int) (h_1 : Heap) : Prop :=
 0 ≤ ((IntKind.wrap .i64 (Int.tdiv l 2)) : Int) ∧ ((IntKind.wrap .i64 (Int.tdiv l 2)) : Int) < (definedN : Nat) ∧ AtP definedA fun ad => ∃ (t1 : Bool), cellH h_1 (Addr.add ad (Int.toNat (IntKind.wrap .i64 (Int.tdiv l 2)) * 1)) = some (.bool t1) ∧ BIf t1 (R (.int .i64 31) h_1) (0 ≤ ((IntKind.wrap .i64 (Int.tdiv l 2)) : Int) ∧ ((IntKind.wrap .i64 (Int.tdiv l 2)) : Int) < (definedN : Nat) ∧ AtP definedA fun ad1 => StoreH h_1 (Addr.add ad1 (Int.toNat (IntKind.wrap .i64 (Int.tdiv l 2)) * 1)) [.bool true] fun h_2 => R (.int .i64 0) h_2)
def VC124 (P : Program) (c : Int) (cA : Option Addr) (cN cC : Nat) (cA1 : Option Addr) (cN1 cC1 : Nat) (cA2 : Option Addr) (cN2 cC2 : Nat) (cA3 : Option Addr) (cN3 cC3 : Nat) (cA4 : Option Addr) (cN4 cC4 : Nat) (cA5 : Option Addr) (cN5 cC5 : Nat) (cA6 : Option Addr) (cN6 cC6 : Nat) (cA7 : Option Addr) (cN7 cC7 : Nat) (cA8 : Option Addr) (cN8 cC8 : Nat) (cA9 : Option Addr) (cN9 cC9 : Nat) (definedA : Option Addr) (definedN definedC : Nat) (l : Int) (R : Value → Heap → Prop) (h : Heap) : Prop :=
 let h_ : Heap := (h).push (.cells (Value.cells (.agg #[.int .i64 c, .slice cA cN cC, .slice cA1 cN1 cC1, .slice cA2 cN2 cC2, .slice cA3 cN3 cC3, .slice cA4 cN4 cC4, .slice cA5 cN5 cC5, .slice cA6 cN6 cC6, .slice cA7 cN7 cC7, .slice cA8 cN8 cC8, .slice cA9 cN9 cC9])) 29); PIf (l < 2)
 (R (.int .i64 30) h_)
 (PIf (((Int.tmod l 2) : Int) = 1)
 (R (.int .i64 30) h_)
 (∃ (t : Int), cellH h_ (Addr.add ⟨h.size, 0, none⟩ 0) = some (.int .i64 t) ∧ PIf (((IntKind.wrap .i64 (2 * t)) : Int) < l)
 (R (.int .i64 30) h_)
 (J124_0 R definedA definedN l h_)))
theorem vc124 (P : Program) (c : Int) (cA : Option Addr) (cN cC : Nat) (cA1 : Option Addr) (cN1 cC1 : Nat) (cA2 : Option Addr) (cN2 cC2 : Nat) (cA3 : Option Addr) (cN3 cC3 : Nat) (cA4 : Option Addr) (cN4 cC4 : Nat) (cA5 : Option Addr) (cN5 cC5 : Nat) (cA6 : Option Addr) (cN6 cC6 : Nat) (cA7 : Option Addr) (cN7 cC7 : Nat) (cA8 : Option Addr) (cN8 cC8 : Nat) (cA9 : Option Addr) (cN9 cC9 : Nat) (definedA : Option Addr) (definedN definedC : Nat) (l : Int) (R : Value → Heap → Prop) (h : Heap) : fnC P ret124 code124 [(.agg #[.int .i64 c, .slice cA cN cC, .slice cA1 cN1 cC1, .slice cA2 cN2 cC2, .slice cA3 cN3 cC3, .slice cA4 cN4 cC4, .slice cA5 cN5 cC5, .slice cA6 cN6 cC6, .slice cA7 cN7 cC7, .slice cA8 cN8 cC8, .slice cA9 cN9 cC9]), .slice definedA definedN definedC, .int .i64 l] h R = VC124 P c cA cN cC cA1 cN1 cC1 cA2 cN2 cC2 cA3 cN3 cC3 cA4 cN4 cC4 cA5 cN5 cC5 cA6 cN6 cC6 cA7 cN7 cC7 cA8 cN8 cC8 cA9 cN9 cC9 definedA definedN definedC l R h := by kernel_rfl
theorem run124 (c : Int) (cA : Option Addr) (cN cC : Nat) (cA1 : Option Addr) (cN1 cC1 : Nat) (cA2 : Option Addr) (cN2 cC2 : Nat) (cA3 : Option Addr) (cN3 cC3 : Nat) (cA4 : Option Addr) (cN4 cC4 : Nat) (cA5 : Option Addr) (cN5 cC5 : Nat) (cA6 : Option Addr) (cN6 cC6 : Nat) (cA7 : Option Addr) (cN7 cC7 : Nat) (cA8 : Option Addr) (cN8 cC8 : Nat) (cA9 : Option Addr) (cN9 cC9 : Nat) (definedA : Option Addr) (definedN definedC : Nat) (l : Int) (R : Value → Heap → Prop) (h : Heap) (hv : VC124 Try.prog c cA cN cC cA1 cN1 cC1 cA2 cN2 cC2 cA3 cN3 cC3 cA4 cN4 cC4 cA5 cN5 cC5 cA6 cN6 cC6 cA7 cN7 cC7 cA8 cN8 cC8 cA9 cN9 cC9 definedA definedN definedC l R h) : CallsH Try.prog 124 #[(.agg #[.int .i64 c, .slice cA cN cC, .slice cA1 cN1 cC1, .slice cA2 cN2 cC2, .slice cA3 cN3 cC3, .slice cA4 cN4 cC4, .slice cA5 cN5 cC5, .slice cA6 cN6 cC6, .slice cA7 cN7 cC7, .slice cA8 cN8 cC8, .slice cA9 cN9 cC9]), .slice definedA definedN definedC, .int .i64 l] h R := calls_of_fnC (Checked.mixed Try.checked) Try.func124 comp124 (Nat.le_of_ble_eq_true rfl) (by rw [vc124]; exact hv)
end Go.Proofs.Ytpmpacdjcfijbaa
