/- Words and facts that the claim's proof leans on. No condition. -/
import Derived.Test.YtpmpacdjcfijbaaHxK
import Derived.Test.YtpmpacdjcfijbaaChecked
set_option maxRecDepth 100000
set_option linter.unusedVariables false
namespace Go.Proofs.Ytpmpacdjcfijbaa
open Go.Hx

/-! 45: trestle/shape.Check -/
def code45 : SCode := (.seq (.region .txt [⟨(some 1), .box 29 (.tmp 0), none⟩,
  ⟨(some 2), .mv (.const (.int .i64 0)), none⟩,
  ⟨(some 3), .mv (.const (.int .i64 0)), none⟩]) (.seq (.region .txt [⟨(some 5), .ldn [.int .i64, .slice, .slice, .slice, .slice, .slice, .slice, .slice, .slice, .slice, .slice] (.tmp 1), none⟩,
  ⟨(some 6), .call 79 [(.tmp 5)] (.tup [.one (.ptr), .one (.int .i64), .one (.int .i64)]), none⟩,
  ⟨(some 4), .mv (.tmp 6), none⟩,
  ⟨(some 7), .extr (.tmp 4) 0, none⟩,
  ⟨(some 8), .extr (.tmp 4) 1, none⟩,
  ⟨(some 9), .extr (.tmp 4) 2, none⟩,
  ⟨(some 2), .mv (.tmp 8), none⟩,
  ⟨(some 3), .mv (.tmp 9), none⟩]) (.seq (.region .txt [⟨(some 10), .mv (.tmp 2), none⟩,
  ⟨(some 11), .mv (.tmp 3), none⟩,
  ⟨(some 2), .mv (.tmp 10), none⟩,
  ⟨(some 3), .mv (.tmp 11), none⟩]) .ret)))
def loops45 : List (List (Nat × Shp)) := []
def ret45 : List RV := [.tmp 2, .tmp 3]
theorem comp45 : compF Try.prog Try.f45 loops45 = some (12, ret45, code45) := by kernel_rfl
def VC45 (P : Program) (c : Int) (cA : Option Addr) (cN : Nat) (cC : Nat) (cA1 : Option Addr) (cN1 : Nat) (cC1 : Nat) (cA2 : Option Addr) (cN2 : Nat) (cC2 : Nat) (cA3 : Option Addr) (cN3 : Nat) (cC3 : Nat) (cA4 : Option Addr) (cN4 : Nat) (cC4 : Nat) (cA5 : Option Addr) (cN5 : Nat) (cC5 : Nat) (cA6 : Option Addr) (cN6 : Nat) (cC6 : Nat) (cA7 : Option Addr) (cN7 : Nat) (cC7 : Nat) (cA8 : Option Addr) (cN8 : Nat) (cC8 : Nat) (cA9 : Option Addr) (cN9 : Nat) (cC9 : Nat) (R : Value → Heap → Prop) (h : Heap) : Prop :=
 let h_ : Heap := (h).push (.cells (Value.cells (.agg #[(.int .i64 c), (.slice cA cN cC), (.slice cA1 cN1 cC1), (.slice cA2 cN2 cC2), (.slice cA3 cN3 cC3), (.slice cA4 cN4 cC4), (.slice cA5 cN5 cC5), (.slice cA6 cN6 cC6), (.slice cA7 cN7 cC7), (.slice cA8 cN8 cC8), (.slice cA9 cN9 cC9)])) 29); ∃ (t : Int), ∃ (A : Option Addr), ∃ (N : Nat), ∃ (C : Nat), ∃ (A1 : Option Addr), ∃ (N1 : Nat), ∃ (C1 : Nat), ∃ (A2 : Option Addr), ∃ (N2 : Nat), ∃ (C2 : Nat), ∃ (A3 : Option Addr), ∃ (N3 : Nat), ∃ (C3 : Nat), ∃ (A4 : Option Addr), ∃ (N4 : Nat), ∃ (C4 : Nat), ∃ (A5 : Option Addr), ∃ (N5 : Nat), ∃ (C5 : Nat), ∃ (A6 : Option Addr), ∃ (N6 : Nat), ∃ (C6 : Nat), ∃ (A7 : Option Addr), ∃ (N7 : Nat), ∃ (C7 : Nat), ∃ (A8 : Option Addr), ∃ (N8 : Nat), ∃ (C8 : Nat), ∃ (A9 : Option Addr), ∃ (N9 : Nat), ∃ (C9 : Nat), cellsH h_ (Addr.mk (h).size 0 none) 0 [(.int .i64 t), (.slice A N C), (.slice A1 N1 C1), (.slice A2 N2 C2), (.slice A3 N3 C3), (.slice A4 N4 C4), (.slice A5 N5 C5), (.slice A6 N6 C6), (.slice A7 N7 C7), (.slice A8 N8 C8), (.slice A9 N9 C9)] ∧ CallsH P 79 #[(.agg #[(.int .i64 t), (.slice A N C), (.slice A1 N1 C1), (.slice A2 N2 C2), (.slice A3 N3 C3), (.slice A4 N4 C4), (.slice A5 N5 C5), (.slice A6 N6 C6), (.slice A7 N7 C7), (.slice A8 N8 C8), (.slice A9 N9 C9)])] h_ fun v h_1 =>
 ∃ (t1 : Option Addr), ∃ (t2 : Int), ∃ (t3 : Int), v = (.tuple #[(.pointer t1), (.int .i64 t2), (.int .i64 t3)]) ∧ R (.tuple #[(.int .i64 t2), (.int .i64 t3)]) h_1
theorem vc45 (P : Program) (c : Int) (cA : Option Addr) (cN : Nat) (cC : Nat) (cA1 : Option Addr) (cN1 : Nat) (cC1 : Nat) (cA2 : Option Addr) (cN2 : Nat) (cC2 : Nat) (cA3 : Option Addr) (cN3 : Nat) (cC3 : Nat) (cA4 : Option Addr) (cN4 : Nat) (cC4 : Nat) (cA5 : Option Addr) (cN5 : Nat) (cC5 : Nat) (cA6 : Option Addr) (cN6 : Nat) (cC6 : Nat) (cA7 : Option Addr) (cN7 : Nat) (cC7 : Nat) (cA8 : Option Addr) (cN8 : Nat) (cC8 : Nat) (cA9 : Option Addr) (cN9 : Nat) (cC9 : Nat) (R : Value → Heap → Prop) (h : Heap) : fnC P ret45 code45 [(.agg #[(.int .i64 c), (.slice cA cN cC), (.slice cA1 cN1 cC1), (.slice cA2 cN2 cC2), (.slice cA3 cN3 cC3), (.slice cA4 cN4 cC4), (.slice cA5 cN5 cC5), (.slice cA6 cN6 cC6), (.slice cA7 cN7 cC7), (.slice cA8 cN8 cC8), (.slice cA9 cN9 cC9)])] h R = VC45 P c cA cN cC cA1 cN1 cC1 cA2 cN2 cC2 cA3 cN3 cC3 cA4 cN4 cC4 cA5 cN5 cC5 cA6 cN6 cC6 cA7 cN7 cC7 cA8 cN8 cC8 cA9 cN9 cC9 R h := by kernel_rfl
theorem run45 (c : Int) (cA : Option Addr) (cN : Nat) (cC : Nat) (cA1 : Option Addr) (cN1 : Nat) (cC1 : Nat) (cA2 : Option Addr) (cN2 : Nat) (cC2 : Nat) (cA3 : Option Addr) (cN3 : Nat) (cC3 : Nat) (cA4 : Option Addr) (cN4 : Nat) (cC4 : Nat) (cA5 : Option Addr) (cN5 : Nat) (cC5 : Nat) (cA6 : Option Addr) (cN6 : Nat) (cC6 : Nat) (cA7 : Option Addr) (cN7 : Nat) (cC7 : Nat) (cA8 : Option Addr) (cN8 : Nat) (cC8 : Nat) (cA9 : Option Addr) (cN9 : Nat) (cC9 : Nat) (R : Value → Heap → Prop) (h : Heap) (hv : VC45 Try.prog c cA cN cC cA1 cN1 cC1 cA2 cN2 cC2 cA3 cN3 cC3 cA4 cN4 cC4 cA5 cN5 cC5 cA6 cN6 cC6 cA7 cN7 cC7 cA8 cN8 cC8 cA9 cN9 cC9 R h) : CallsH Try.prog 45 #[(.agg #[(.int .i64 c), (.slice cA cN cC), (.slice cA1 cN1 cC1), (.slice cA2 cN2 cC2), (.slice cA3 cN3 cC3), (.slice cA4 cN4 cC4), (.slice cA5 cN5 cC5), (.slice cA6 cN6 cC6), (.slice cA7 cN7 cC7), (.slice cA8 cN8 cC8), (.slice cA9 cN9 cC9)])] h R := calls_of_fnC (Checked.mixed Try.checked) Try.func45 comp45 (Nat.le_of_ble_eq_true rfl) (by rw [vc45]; exact hv)

/-! 79: trestle/shape.look -/
def code79 : SCode := (.seq (.region .txt [⟨(some 1), .box 29 (.tmp 0), none⟩,
  ⟨(some 2), .mv (.const (.pointer none)), none⟩,
  ⟨(some 3), .mv (.const (.int .i64 0)), none⟩,
  ⟨(some 4), .mv (.const (.int .i64 0)), none⟩]) (.seq (.seq (.region .txt [⟨(some 15), .ldn [.int .i64, .slice, .slice, .slice, .slice, .slice, .slice, .slice, .slice, .slice, .slice] (.tmp 1), none⟩,
  ⟨(some 16), .call 107 [(.tmp 15)] (.val (.one (.int .i64))), none⟩,
  ⟨(some 5), .mv (.tmp 16), none⟩]) (.seq (.region .txt [⟨(some 17), .mv (.tmp 5), none⟩,
  ⟨(some 18), .icmp .neq .i64 (.tmp 17) (.const (.int .i64 0)), none⟩]) (.cond (.tmp 18) (.seq (.region .txt [⟨(some 19), .mv (.tmp 5), none⟩,
  ⟨(some 2), .mv (.const (.pointer none)), none⟩,
  ⟨(some 3), .mv (.const (.int .i64 0)), none⟩,
  ⟨(some 4), .mv (.tmp 19), none⟩]) .ret) .skip))) (.seq (.region .ext [⟨(some 20), .ldn [.int .i64, .slice, .slice, .slice, .slice, .slice, .slice, .slice, .slice, .slice, .slice] (.tmp 1), none⟩,
  ⟨(some 21), .fldA 0 (.tmp 1), none⟩,
  ⟨(some 22), .ld (.int .i64) (.tmp 21), none⟩,
  ⟨(some 23), .arith .add .i64 (.tmp 22) (.const (.int .i64 1)), none⟩,
  ⟨(some 24), .mkS 202 16 2 #[(.int .i64 0), (.int .i64 0)] (.tmp 23) (.tmp 23), none⟩,
  ⟨(some 25), .mkAgg #[(.int .i64 0), (.slice none 0 0), (.slice none 0 0), (.slice none 0 0), (.slice none 0 0), (.slice none 0 0), (.slice none 0 0), (.slice none 0 0), (.slice none 0 0), (.slice none 0 0), (.slice none 0 0), (.slice none 0 0)] [(0, 11, (.tmp 20)), (11, 1, (.tmp 24))], none⟩,
  ⟨(some 26), .box 152 (.tmp 25), none⟩,
  ⟨(some 6), .mv (.tmp 26), none⟩]) (.seq (.seq (.region .txt [⟨(some 28), .mv (.tmp 6), none⟩,
  ⟨(some 29), .call 108 [(.tmp 28)] (.tup [.one (.int .i64), .one (.int .i64)]), none⟩,
  ⟨(some 27), .mv (.tmp 29), none⟩,
  ⟨(some 30), .extr (.tmp 27) 0, none⟩,
  ⟨(some 31), .extr (.tmp 27) 1, none⟩,
  ⟨(some 7), .mv (.tmp 30), none⟩,
  ⟨(some 8), .mv (.tmp 31), none⟩]) (.seq (.region .txt [⟨(some 32), .mv (.tmp 8), none⟩,
  ⟨(some 33), .icmp .neq .i64 (.tmp 32) (.const (.int .i64 0)), none⟩]) (.cond (.tmp 33) (.seq (.region .txt [⟨(some 34), .mv (.tmp 7), none⟩,
  ⟨(some 35), .mv (.tmp 8), none⟩,
  ⟨(some 2), .mv (.const (.pointer none)), none⟩,
  ⟨(some 3), .mv (.tmp 34), none⟩,
  ⟨(some 4), .mv (.tmp 35), none⟩]) .ret) .skip))) (.seq (.seq (.region .txt [⟨(some 37), .mv (.tmp 6), none⟩,
  ⟨(some 38), .call 109 [(.tmp 37)] (.tup [.one (.int .i64), .one (.int .i64)]), none⟩,
  ⟨(some 36), .mv (.tmp 38), none⟩,
  ⟨(some 39), .extr (.tmp 36) 0, none⟩,
  ⟨(some 40), .extr (.tmp 36) 1, none⟩,
  ⟨(some 9), .mv (.tmp 39), none⟩,
  ⟨(some 10), .mv (.tmp 40), none⟩]) (.seq (.region .txt [⟨(some 41), .mv (.tmp 10), none⟩,
  ⟨(some 42), .icmp .neq .i64 (.tmp 41) (.const (.int .i64 0)), none⟩]) (.cond (.tmp 42) (.seq (.region .txt [⟨(some 43), .mv (.tmp 9), none⟩,
  ⟨(some 44), .mv (.tmp 10), none⟩,
  ⟨(some 2), .mv (.const (.pointer none)), none⟩,
  ⟨(some 3), .mv (.tmp 43), none⟩,
  ⟨(some 4), .mv (.tmp 44), none⟩]) .ret) .skip))) (.seq (.seq (.region .txt [⟨(some 45), .mv (.tmp 6), none⟩,
  ⟨(some 46), .call 110 [(.tmp 45)] (.val (.one (.int .i64))), none⟩,
  ⟨(some 11), .mv (.tmp 46), none⟩]) (.seq (.region .txt [⟨(some 47), .mv (.tmp 11), none⟩,
  ⟨(some 48), .icmp .geq .i64 (.tmp 47) (.const (.int .i64 0)), none⟩]) (.cond (.tmp 48) (.seq (.region .txt [⟨(some 49), .mv (.tmp 11), none⟩,
  ⟨(some 2), .mv (.const (.pointer none)), none⟩,
  ⟨(some 3), .mv (.tmp 49), none⟩,
  ⟨(some 4), .mv (.const (.int .i64 34)), none⟩]) .ret) .skip))) (.seq (.seq (.region .txt [⟨(some 50), .ldn [.int .i64, .slice, .slice, .slice, .slice, .slice, .slice, .slice, .slice, .slice, .slice] (.tmp 1), none⟩,
  ⟨(some 51), .call 111 [(.tmp 50)] (.val (.one (.int .i64))), none⟩,
  ⟨(some 12), .mv (.tmp 51), none⟩]) (.seq (.region .txt [⟨(some 52), .mv (.tmp 12), none⟩,
  ⟨(some 53), .icmp .geq .i64 (.tmp 52) (.const (.int .i64 0)), none⟩]) (.cond (.tmp 53) (.seq (.region .txt [⟨(some 54), .mv (.tmp 12), none⟩,
  ⟨(some 2), .mv (.const (.pointer none)), none⟩,
  ⟨(some 3), .mv (.tmp 54), none⟩,
  ⟨(some 4), .mv (.const (.int .i64 35)), none⟩]) .ret) .skip))) (.seq (.seq (.region .txt [⟨(some 55), .fldA 10 (.tmp 1), none⟩,
  ⟨(some 56), .ld (.slice) (.tmp 55), none⟩,
  ⟨(some 57), .len (.tmp 56), none⟩,
  ⟨(some 58), .mv (.const (.int .i64 0)), none⟩]) (.block 0 (.loop [(58, .int .i64)] [59, 60, 61, 62, 13, 14, 63, 64, 65, 66, 2, 3, 4, 67, 58] (.seq (.region .txt [⟨(some 59), .icmp .lss .i64 (.tmp 58) (.tmp 57), none⟩]) (.seq (.cond (.tmp 59) .skip (.exit 0)) (.seq (.block 1 (.seq (.region .txt [⟨(some 60), .mv (.tmp 58), none⟩,
  ⟨(some 61), .idxA 1 (.tmp 56) (.tmp 58), none⟩,
  ⟨(some 62), .ld (.str) (.tmp 61), none⟩,
  ⟨(some 13), .mv (.tmp 60), none⟩,
  ⟨(some 14), .mv (.tmp 62), none⟩]) (.seq (.region .txt [⟨(some 63), .mv (.tmp 14), none⟩,
  ⟨(some 64), .toBytes 5 (.tmp 63), none⟩,
  ⟨(some 65), .call 112 [(.tmp 64), (.const (.int .u8 10))] (.val (.one (.bool))), none⟩]) (.cond (.tmp 65) (.seq (.region .txt [⟨(some 66), .mv (.tmp 13), none⟩,
  ⟨(some 2), .mv (.const (.pointer none)), none⟩,
  ⟨(some 3), .mv (.tmp 66), none⟩,
  ⟨(some 4), .mv (.const (.int .i64 36)), none⟩]) .ret) .skip)))) (.region .txt [⟨(some 67), .arith .add .i64 (.tmp 58) (.const (.int .i64 1)), none⟩,
  ⟨(some 58), .mv (.tmp 67), none⟩]))))))) (.seq (.region .txt [⟨(some 68), .mv (.tmp 6), none⟩,
  ⟨(some 2), .mv (.tmp 68), none⟩,
  ⟨(some 3), .mv (.const (.int .i64 0)), none⟩,
  ⟨(some 4), .mv (.const (.int .i64 0)), none⟩]) .ret)))))))))
def loops79 : List (List (Nat × Shp)) := [[(58, .int .i64)]]
def ret79 : List RV := [.tmp 2, .tmp 3, .tmp 4]
theorem comp79 : compF Try.prog Try.f79 loops79 = some (69, ret79, code79) := by kernel_rfl
def J79_6  (P : Program) (R : Value → Heap → Prop) (A30 : (Option Addr)) (N30 : Nat) (t11 : Int) (next_ : (Int → Heap → Prop)) (h_14 : Heap) : Prop :=
 0 ≤ (t11 : Int) ∧ (t11 : Int) < (N30 : Nat) ∧ AtP A30 fun ad => ∃ (t12 : ByteArray), cellH h_14 (Addr.add ad (Int.toNat t11 * 1)) = some (.string t12) ∧ ∀ cap : Nat, t12.size ≤ cap → let h_15 : Heap := (h_14).push (.cells (bytesV t12 ++ List.replicate (cap - t12.size) (Value.int .u8 0)).toArray 5 (cap, cap + 1)); CallsH P 112 #[(.slice (some (Addr.mk (h_14).size 0 none)) t12.size cap), (.int .u8 10)] h_15 fun v5 h_16 =>
 ∃ (t13 : Bool), v5 = (.bool t13) ∧ BIf t13 (R (.tuple #[(.pointer none), (.int .i64 t11), (.int .i64 36)]) h_16) (next_ ((IntKind.wrap .i64 (t11 + 1))) h_16)
def J79_5  (R : Value → Heap → Prop) (h_3 : Heap) (h_17 : Heap) : Prop :=
 R (.tuple #[(.pointer (some (Addr.mk (h_3).size 0 none))), (.int .i64 0), (.int .i64 0)]) h_17
def B79_8 (P : Program) (R : Value → Heap → Prop) (h_3 : Heap) (A30 : (Option Addr)) (N30 : Nat) (t11 : Int) (h_13 : Heap) (next_ : Int → Heap → Prop) : Prop :=
 PIf ((t11 : Int) < ((N30 : Nat) : Int))
 (J79_6 P R A30 N30 t11 next_ h_13)
 (J79_5 R h_3 h_13)
def J79_4  (P : Program) (R : Value → Heap → Prop) (h : Heap) (h_3 : Heap) (h_12 : Heap) : Prop :=
 ∃ (A30 : Option Addr), ∃ (N30 : Nat), ∃ (C30 : Nat), cellH h_12 (Addr.add (Addr.mk (h).size 0 none) 10) = some (.slice A30 N30 C30) ∧ LoopT (σ := Int) (fun st_ h_st nx_st => B79_8 P R h_3 A30 N30 (st_) h_st nx_st) (0) h_12
def J79_3  (P : Program) (R : Value → Heap → Prop) (h : Heap) (h_3 : Heap) (h_10 : Heap) : Prop :=
 ∃ (t9 : Int), ∃ (A20 : Option Addr), ∃ (N20 : Nat), ∃ (C20 : Nat), ∃ (A21 : Option Addr), ∃ (N21 : Nat), ∃ (C21 : Nat), ∃ (A22 : Option Addr), ∃ (N22 : Nat), ∃ (C22 : Nat), ∃ (A23 : Option Addr), ∃ (N23 : Nat), ∃ (C23 : Nat), ∃ (A24 : Option Addr), ∃ (N24 : Nat), ∃ (C24 : Nat), ∃ (A25 : Option Addr), ∃ (N25 : Nat), ∃ (C25 : Nat), ∃ (A26 : Option Addr), ∃ (N26 : Nat), ∃ (C26 : Nat), ∃ (A27 : Option Addr), ∃ (N27 : Nat), ∃ (C27 : Nat), ∃ (A28 : Option Addr), ∃ (N28 : Nat), ∃ (C28 : Nat), ∃ (A29 : Option Addr), ∃ (N29 : Nat), ∃ (C29 : Nat), cellsH h_10 (Addr.mk (h).size 0 none) 0 [(.int .i64 t9), (.slice A20 N20 C20), (.slice A21 N21 C21), (.slice A22 N22 C22), (.slice A23 N23 C23), (.slice A24 N24 C24), (.slice A25 N25 C25), (.slice A26 N26 C26), (.slice A27 N27 C27), (.slice A28 N28 C28), (.slice A29 N29 C29)] ∧ CallsH P 111 #[(.agg #[(.int .i64 t9), (.slice A20 N20 C20), (.slice A21 N21 C21), (.slice A22 N22 C22), (.slice A23 N23 C23), (.slice A24 N24 C24), (.slice A25 N25 C25), (.slice A26 N26 C26), (.slice A27 N27 C27), (.slice A28 N28 C28), (.slice A29 N29 C29)])] h_10 fun v4 h_11 =>
 ∃ (t10 : Int), v4 = (.int .i64 t10) ∧ PIf ((0 : Int) ≤ t10)
 (R (.tuple #[(.pointer none), (.int .i64 t10), (.int .i64 35)]) h_11)
 (J79_4 P R h h_3 h_11)
def J79_2  (P : Program) (R : Value → Heap → Prop) (h : Heap) (h_3 : Heap) (h_8 : Heap) : Prop :=
 CallsH P 110 #[(.pointer (some (Addr.mk (h_3).size 0 none)))] h_8 fun v3 h_9 =>
 ∃ (t8 : Int), v3 = (.int .i64 t8) ∧ PIf ((0 : Int) ≤ t8)
 (R (.tuple #[(.pointer none), (.int .i64 t8), (.int .i64 34)]) h_9)
 (J79_3 P R h h_3 h_9)
def J79_1  (P : Program) (R : Value → Heap → Prop) (h : Heap) (h_3 : Heap) (h_6 : Heap) : Prop :=
 CallsH P 109 #[(.pointer (some (Addr.mk (h_3).size 0 none)))] h_6 fun v2 h_7 =>
 ∃ (t6 : Int), ∃ (t7 : Int), v2 = (.tuple #[(.int .i64 t6), (.int .i64 t7)]) ∧ PIf ((t7 : Int) = 0)
 (J79_2 P R h h_3 h_7)
 (R (.tuple #[(.pointer none), (.int .i64 t6), (.int .i64 t7)]) h_7)
def J79_0  (P : Program) (R : Value → Heap → Prop) (h : Heap) (h_2 : Heap) : Prop :=
 (Addr.block (Addr.mk (h).size 0 none)) < (h_2).size ∧ ∃ (t2 : Int), ∃ (A10 : Option Addr), ∃ (N10 : Nat), ∃ (C10 : Nat), ∃ (A11 : Option Addr), ∃ (N11 : Nat), ∃ (C11 : Nat), ∃ (A12 : Option Addr), ∃ (N12 : Nat), ∃ (C12 : Nat), ∃ (A13 : Option Addr), ∃ (N13 : Nat), ∃ (C13 : Nat), ∃ (A14 : Option Addr), ∃ (N14 : Nat), ∃ (C14 : Nat), ∃ (A15 : Option Addr), ∃ (N15 : Nat), ∃ (C15 : Nat), ∃ (A16 : Option Addr), ∃ (N16 : Nat), ∃ (C16 : Nat), ∃ (A17 : Option Addr), ∃ (N17 : Nat), ∃ (C17 : Nat), ∃ (A18 : Option Addr), ∃ (N18 : Nat), ∃ (C18 : Nat), ∃ (A19 : Option Addr), ∃ (N19 : Nat), ∃ (C19 : Nat), cellsH h_2 (Addr.mk (h).size 0 none) 0 [(.int .i64 t2), (.slice A10 N10 C10), (.slice A11 N11 C11), (.slice A12 N12 C12), (.slice A13 N13 C13), (.slice A14 N14 C14), (.slice A15 N15 C15), (.slice A16 N16 C16), (.slice A17 N17 C17), (.slice A18 N18 C18), (.slice A19 N19 C19)] ∧ (Addr.block (Addr.add (Addr.mk (h).size 0 none) 0)) < (h_2).size ∧ ∃ (t3 : Int), cellH h_2 (Addr.add (Addr.mk (h).size 0 none) 0) = some (.int .i64 t3) ∧ 0 ≤ ((IntKind.wrap .i64 (t3 + 1)) : Int) ∧ ((IntKind.wrap .i64 (t3 + 1)) : Int) ≤ (IntKind.wrap .i64 (t3 + 1)) ∧ (16 : Int) * (IntKind.wrap .i64 (t3 + 1)) ≤ 281474976710656 ∧ let h_3 : Heap := (h_2).push (.cells (zeroRow #[(.int .i64 0), (.int .i64 0)] (Int.toNat (IntKind.wrap .i64 (t3 + 1)) * 2)).toArray 202); AgreeH (h_2).size h_2 h_3 ∧ let h_4 : Heap := (h_3).push (.cells (Value.cells (.agg #[(.int .i64 t2), (.slice A10 N10 C10), (.slice A11 N11 C11), (.slice A12 N12 C12), (.slice A13 N13 C13), (.slice A14 N14 C14), (.slice A15 N15 C15), (.slice A16 N16 C16), (.slice A17 N17 C17), (.slice A18 N18 C18), (.slice A19 N19 C19), (.slice (some (Addr.mk (h_2).size 0 none)) (Int.toNat (IntKind.wrap .i64 (t3 + 1))) (Int.toNat (IntKind.wrap .i64 (t3 + 1))))])) 152); AgreeH (h_2).size h_3 h_4 ∧ CallsH P 108 #[(.pointer (some (Addr.mk (h_3).size 0 none)))] h_4 fun v1 h_5 =>
 ∃ (t4 : Int), ∃ (t5 : Int), v1 = (.tuple #[(.int .i64 t4), (.int .i64 t5)]) ∧ PIf ((t5 : Int) = 0)
 (J79_1 P R h h_3 h_5)
 (R (.tuple #[(.pointer none), (.int .i64 t4), (.int .i64 t5)]) h_5)
def VC79 (P : Program) (c : Int) (cA : Option Addr) (cN : Nat) (cC : Nat) (cA1 : Option Addr) (cN1 : Nat) (cC1 : Nat) (cA2 : Option Addr) (cN2 : Nat) (cC2 : Nat) (cA3 : Option Addr) (cN3 : Nat) (cC3 : Nat) (cA4 : Option Addr) (cN4 : Nat) (cC4 : Nat) (cA5 : Option Addr) (cN5 : Nat) (cC5 : Nat) (cA6 : Option Addr) (cN6 : Nat) (cC6 : Nat) (cA7 : Option Addr) (cN7 : Nat) (cC7 : Nat) (cA8 : Option Addr) (cN8 : Nat) (cC8 : Nat) (cA9 : Option Addr) (cN9 : Nat) (cC9 : Nat) (R : Value → Heap → Prop) (h : Heap) : Prop :=
 let h_ : Heap := (h).push (.cells (Value.cells (.agg #[(.int .i64 c), (.slice cA cN cC), (.slice cA1 cN1 cC1), (.slice cA2 cN2 cC2), (.slice cA3 cN3 cC3), (.slice cA4 cN4 cC4), (.slice cA5 cN5 cC5), (.slice cA6 cN6 cC6), (.slice cA7 cN7 cC7), (.slice cA8 cN8 cC8), (.slice cA9 cN9 cC9)])) 29); ∃ (t : Int), ∃ (A : Option Addr), ∃ (N : Nat), ∃ (C : Nat), ∃ (A1 : Option Addr), ∃ (N1 : Nat), ∃ (C1 : Nat), ∃ (A2 : Option Addr), ∃ (N2 : Nat), ∃ (C2 : Nat), ∃ (A3 : Option Addr), ∃ (N3 : Nat), ∃ (C3 : Nat), ∃ (A4 : Option Addr), ∃ (N4 : Nat), ∃ (C4 : Nat), ∃ (A5 : Option Addr), ∃ (N5 : Nat), ∃ (C5 : Nat), ∃ (A6 : Option Addr), ∃ (N6 : Nat), ∃ (C6 : Nat), ∃ (A7 : Option Addr), ∃ (N7 : Nat), ∃ (C7 : Nat), ∃ (A8 : Option Addr), ∃ (N8 : Nat), ∃ (C8 : Nat), ∃ (A9 : Option Addr), ∃ (N9 : Nat), ∃ (C9 : Nat), cellsH h_ (Addr.mk (h).size 0 none) 0 [(.int .i64 t), (.slice A N C), (.slice A1 N1 C1), (.slice A2 N2 C2), (.slice A3 N3 C3), (.slice A4 N4 C4), (.slice A5 N5 C5), (.slice A6 N6 C6), (.slice A7 N7 C7), (.slice A8 N8 C8), (.slice A9 N9 C9)] ∧ CallsH P 107 #[(.agg #[(.int .i64 t), (.slice A N C), (.slice A1 N1 C1), (.slice A2 N2 C2), (.slice A3 N3 C3), (.slice A4 N4 C4), (.slice A5 N5 C5), (.slice A6 N6 C6), (.slice A7 N7 C7), (.slice A8 N8 C8), (.slice A9 N9 C9)])] h_ fun v h_1 =>
 ∃ (t1 : Int), v = (.int .i64 t1) ∧ PIf ((t1 : Int) = 0)
 (J79_0 P R h h_1)
 (R (.tuple #[(.pointer none), (.int .i64 0), (.int .i64 t1)]) h_1)
theorem vc79 (P : Program) (c : Int) (cA : Option Addr) (cN : Nat) (cC : Nat) (cA1 : Option Addr) (cN1 : Nat) (cC1 : Nat) (cA2 : Option Addr) (cN2 : Nat) (cC2 : Nat) (cA3 : Option Addr) (cN3 : Nat) (cC3 : Nat) (cA4 : Option Addr) (cN4 : Nat) (cC4 : Nat) (cA5 : Option Addr) (cN5 : Nat) (cC5 : Nat) (cA6 : Option Addr) (cN6 : Nat) (cC6 : Nat) (cA7 : Option Addr) (cN7 : Nat) (cC7 : Nat) (cA8 : Option Addr) (cN8 : Nat) (cC8 : Nat) (cA9 : Option Addr) (cN9 : Nat) (cC9 : Nat) (R : Value → Heap → Prop) (h : Heap) : fnC P ret79 code79 [(.agg #[(.int .i64 c), (.slice cA cN cC), (.slice cA1 cN1 cC1), (.slice cA2 cN2 cC2), (.slice cA3 cN3 cC3), (.slice cA4 cN4 cC4), (.slice cA5 cN5 cC5), (.slice cA6 cN6 cC6), (.slice cA7 cN7 cC7), (.slice cA8 cN8 cC8), (.slice cA9 cN9 cC9)])] h R = VC79 P c cA cN cC cA1 cN1 cC1 cA2 cN2 cC2 cA3 cN3 cC3 cA4 cN4 cC4 cA5 cN5 cC5 cA6 cN6 cC6 cA7 cN7 cC7 cA8 cN8 cC8 cA9 cN9 cC9 R h := by kernel_rfl
theorem run79 (c : Int) (cA : Option Addr) (cN : Nat) (cC : Nat) (cA1 : Option Addr) (cN1 : Nat) (cC1 : Nat) (cA2 : Option Addr) (cN2 : Nat) (cC2 : Nat) (cA3 : Option Addr) (cN3 : Nat) (cC3 : Nat) (cA4 : Option Addr) (cN4 : Nat) (cC4 : Nat) (cA5 : Option Addr) (cN5 : Nat) (cC5 : Nat) (cA6 : Option Addr) (cN6 : Nat) (cC6 : Nat) (cA7 : Option Addr) (cN7 : Nat) (cC7 : Nat) (cA8 : Option Addr) (cN8 : Nat) (cC8 : Nat) (cA9 : Option Addr) (cN9 : Nat) (cC9 : Nat) (R : Value → Heap → Prop) (h : Heap) (hv : VC79 Try.prog c cA cN cC cA1 cN1 cC1 cA2 cN2 cC2 cA3 cN3 cC3 cA4 cN4 cC4 cA5 cN5 cC5 cA6 cN6 cC6 cA7 cN7 cC7 cA8 cN8 cC8 cA9 cN9 cC9 R h) : CallsH Try.prog 79 #[(.agg #[(.int .i64 c), (.slice cA cN cC), (.slice cA1 cN1 cC1), (.slice cA2 cN2 cC2), (.slice cA3 cN3 cC3), (.slice cA4 cN4 cC4), (.slice cA5 cN5 cC5), (.slice cA6 cN6 cC6), (.slice cA7 cN7 cC7), (.slice cA8 cN8 cC8), (.slice cA9 cN9 cC9)])] h R := calls_of_fnC (Checked.mixed Try.checked) Try.func79 comp79 (Nat.le_of_ble_eq_true rfl) (by rw [vc79]; exact hv)

/-! 88: trestle/trestleref03.size -/
def code88 : SCode := (.seq (.region .txt [⟨(some 1), .box 29 (.tmp 0), none⟩,
  ⟨(some 2), .mv (.const (.int .i64 0)), none⟩]) (.seq (.seq (.region .txt [⟨(some 7), .fldA 0 (.tmp 1), none⟩,
  ⟨(some 8), .ld (.int .i64) (.tmp 7), none⟩,
  ⟨(some 9), .icmp .lss .i64 (.tmp 8) (.const (.int .i64 0)), none⟩,
  ⟨(some 10), .mv (.tmp 9), none⟩,
  ⟨(some 11), .fldA 0 (.tmp 1), (some (10, false))⟩,
  ⟨(some 12), .ld (.int .i64) (.tmp 11), (some (10, false))⟩,
  ⟨(some 13), .icmp .gtr .i64 (.tmp 12) (.const (.int .i64 16384)), (some (10, false))⟩,
  ⟨(some 14), .pick (.tmp 10) (.const (.bool true)) (.tmp 13), none⟩]) (.cond (.tmp 14) (.seq (.region .txt [⟨(some 2), .mv (.const (.int .i64 1)), none⟩]) .ret) .skip)) (.seq (.region .txt [⟨(some 3), .mv (.const (.int .i64 16384)), none⟩]) (.seq (.region .txt [⟨(some 4), .mv (.const (.int .i64 0)), none⟩]) (.seq (.seq (.region .txt [⟨(some 5), .mv (.const (.int .i64 0)), none⟩]) (.block 0 (.loop [(4, .int .i64), (5, .int .i64)] [15, 16, 17, 18, 19, 20, 21, 22, 23, 24, 27, 28, 29, 30, 31, 32, 33, 34, 4, 25, 26, 5] (.seq (.seq (.region .txt [⟨(some 15), .mv (.tmp 5), none⟩,
  ⟨(some 16), .fldA 6 (.tmp 1), none⟩,
  ⟨(some 17), .ld (.slice) (.tmp 16), none⟩,
  ⟨(some 18), .len (.tmp 17), none⟩,
  ⟨(some 19), .icmp .lss .i64 (.tmp 15) (.tmp 18), none⟩,
  ⟨(some 20), .mv (.tmp 19), none⟩,
  ⟨(some 21), .mv (.tmp 5), (some (20, true))⟩,
  ⟨(some 22), .mv (.tmp 3), (some (20, true))⟩,
  ⟨(some 23), .icmp .leq .i64 (.tmp 21) (.tmp 22), (some (20, true))⟩,
  ⟨(some 24), .pick (.tmp 20) (.tmp 23) (.const (.bool false)), none⟩]) (.cond (.tmp 24) .skip (.exit 0))) (.seq (.block 1 (.region .txt [⟨(some 27), .mv (.tmp 4), none⟩,
  ⟨(some 28), .fldA 6 (.tmp 1), none⟩,
  ⟨(some 29), .ld (.slice) (.tmp 28), none⟩,
  ⟨(some 30), .mv (.tmp 5), none⟩,
  ⟨(some 31), .idxA 1 (.tmp 29) (.tmp 30), none⟩,
  ⟨(some 32), .ld (.slice) (.tmp 31), none⟩,
  ⟨(some 33), .len (.tmp 32), none⟩,
  ⟨(some 34), .arith .add .i64 (.tmp 27) (.tmp 33), none⟩,
  ⟨(some 4), .mv (.tmp 34), none⟩])) (.region .txt [⟨(some 25), .mv (.tmp 5), none⟩,
  ⟨(some 26), .arith .add .i64 (.tmp 25) (.const (.int .i64 1)), none⟩,
  ⟨(some 5), .mv (.tmp 26), none⟩])))))) (.seq (.region .txt [⟨(some 35), .fldA 1 (.tmp 1), none⟩,
  ⟨(some 36), .ld (.slice) (.tmp 35), none⟩,
  ⟨(some 37), .len (.tmp 36), none⟩,
  ⟨(some 38), .mv (.tmp 3), none⟩,
  ⟨(some 39), .icmp .gtr .i64 (.tmp 37) (.tmp 38), none⟩,
  ⟨(some 40), .mv (.tmp 39), none⟩,
  ⟨(some 41), .fldA 2 (.tmp 1), (some (40, false))⟩,
  ⟨(some 42), .ld (.slice) (.tmp 41), (some (40, false))⟩,
  ⟨(some 43), .len (.tmp 42), (some (40, false))⟩,
  ⟨(some 44), .mv (.tmp 3), (some (40, false))⟩,
  ⟨(some 45), .icmp .gtr .i64 (.tmp 43) (.tmp 44), (some (40, false))⟩,
  ⟨(some 46), .pick (.tmp 40) (.const (.bool true)) (.tmp 45), none⟩,
  ⟨(some 47), .mv (.tmp 46), none⟩,
  ⟨(some 48), .fldA 3 (.tmp 1), (some (47, false))⟩,
  ⟨(some 49), .ld (.slice) (.tmp 48), (some (47, false))⟩,
  ⟨(some 50), .len (.tmp 49), (some (47, false))⟩,
  ⟨(some 51), .mv (.tmp 3), (some (47, false))⟩,
  ⟨(some 52), .icmp .gtr .i64 (.tmp 50) (.tmp 51), (some (47, false))⟩,
  ⟨(some 53), .pick (.tmp 47) (.const (.bool true)) (.tmp 52), none⟩,
  ⟨(some 54), .mv (.tmp 53), none⟩,
  ⟨(some 55), .fldA 4 (.tmp 1), (some (54, false))⟩,
  ⟨(some 56), .ld (.slice) (.tmp 55), (some (54, false))⟩,
  ⟨(some 57), .len (.tmp 56), (some (54, false))⟩,
  ⟨(some 58), .mv (.tmp 3), (some (54, false))⟩,
  ⟨(some 59), .icmp .gtr .i64 (.tmp 57) (.tmp 58), (some (54, false))⟩,
  ⟨(some 60), .pick (.tmp 54) (.const (.bool true)) (.tmp 59), none⟩,
  ⟨(some 61), .mv (.tmp 60), none⟩,
  ⟨(some 62), .fldA 5 (.tmp 1), (some (61, false))⟩,
  ⟨(some 63), .ld (.slice) (.tmp 62), (some (61, false))⟩,
  ⟨(some 64), .len (.tmp 63), (some (61, false))⟩,
  ⟨(some 65), .mv (.tmp 3), (some (61, false))⟩,
  ⟨(some 66), .icmp .gtr .i64 (.tmp 64) (.tmp 65), (some (61, false))⟩,
  ⟨(some 67), .pick (.tmp 61) (.const (.bool true)) (.tmp 66), none⟩,
  ⟨(some 6), .mv (.tmp 67), none⟩]) (.seq (.seq (.region .txt [⟨(some 68), .mv (.tmp 6), none⟩,
  ⟨(some 69), .mv (.tmp 68), none⟩,
  ⟨(some 70), .fldA 6 (.tmp 1), (some (69, false))⟩,
  ⟨(some 71), .ld (.slice) (.tmp 70), (some (69, false))⟩,
  ⟨(some 72), .len (.tmp 71), (some (69, false))⟩,
  ⟨(some 73), .mv (.tmp 3), (some (69, false))⟩,
  ⟨(some 74), .icmp .gtr .i64 (.tmp 72) (.tmp 73), (some (69, false))⟩,
  ⟨(some 75), .pick (.tmp 69) (.const (.bool true)) (.tmp 74), none⟩,
  ⟨(some 76), .mv (.tmp 75), none⟩,
  ⟨(some 77), .fldA 7 (.tmp 1), (some (76, false))⟩,
  ⟨(some 78), .ld (.slice) (.tmp 77), (some (76, false))⟩,
  ⟨(some 79), .len (.tmp 78), (some (76, false))⟩,
  ⟨(some 80), .mv (.tmp 3), (some (76, false))⟩,
  ⟨(some 81), .icmp .gtr .i64 (.tmp 79) (.tmp 80), (some (76, false))⟩,
  ⟨(some 82), .pick (.tmp 76) (.const (.bool true)) (.tmp 81), none⟩,
  ⟨(some 83), .mv (.tmp 82), none⟩,
  ⟨(some 84), .fldA 8 (.tmp 1), (some (83, false))⟩,
  ⟨(some 85), .ld (.slice) (.tmp 84), (some (83, false))⟩,
  ⟨(some 86), .len (.tmp 85), (some (83, false))⟩,
  ⟨(some 87), .mv (.tmp 3), (some (83, false))⟩,
  ⟨(some 88), .icmp .gtr .i64 (.tmp 86) (.tmp 87), (some (83, false))⟩,
  ⟨(some 89), .pick (.tmp 83) (.const (.bool true)) (.tmp 88), none⟩,
  ⟨(some 90), .mv (.tmp 89), none⟩,
  ⟨(some 91), .fldA 9 (.tmp 1), (some (90, false))⟩,
  ⟨(some 92), .ld (.slice) (.tmp 91), (some (90, false))⟩,
  ⟨(some 93), .len (.tmp 92), (some (90, false))⟩,
  ⟨(some 94), .mv (.tmp 3), (some (90, false))⟩,
  ⟨(some 95), .icmp .gtr .i64 (.tmp 93) (.tmp 94), (some (90, false))⟩,
  ⟨(some 96), .pick (.tmp 90) (.const (.bool true)) (.tmp 95), none⟩,
  ⟨(some 97), .mv (.tmp 96), none⟩,
  ⟨(some 98), .fldA 10 (.tmp 1), (some (97, false))⟩,
  ⟨(some 99), .ld (.slice) (.tmp 98), (some (97, false))⟩,
  ⟨(some 100), .len (.tmp 99), (some (97, false))⟩,
  ⟨(some 101), .mv (.tmp 3), (some (97, false))⟩,
  ⟨(some 102), .icmp .gtr .i64 (.tmp 100) (.tmp 101), (some (97, false))⟩,
  ⟨(some 103), .pick (.tmp 97) (.const (.bool true)) (.tmp 102), none⟩,
  ⟨(some 104), .mv (.tmp 103), none⟩,
  ⟨(some 105), .mv (.tmp 4), (some (104, false))⟩,
  ⟨(some 106), .mv (.tmp 3), (some (104, false))⟩,
  ⟨(some 107), .icmp .gtr .i64 (.tmp 105) (.tmp 106), (some (104, false))⟩,
  ⟨(some 108), .pick (.tmp 104) (.const (.bool true)) (.tmp 107), none⟩]) (.cond (.tmp 108) (.seq (.region .txt [⟨(some 2), .mv (.const (.int .i64 2)), none⟩]) .ret) .skip)) (.seq (.region .txt [⟨(some 2), .mv (.const (.int .i64 0)), none⟩]) .ret))))))))
def loops88 : List (List (Nat × Shp)) := [[(4, .int .i64), (5, .int .i64)]]
def ret88 : List RV := [.tmp 2]
theorem comp88 : compF Try.prog Try.f88 loops88 = some (109, ret88, code88) := by kernel_rfl
def J88_2  (h : Heap) (all : Int) (i : Int) (next_ : (Int × Int → Heap → Prop)) (h_3 : Heap) : Prop :=
 ∃ (A1 : Option Addr), ∃ (N1 : Nat), ∃ (C1 : Nat), cellH h_3 (Addr.add (Addr.mk (h).size 0 none) 6) = some (.slice A1 N1 C1) ∧ 0 ≤ (i : Int) ∧ (i : Int) < (N1 : Nat) ∧ AtP A1 fun ad => ∃ (A2 : Option Addr), ∃ (N2 : Nat), ∃ (C2 : Nat), cellH h_3 (Addr.add ad (Int.toNat i * 1)) = some (.slice A2 N2 C2) ∧ next_ ((IntKind.wrap .i64 (all + ((N2 : Nat) : Int))), (IntKind.wrap .i64 (i + 1))) h_3
def J88_1  (R : Value → Heap → Prop) (h : Heap) (all1 : Int) (h_4 : Heap) : Prop :=
 ∃ (A3 : Option Addr), ∃ (N3 : Nat), ∃ (C3 : Nat), cellH h_4 (Addr.add (Addr.mk (h).size 0 none) 1) = some (.slice A3 N3 C3) ∧ PIf ((16384 : Int) < ((N3 : Nat) : Int))
 (R (.int .i64 2) h_4)
 (∃ (A4 : Option Addr), ∃ (N4 : Nat), ∃ (C4 : Nat), cellH h_4 (Addr.add (Addr.mk (h).size 0 none) 2) = some (.slice A4 N4 C4) ∧ PIf ((16384 : Int) < ((N4 : Nat) : Int))
 (R (.int .i64 2) h_4)
 (∃ (A5 : Option Addr), ∃ (N5 : Nat), ∃ (C5 : Nat), cellH h_4 (Addr.add (Addr.mk (h).size 0 none) 3) = some (.slice A5 N5 C5) ∧ PIf ((16384 : Int) < ((N5 : Nat) : Int))
 (R (.int .i64 2) h_4)
 (∃ (A6 : Option Addr), ∃ (N6 : Nat), ∃ (C6 : Nat), cellH h_4 (Addr.add (Addr.mk (h).size 0 none) 4) = some (.slice A6 N6 C6) ∧ PIf ((16384 : Int) < ((N6 : Nat) : Int))
 (R (.int .i64 2) h_4)
 (∃ (A7 : Option Addr), ∃ (N7 : Nat), ∃ (C7 : Nat), cellH h_4 (Addr.add (Addr.mk (h).size 0 none) 5) = some (.slice A7 N7 C7) ∧ PIf ((16384 : Int) < ((N7 : Nat) : Int))
 (R (.int .i64 2) h_4)
 (∃ (A8 : Option Addr), ∃ (N8 : Nat), ∃ (C8 : Nat), cellH h_4 (Addr.add (Addr.mk (h).size 0 none) 6) = some (.slice A8 N8 C8) ∧ PIf ((16384 : Int) < ((N8 : Nat) : Int))
 (R (.int .i64 2) h_4)
 (∃ (A9 : Option Addr), ∃ (N9 : Nat), ∃ (C9 : Nat), cellH h_4 (Addr.add (Addr.mk (h).size 0 none) 7) = some (.slice A9 N9 C9) ∧ PIf ((16384 : Int) < ((N9 : Nat) : Int))
 (R (.int .i64 2) h_4)
 (∃ (A10 : Option Addr), ∃ (N10 : Nat), ∃ (C10 : Nat), cellH h_4 (Addr.add (Addr.mk (h).size 0 none) 8) = some (.slice A10 N10 C10) ∧ PIf ((16384 : Int) < ((N10 : Nat) : Int))
 (R (.int .i64 2) h_4)
 (∃ (A11 : Option Addr), ∃ (N11 : Nat), ∃ (C11 : Nat), cellH h_4 (Addr.add (Addr.mk (h).size 0 none) 9) = some (.slice A11 N11 C11) ∧ PIf ((16384 : Int) < ((N11 : Nat) : Int))
 (R (.int .i64 2) h_4)
 (∃ (A12 : Option Addr), ∃ (N12 : Nat), ∃ (C12 : Nat), cellH h_4 (Addr.add (Addr.mk (h).size 0 none) 10) = some (.slice A12 N12 C12) ∧ PIf ((16384 : Int) < ((N12 : Nat) : Int))
 (R (.int .i64 2) h_4)
 (PIf ((16384 : Int) < all1)
 (R (.int .i64 2) h_4)
 (R (.int .i64 0) h_4)))))))))))
def B88_3 (R : Value → Heap → Prop) (h : Heap) (all : Int) (i : Int) (h_2 : Heap) (next_ : Int × Int → Heap → Prop) : Prop :=
 ∃ (A : Option Addr), ∃ (N : Nat), ∃ (C : Nat), cellH h_2 (Addr.add (Addr.mk (h).size 0 none) 6) = some (.slice A N C) ∧ PIf ((i : Int) < ((N : Nat) : Int))
 (PIf ((i : Int) ≤ 16384)
 (J88_2 h all i next_ h_2)
 (J88_1 R h (all) h_2))
 (J88_1 R h (all) h_2)
def J88_0  (R : Value → Heap → Prop) (h : Heap) (h_1 : Heap) : Prop :=
 LoopT (σ := Int × Int) (fun st_ h_st nx_st => B88_3 R h (st_.1) (st_.2) h_st nx_st) (0, 0) h_1
def VC88 (P : Program) (c : Int) (cA : Option Addr) (cN : Nat) (cC : Nat) (cA1 : Option Addr) (cN1 : Nat) (cC1 : Nat) (cA2 : Option Addr) (cN2 : Nat) (cC2 : Nat) (cA3 : Option Addr) (cN3 : Nat) (cC3 : Nat) (cA4 : Option Addr) (cN4 : Nat) (cC4 : Nat) (cA5 : Option Addr) (cN5 : Nat) (cC5 : Nat) (cA6 : Option Addr) (cN6 : Nat) (cC6 : Nat) (cA7 : Option Addr) (cN7 : Nat) (cC7 : Nat) (cA8 : Option Addr) (cN8 : Nat) (cC8 : Nat) (cA9 : Option Addr) (cN9 : Nat) (cC9 : Nat) (R : Value → Heap → Prop) (h : Heap) : Prop :=
 let h_ : Heap := (h).push (.cells (Value.cells (.agg #[(.int .i64 c), (.slice cA cN cC), (.slice cA1 cN1 cC1), (.slice cA2 cN2 cC2), (.slice cA3 cN3 cC3), (.slice cA4 cN4 cC4), (.slice cA5 cN5 cC5), (.slice cA6 cN6 cC6), (.slice cA7 cN7 cC7), (.slice cA8 cN8 cC8), (.slice cA9 cN9 cC9)])) 29); ∃ (t : Int), cellH h_ (Addr.add (Addr.mk (h).size 0 none) 0) = some (.int .i64 t) ∧ PIf ((t : Int) < 0)
 (R (.int .i64 1) h_)
 (∃ (t1 : Int), cellH h_ (Addr.add (Addr.mk (h).size 0 none) 0) = some (.int .i64 t1) ∧ PIf ((16384 : Int) < t1)
 (R (.int .i64 1) h_)
 (J88_0 R h h_))
theorem vc88 (P : Program) (c : Int) (cA : Option Addr) (cN : Nat) (cC : Nat) (cA1 : Option Addr) (cN1 : Nat) (cC1 : Nat) (cA2 : Option Addr) (cN2 : Nat) (cC2 : Nat) (cA3 : Option Addr) (cN3 : Nat) (cC3 : Nat) (cA4 : Option Addr) (cN4 : Nat) (cC4 : Nat) (cA5 : Option Addr) (cN5 : Nat) (cC5 : Nat) (cA6 : Option Addr) (cN6 : Nat) (cC6 : Nat) (cA7 : Option Addr) (cN7 : Nat) (cC7 : Nat) (cA8 : Option Addr) (cN8 : Nat) (cC8 : Nat) (cA9 : Option Addr) (cN9 : Nat) (cC9 : Nat) (R : Value → Heap → Prop) (h : Heap) : fnC P ret88 code88 [(.agg #[(.int .i64 c), (.slice cA cN cC), (.slice cA1 cN1 cC1), (.slice cA2 cN2 cC2), (.slice cA3 cN3 cC3), (.slice cA4 cN4 cC4), (.slice cA5 cN5 cC5), (.slice cA6 cN6 cC6), (.slice cA7 cN7 cC7), (.slice cA8 cN8 cC8), (.slice cA9 cN9 cC9)])] h R = VC88 P c cA cN cC cA1 cN1 cC1 cA2 cN2 cC2 cA3 cN3 cC3 cA4 cN4 cC4 cA5 cN5 cC5 cA6 cN6 cC6 cA7 cN7 cC7 cA8 cN8 cC8 cA9 cN9 cC9 R h := by kernel_rfl
theorem run88 (c : Int) (cA : Option Addr) (cN : Nat) (cC : Nat) (cA1 : Option Addr) (cN1 : Nat) (cC1 : Nat) (cA2 : Option Addr) (cN2 : Nat) (cC2 : Nat) (cA3 : Option Addr) (cN3 : Nat) (cC3 : Nat) (cA4 : Option Addr) (cN4 : Nat) (cC4 : Nat) (cA5 : Option Addr) (cN5 : Nat) (cC5 : Nat) (cA6 : Option Addr) (cN6 : Nat) (cC6 : Nat) (cA7 : Option Addr) (cN7 : Nat) (cC7 : Nat) (cA8 : Option Addr) (cN8 : Nat) (cC8 : Nat) (cA9 : Option Addr) (cN9 : Nat) (cC9 : Nat) (R : Value → Heap → Prop) (h : Heap) (hv : VC88 Try.prog c cA cN cC cA1 cN1 cC1 cA2 cN2 cC2 cA3 cN3 cC3 cA4 cN4 cC4 cA5 cN5 cC5 cA6 cN6 cC6 cA7 cN7 cC7 cA8 cN8 cC8 cA9 cN9 cC9 R h) : CallsH Try.prog 88 #[(.agg #[(.int .i64 c), (.slice cA cN cC), (.slice cA1 cN1 cC1), (.slice cA2 cN2 cC2), (.slice cA3 cN3 cC3), (.slice cA4 cN4 cC4), (.slice cA5 cN5 cC5), (.slice cA6 cN6 cC6), (.slice cA7 cN7 cC7), (.slice cA8 cN8 cC8), (.slice cA9 cN9 cC9)])] h R := calls_of_fnC (Checked.mixed Try.checked) Try.func88 comp88 (Nat.le_of_ble_eq_true rfl) (by rw [vc88]; exact hv)

/-! 107: trestle/shape.sizes -/
def code107 : SCode := (.seq (.region .txt [⟨(some 1), .box 29 (.tmp 0), none⟩,
  ⟨(some 2), .mv (.const (.int .i64 0)), none⟩]) (.seq (.seq (.region .txt [⟨(some 5), .fldA 0 (.tmp 1), none⟩,
  ⟨(some 6), .ld (.int .i64) (.tmp 5), none⟩,
  ⟨(some 7), .icmp .lss .i64 (.tmp 6) (.const (.int .i64 0)), none⟩,
  ⟨(some 8), .mv (.tmp 7), none⟩,
  ⟨(some 9), .fldA 0 (.tmp 1), (some (8, false))⟩,
  ⟨(some 10), .ld (.int .i64) (.tmp 9), (some (8, false))⟩,
  ⟨(some 11), .icmp .gtr .i64 (.tmp 10) (.const (.int .i64 16384)), (some (8, false))⟩,
  ⟨(some 12), .pick (.tmp 8) (.const (.bool true)) (.tmp 11), none⟩]) (.cond (.tmp 12) (.seq (.region .txt [⟨(some 2), .mv (.const (.int .i64 1)), none⟩]) .ret) .skip)) (.seq (.seq (.region .txt [⟨(some 13), .fldA 1 (.tmp 1), none⟩,
  ⟨(some 14), .ld (.slice) (.tmp 13), none⟩,
  ⟨(some 15), .len (.tmp 14), none⟩,
  ⟨(some 16), .fldA 2 (.tmp 1), none⟩,
  ⟨(some 17), .ld (.slice) (.tmp 16), none⟩,
  ⟨(some 18), .len (.tmp 17), none⟩,
  ⟨(some 19), .fldA 3 (.tmp 1), none⟩,
  ⟨(some 20), .ld (.slice) (.tmp 19), none⟩,
  ⟨(some 21), .len (.tmp 20), none⟩,
  ⟨(some 22), .fldA 4 (.tmp 1), none⟩,
  ⟨(some 23), .ld (.slice) (.tmp 22), none⟩,
  ⟨(some 24), .len (.tmp 23), none⟩,
  ⟨(some 25), .fldA 5 (.tmp 1), none⟩,
  ⟨(some 26), .ld (.slice) (.tmp 25), none⟩,
  ⟨(some 27), .len (.tmp 26), none⟩,
  ⟨(some 28), .fldA 6 (.tmp 1), none⟩,
  ⟨(some 29), .ld (.slice) (.tmp 28), none⟩,
  ⟨(some 30), .len (.tmp 29), none⟩,
  ⟨(some 31), .fldA 7 (.tmp 1), none⟩,
  ⟨(some 32), .ld (.slice) (.tmp 31), none⟩,
  ⟨(some 33), .len (.tmp 32), none⟩,
  ⟨(some 34), .fldA 8 (.tmp 1), none⟩,
  ⟨(some 35), .ld (.slice) (.tmp 34), none⟩,
  ⟨(some 36), .len (.tmp 35), none⟩,
  ⟨(some 37), .fldA 9 (.tmp 1), none⟩,
  ⟨(some 38), .ld (.slice) (.tmp 37), none⟩,
  ⟨(some 39), .len (.tmp 38), none⟩,
  ⟨(some 40), .fldA 10 (.tmp 1), none⟩,
  ⟨(some 41), .ld (.slice) (.tmp 40), none⟩,
  ⟨(some 42), .len (.tmp 41), none⟩,
  ⟨(some 43), .mkAgg #[(.int .i64 0), (.int .i64 0), (.int .i64 0), (.int .i64 0), (.int .i64 0), (.int .i64 0), (.int .i64 0), (.int .i64 0), (.int .i64 0), (.int .i64 0)] [(0, 1, (.tmp 15)), (1, 1, (.tmp 18)), (2, 1, (.tmp 21)), (3, 1, (.tmp 24)), (4, 1, (.tmp 27)), (5, 1, (.tmp 30)), (6, 1, (.tmp 33)), (7, 1, (.tmp 36)), (8, 1, (.tmp 39)), (9, 1, (.tmp 42))], none⟩,
  ⟨(some 44), .mv (.const (.int .i64 0)), none⟩]) (.block 0 (.loop [(44, .int .i64)] [45, 46, 4, 47, 48, 2, 49, 44] (.seq (.region .txt [⟨(some 45), .icmp .lss .i64 (.tmp 44) (.const (.int .i64 10)), none⟩]) (.seq (.cond (.tmp 45) .skip (.exit 0)) (.seq (.block 1 (.seq (.region .txt [⟨(some 46), .idxV (.int .i64) 10 (.tmp 43) (.tmp 44), none⟩,
  ⟨(some 4), .mv (.tmp 46), none⟩]) (.seq (.region .txt [⟨(some 47), .mv (.tmp 4), none⟩,
  ⟨(some 48), .icmp .gtr .i64 (.tmp 47) (.const (.int .i64 16384)), none⟩]) (.cond (.tmp 48) (.seq (.region .txt [⟨(some 2), .mv (.const (.int .i64 2)), none⟩]) .ret) .skip)))) (.region .txt [⟨(some 49), .arith .add .i64 (.tmp 44) (.const (.int .i64 1)), none⟩,
  ⟨(some 44), .mv (.tmp 49), none⟩]))))))) (.seq (.seq (.region .txt [⟨(some 50), .fldA 6 (.tmp 1), none⟩,
  ⟨(some 51), .ld (.slice) (.tmp 50), none⟩,
  ⟨(some 52), .call 148 [(.tmp 51)] (.val (.one (.int .i64))), none⟩,
  ⟨(some 53), .icmp .gtr .i64 (.tmp 52) (.const (.int .i64 16384)), none⟩]) (.cond (.tmp 53) (.seq (.region .txt [⟨(some 2), .mv (.const (.int .i64 2)), none⟩]) .ret) .skip)) (.seq (.region .txt [⟨(some 2), .mv (.const (.int .i64 0)), none⟩]) .ret)))))
def loops107 : List (List (Nat × Shp)) := [[(44, .int .i64)]]
def ret107 : List RV := [.tmp 2]
theorem comp107 : compF Try.prog Try.f107 loops107 = some (54, ret107, code107) := by kernel_rfl
def J107_2  (R : Value → Heap → Prop) (N : Nat) (N1 : Nat) (N2 : Nat) (N3 : Nat) (N4 : Nat) (N5 : Nat) (N6 : Nat) (N7 : Nat) (N8 : Nat) (N9 : Nat) (t2 : Int) (next_ : (Int → Heap → Prop)) (h_3 : Heap) : Prop :=
 0 ≤ (t2 : Int) ∧ (t2 : Int) < (10 : Nat) ∧ ∃ (t3 : Int), ([(.int .i64 ((N : Nat) : Int)), (.int .i64 ((N1 : Nat) : Int)), (.int .i64 ((N2 : Nat) : Int)), (.int .i64 ((N3 : Nat) : Int)), (.int .i64 ((N4 : Nat) : Int)), (.int .i64 ((N5 : Nat) : Int)), (.int .i64 ((N6 : Nat) : Int)), (.int .i64 ((N7 : Nat) : Int)), (.int .i64 ((N8 : Nat) : Int)), (.int .i64 ((N9 : Nat) : Int))] : List Value)[Int.toNat t2]? = some (.int .i64 t3) ∧ PIf ((16384 : Int) < t3)
 (R (.int .i64 2) h_3)
 (next_ ((IntKind.wrap .i64 (t2 + 1))) h_3)
def J107_1  (P : Program) (R : Value → Heap → Prop) (h : Heap) (h_4 : Heap) : Prop :=
 ∃ (A10 : Option Addr), ∃ (N10 : Nat), ∃ (C10 : Nat), cellH h_4 (Addr.add (Addr.mk (h).size 0 none) 6) = some (.slice A10 N10 C10) ∧ CallsH P 148 #[(.slice A10 N10 C10)] h_4 fun v h_5 =>
 ∃ (t4 : Int), v = (.int .i64 t4) ∧ PIf ((16384 : Int) < t4)
 (R (.int .i64 2) h_5)
 (R (.int .i64 0) h_5)
def B107_4 (P : Program) (R : Value → Heap → Prop) (h : Heap) (N : Nat) (N1 : Nat) (N2 : Nat) (N3 : Nat) (N4 : Nat) (N5 : Nat) (N6 : Nat) (N7 : Nat) (N8 : Nat) (N9 : Nat) (t2 : Int) (h_2 : Heap) (next_ : Int → Heap → Prop) : Prop :=
 PIf ((t2 : Int) < 10)
 (J107_2 R N N1 N2 N3 N4 N5 N6 N7 N8 N9 t2 next_ h_2)
 (J107_1 P R h h_2)
def J107_0  (P : Program) (R : Value → Heap → Prop) (h : Heap) (h_1 : Heap) : Prop :=
 ∃ (A : Option Addr), ∃ (N : Nat), ∃ (C : Nat), cellH h_1 (Addr.add (Addr.mk (h).size 0 none) 1) = some (.slice A N C) ∧ ∃ (A1 : Option Addr), ∃ (N1 : Nat), ∃ (C1 : Nat), cellH h_1 (Addr.add (Addr.mk (h).size 0 none) 2) = some (.slice A1 N1 C1) ∧ ∃ (A2 : Option Addr), ∃ (N2 : Nat), ∃ (C2 : Nat), cellH h_1 (Addr.add (Addr.mk (h).size 0 none) 3) = some (.slice A2 N2 C2) ∧ ∃ (A3 : Option Addr), ∃ (N3 : Nat), ∃ (C3 : Nat), cellH h_1 (Addr.add (Addr.mk (h).size 0 none) 4) = some (.slice A3 N3 C3) ∧ ∃ (A4 : Option Addr), ∃ (N4 : Nat), ∃ (C4 : Nat), cellH h_1 (Addr.add (Addr.mk (h).size 0 none) 5) = some (.slice A4 N4 C4) ∧ ∃ (A5 : Option Addr), ∃ (N5 : Nat), ∃ (C5 : Nat), cellH h_1 (Addr.add (Addr.mk (h).size 0 none) 6) = some (.slice A5 N5 C5) ∧ ∃ (A6 : Option Addr), ∃ (N6 : Nat), ∃ (C6 : Nat), cellH h_1 (Addr.add (Addr.mk (h).size 0 none) 7) = some (.slice A6 N6 C6) ∧ ∃ (A7 : Option Addr), ∃ (N7 : Nat), ∃ (C7 : Nat), cellH h_1 (Addr.add (Addr.mk (h).size 0 none) 8) = some (.slice A7 N7 C7) ∧ ∃ (A8 : Option Addr), ∃ (N8 : Nat), ∃ (C8 : Nat), cellH h_1 (Addr.add (Addr.mk (h).size 0 none) 9) = some (.slice A8 N8 C8) ∧ ∃ (A9 : Option Addr), ∃ (N9 : Nat), ∃ (C9 : Nat), cellH h_1 (Addr.add (Addr.mk (h).size 0 none) 10) = some (.slice A9 N9 C9) ∧ LoopT (σ := Int) (fun st_ h_st nx_st => B107_4 P R h N N1 N2 N3 N4 N5 N6 N7 N8 N9 (st_) h_st nx_st) (0) h_1
def VC107 (P : Program) (c : Int) (cA : Option Addr) (cN : Nat) (cC : Nat) (cA1 : Option Addr) (cN1 : Nat) (cC1 : Nat) (cA2 : Option Addr) (cN2 : Nat) (cC2 : Nat) (cA3 : Option Addr) (cN3 : Nat) (cC3 : Nat) (cA4 : Option Addr) (cN4 : Nat) (cC4 : Nat) (cA5 : Option Addr) (cN5 : Nat) (cC5 : Nat) (cA6 : Option Addr) (cN6 : Nat) (cC6 : Nat) (cA7 : Option Addr) (cN7 : Nat) (cC7 : Nat) (cA8 : Option Addr) (cN8 : Nat) (cC8 : Nat) (cA9 : Option Addr) (cN9 : Nat) (cC9 : Nat) (R : Value → Heap → Prop) (h : Heap) : Prop :=
 let h_ : Heap := (h).push (.cells (Value.cells (.agg #[(.int .i64 c), (.slice cA cN cC), (.slice cA1 cN1 cC1), (.slice cA2 cN2 cC2), (.slice cA3 cN3 cC3), (.slice cA4 cN4 cC4), (.slice cA5 cN5 cC5), (.slice cA6 cN6 cC6), (.slice cA7 cN7 cC7), (.slice cA8 cN8 cC8), (.slice cA9 cN9 cC9)])) 29); ∃ (t : Int), cellH h_ (Addr.add (Addr.mk (h).size 0 none) 0) = some (.int .i64 t) ∧ PIf ((t : Int) < 0)
 (R (.int .i64 1) h_)
 (∃ (t1 : Int), cellH h_ (Addr.add (Addr.mk (h).size 0 none) 0) = some (.int .i64 t1) ∧ PIf ((16384 : Int) < t1)
 (R (.int .i64 1) h_)
 (J107_0 P R h h_))
theorem vc107 (P : Program) (c : Int) (cA : Option Addr) (cN : Nat) (cC : Nat) (cA1 : Option Addr) (cN1 : Nat) (cC1 : Nat) (cA2 : Option Addr) (cN2 : Nat) (cC2 : Nat) (cA3 : Option Addr) (cN3 : Nat) (cC3 : Nat) (cA4 : Option Addr) (cN4 : Nat) (cC4 : Nat) (cA5 : Option Addr) (cN5 : Nat) (cC5 : Nat) (cA6 : Option Addr) (cN6 : Nat) (cC6 : Nat) (cA7 : Option Addr) (cN7 : Nat) (cC7 : Nat) (cA8 : Option Addr) (cN8 : Nat) (cC8 : Nat) (cA9 : Option Addr) (cN9 : Nat) (cC9 : Nat) (R : Value → Heap → Prop) (h : Heap) : fnC P ret107 code107 [(.agg #[(.int .i64 c), (.slice cA cN cC), (.slice cA1 cN1 cC1), (.slice cA2 cN2 cC2), (.slice cA3 cN3 cC3), (.slice cA4 cN4 cC4), (.slice cA5 cN5 cC5), (.slice cA6 cN6 cC6), (.slice cA7 cN7 cC7), (.slice cA8 cN8 cC8), (.slice cA9 cN9 cC9)])] h R = VC107 P c cA cN cC cA1 cN1 cC1 cA2 cN2 cC2 cA3 cN3 cC3 cA4 cN4 cC4 cA5 cN5 cC5 cA6 cN6 cC6 cA7 cN7 cC7 cA8 cN8 cC8 cA9 cN9 cC9 R h := by kernel_rfl
theorem run107 (c : Int) (cA : Option Addr) (cN : Nat) (cC : Nat) (cA1 : Option Addr) (cN1 : Nat) (cC1 : Nat) (cA2 : Option Addr) (cN2 : Nat) (cC2 : Nat) (cA3 : Option Addr) (cN3 : Nat) (cC3 : Nat) (cA4 : Option Addr) (cN4 : Nat) (cC4 : Nat) (cA5 : Option Addr) (cN5 : Nat) (cC5 : Nat) (cA6 : Option Addr) (cN6 : Nat) (cC6 : Nat) (cA7 : Option Addr) (cN7 : Nat) (cC7 : Nat) (cA8 : Option Addr) (cN8 : Nat) (cC8 : Nat) (cA9 : Option Addr) (cN9 : Nat) (cC9 : Nat) (R : Value → Heap → Prop) (h : Heap) (hv : VC107 Try.prog c cA cN cC cA1 cN1 cC1 cA2 cN2 cC2 cA3 cN3 cC3 cA4 cN4 cC4 cA5 cN5 cC5 cA6 cN6 cC6 cA7 cN7 cC7 cA8 cN8 cC8 cA9 cN9 cC9 R h) : CallsH Try.prog 107 #[(.agg #[(.int .i64 c), (.slice cA cN cC), (.slice cA1 cN1 cC1), (.slice cA2 cN2 cC2), (.slice cA3 cN3 cC3), (.slice cA4 cN4 cC4), (.slice cA5 cN5 cC5), (.slice cA6 cN6 cC6), (.slice cA7 cN7 cC7), (.slice cA8 cN8 cC8), (.slice cA9 cN9 cC9)])] h R := calls_of_fnC (Checked.mixed Try.checked) Try.func107 comp107 (Nat.le_of_ble_eq_true rfl) (by rw [vc107]; exact hv)

/-! 108: (*trestle/shape.looker).defines -/
def code108 : SCode := (.seq (.region .txt [⟨(some 2), .mv (.const (.int .i64 0)), none⟩,
  ⟨(some 3), .mv (.const (.int .i64 0)), none⟩]) (.seq (.seq (.region .txt [⟨(some 13), .mv (.tmp 0), none⟩,
  ⟨(some 14), .nilck (.tmp 13), none⟩,
  ⟨(some 15), .fldA 0 (.tmp 14), none⟩,
  ⟨(some 16), .fldA 1 (.tmp 15), none⟩,
  ⟨(some 17), .ld (.slice) (.tmp 16), none⟩,
  ⟨(some 18), .len (.tmp 17), none⟩,
  ⟨(some 19), .mv (.const (.int .i64 0)), none⟩]) (.block 0 (.loop [(19, .int .i64)] [20, 21, 22, 23, 4, 5, 24, 25, 26, 27, 28, 6, 29, 30, 31, 32, 2, 3, 33, 19] (.seq (.region .txt [⟨(some 20), .icmp .lss .i64 (.tmp 19) (.tmp 18), none⟩]) (.seq (.cond (.tmp 20) .skip (.exit 0)) (.seq (.block 1 (.seq (.region .txt [⟨(some 21), .mv (.tmp 19), none⟩,
  ⟨(some 22), .idxA 1 (.tmp 17) (.tmp 19), none⟩,
  ⟨(some 23), .ld (.int .i64) (.tmp 22), none⟩,
  ⟨(some 4), .mv (.tmp 21), none⟩,
  ⟨(some 5), .mv (.tmp 23), none⟩]) (.seq (.region .txt [⟨(some 24), .mv (.tmp 0), none⟩,
  ⟨(some 25), .mv (.tmp 5), none⟩,
  ⟨(some 26), .mv (.tmp 4), none⟩,
  ⟨(some 27), .mkAgg #[(.int .i64 0), (.int .i64 0)] [(0, 1, (.const (.int .i64 1))), (1, 1, (.tmp 26))], none⟩,
  ⟨(some 28), .call 149 [(.tmp 24), (.tmp 25), (.tmp 27)] (.val (.one (.int .i64))), none⟩,
  ⟨(some 6), .mv (.tmp 28), none⟩]) (.seq (.region .txt [⟨(some 29), .mv (.tmp 6), none⟩,
  ⟨(some 30), .icmp .neq .i64 (.tmp 29) (.const (.int .i64 0)), none⟩]) (.cond (.tmp 30) (.seq (.region .txt [⟨(some 31), .mv (.tmp 4), none⟩,
  ⟨(some 32), .mv (.tmp 6), none⟩,
  ⟨(some 2), .mv (.tmp 31), none⟩,
  ⟨(some 3), .mv (.tmp 32), none⟩]) .ret) .skip))))) (.region .txt [⟨(some 33), .arith .add .i64 (.tmp 19) (.const (.int .i64 1)), none⟩,
  ⟨(some 19), .mv (.tmp 33), none⟩]))))))) (.seq (.seq (.region .txt [⟨(some 34), .mv (.tmp 0), none⟩,
  ⟨(some 35), .nilck (.tmp 34), none⟩,
  ⟨(some 36), .fldA 0 (.tmp 35), none⟩,
  ⟨(some 37), .fldA 2 (.tmp 36), none⟩,
  ⟨(some 38), .ld (.slice) (.tmp 37), none⟩,
  ⟨(some 39), .len (.tmp 38), none⟩,
  ⟨(some 40), .mv (.const (.int .i64 0)), none⟩]) (.block 2 (.loop [(40, .int .i64)] [41, 42, 43, 44, 8, 7, 45, 46, 47, 48, 49, 50, 9, 51, 52, 53, 54, 2, 3, 55, 56, 57, 58, 59, 60, 61, 62, 63, 64, 65, 66, 67, 68, 69, 70, 2, 3, 71, 40] (.seq (.region .txt [⟨(some 41), .icmp .lss .i64 (.tmp 40) (.tmp 39), none⟩]) (.seq (.cond (.tmp 41) .skip (.exit 2)) (.seq (.block 3 (.seq (.region .txt [⟨(some 42), .mv (.tmp 40), none⟩,
  ⟨(some 43), .idxA 3 (.tmp 38) (.tmp 40), none⟩,
  ⟨(some 44), .ldn [.int .i64, .int .i64, .int .i64] (.tmp 43), none⟩,
  ⟨(some 8), .alloc 80 (.agg #[(.int .i64 0), (.int .i64 0), (.int .i64 0)]), none⟩,
  ⟨(some 7), .mv (.tmp 42), none⟩,
  ⟨none, .st 3 (.tmp 8) (.tmp 44), none⟩]) (.seq (.seq (.region .txt [⟨(some 45), .mv (.tmp 0), none⟩,
  ⟨(some 46), .fldA 0 (.tmp 8), none⟩,
  ⟨(some 47), .ld (.int .i64) (.tmp 46), none⟩,
  ⟨(some 48), .mv (.tmp 7), none⟩,
  ⟨(some 49), .mkAgg #[(.int .i64 0), (.int .i64 0)] [(0, 1, (.const (.int .i64 2))), (1, 1, (.tmp 48))], none⟩,
  ⟨(some 50), .call 149 [(.tmp 45), (.tmp 47), (.tmp 49)] (.val (.one (.int .i64))), none⟩,
  ⟨(some 9), .mv (.tmp 50), none⟩]) (.seq (.region .txt [⟨(some 51), .mv (.tmp 9), none⟩,
  ⟨(some 52), .icmp .neq .i64 (.tmp 51) (.const (.int .i64 0)), none⟩]) (.cond (.tmp 52) (.seq (.region .txt [⟨(some 53), .mv (.tmp 7), none⟩,
  ⟨(some 54), .mv (.tmp 9), none⟩,
  ⟨(some 2), .mv (.tmp 53), none⟩,
  ⟨(some 3), .mv (.tmp 54), none⟩]) .ret) .skip))) (.seq (.region .txt [⟨(some 55), .fldA 2 (.tmp 8), none⟩,
  ⟨(some 56), .ld (.int .i64) (.tmp 55), none⟩,
  ⟨(some 57), .icmp .neq .i64 (.tmp 56) (.const (.int .i64 0)), none⟩,
  ⟨(some 58), .mv (.tmp 57), none⟩,
  ⟨(some 59), .fldA 2 (.tmp 8), (some (58, true))⟩,
  ⟨(some 60), .ld (.int .i64) (.tmp 59), (some (58, true))⟩,
  ⟨(some 61), .icmp .neq .i64 (.tmp 60) (.const (.int .i64 1)), (some (58, true))⟩,
  ⟨(some 62), .pick (.tmp 58) (.tmp 61) (.const (.bool false)), none⟩,
  ⟨(some 63), .mv (.tmp 62), none⟩,
  ⟨(some 64), .fldA 2 (.tmp 8), (some (63, true))⟩,
  ⟨(some 65), .ld (.int .i64) (.tmp 64), (some (63, true))⟩,
  ⟨(some 66), .fldA 0 (.tmp 8), (some (63, true))⟩,
  ⟨(some 67), .ld (.int .i64) (.tmp 66), (some (63, true))⟩,
  ⟨(some 68), .icmp .neq .i64 (.tmp 65) (.tmp 67), (some (63, true))⟩,
  ⟨(some 69), .pick (.tmp 63) (.tmp 68) (.const (.bool false)), none⟩]) (.cond (.tmp 69) (.seq (.region .txt [⟨(some 70), .mv (.tmp 7), none⟩,
  ⟨(some 2), .mv (.tmp 70), none⟩,
  ⟨(some 3), .mv (.const (.int .i64 33)), none⟩]) .ret) .skip))))) (.region .txt [⟨(some 71), .arith .add .i64 (.tmp 40) (.const (.int .i64 1)), none⟩,
  ⟨(some 40), .mv (.tmp 71), none⟩]))))))) (.seq (.seq (.region .txt [⟨(some 72), .mv (.tmp 0), none⟩,
  ⟨(some 73), .nilck (.tmp 72), none⟩,
  ⟨(some 74), .fldA 0 (.tmp 73), none⟩,
  ⟨(some 75), .fldA 8 (.tmp 74), none⟩,
  ⟨(some 76), .ld (.slice) (.tmp 75), none⟩,
  ⟨(some 77), .len (.tmp 76), none⟩,
  ⟨(some 78), .mv (.const (.int .i64 0)), none⟩]) (.block 4 (.loop [(78, .int .i64)] [79, 80, 81, 82, 11, 10, 83, 84, 85, 86, 87, 88, 12, 89, 90, 91, 92, 2, 3, 93, 78] (.seq (.region .txt [⟨(some 79), .icmp .lss .i64 (.tmp 78) (.tmp 77), none⟩]) (.seq (.cond (.tmp 79) .skip (.exit 4)) (.seq (.block 5 (.seq (.region .txt [⟨(some 80), .mv (.tmp 78), none⟩,
  ⟨(some 81), .idxA 3 (.tmp 76) (.tmp 78), none⟩,
  ⟨(some 82), .ldn [.int .i64, .int .i64, .int .i64] (.tmp 81), none⟩,
  ⟨(some 11), .alloc 82 (.agg #[(.int .i64 0), (.int .i64 0), (.int .i64 0)]), none⟩,
  ⟨(some 10), .mv (.tmp 80), none⟩,
  ⟨none, .st 3 (.tmp 11) (.tmp 82), none⟩]) (.seq (.region .txt [⟨(some 83), .mv (.tmp 0), none⟩,
  ⟨(some 84), .fldA 0 (.tmp 11), none⟩,
  ⟨(some 85), .ld (.int .i64) (.tmp 84), none⟩,
  ⟨(some 86), .mv (.tmp 10), none⟩,
  ⟨(some 87), .mkAgg #[(.int .i64 0), (.int .i64 0)] [(0, 1, (.const (.int .i64 3))), (1, 1, (.tmp 86))], none⟩,
  ⟨(some 88), .call 149 [(.tmp 83), (.tmp 85), (.tmp 87)] (.val (.one (.int .i64))), none⟩,
  ⟨(some 12), .mv (.tmp 88), none⟩]) (.seq (.region .txt [⟨(some 89), .mv (.tmp 12), none⟩,
  ⟨(some 90), .icmp .neq .i64 (.tmp 89) (.const (.int .i64 0)), none⟩]) (.cond (.tmp 90) (.seq (.region .txt [⟨(some 91), .mv (.tmp 10), none⟩,
  ⟨(some 92), .mv (.tmp 12), none⟩,
  ⟨(some 2), .mv (.tmp 91), none⟩,
  ⟨(some 3), .mv (.tmp 92), none⟩]) .ret) .skip))))) (.region .txt [⟨(some 93), .arith .add .i64 (.tmp 78) (.const (.int .i64 1)), none⟩,
  ⟨(some 78), .mv (.tmp 93), none⟩]))))))) (.seq (.region .txt [⟨(some 2), .mv (.const (.int .i64 0)), none⟩,
  ⟨(some 3), .mv (.const (.int .i64 0)), none⟩]) .ret)))))
def loops108 : List (List (Nat × Shp)) := [[(19, .int .i64)], [(40, .int .i64)], [(78, .int .i64)]]
def ret108 : List RV := [.tmp 2, .tmp 3]
theorem comp108 : compF Try.prog Try.f108 loops108 = some (94, ret108, code108) := by kernel_rfl
def J108_1  (P : Program) (R : Value → Heap → Prop) (k : (Option Addr)) (A : (Option Addr)) (N : Nat) (t : Int) (next_ : (Int → Heap → Prop)) (h_1 : Heap) : Prop :=
 0 ≤ (t : Int) ∧ (t : Int) < (N : Nat) ∧ AtP A fun ad1 => ∃ (t1 : Int), cellH h_1 (Addr.add ad1 (Int.toNat t * 1)) = some (.int .i64 t1) ∧ CallsH P 149 #[(.pointer k), (.int .i64 t1), (.agg #[(.int .i64 1), (.int .i64 t)])] h_1 fun v h_2 =>
 ∃ (t2 : Int), v = (.int .i64 t2) ∧ PIf ((t2 : Int) = 0)
 (next_ ((IntKind.wrap .i64 (t + 1))) h_2)
 (R (.tuple #[(.int .i64 t), (.int .i64 t2)]) h_2)
def J108_5  (R : Value → Heap → Prop) (t3 : Int) (next_1 : (Int → Heap → Prop)) (h_5 : Heap) (h_9 : Heap) : Prop :=
 ∃ (t9 : Int), cellH h_9 (Addr.add (Addr.mk (h_5).size 0 none) 2) = some (.int .i64 t9) ∧ PIf ((t9 : Int) = 0)
 (next_1 ((IntKind.wrap .i64 (t3 + 1))) h_9)
 (∃ (t10 : Int), cellH h_9 (Addr.add (Addr.mk (h_5).size 0 none) 2) = some (.int .i64 t10) ∧ PIf ((t10 : Int) = 1)
 (next_1 ((IntKind.wrap .i64 (t3 + 1))) h_9)
 (∃ (t11 : Int), cellH h_9 (Addr.add (Addr.mk (h_5).size 0 none) 2) = some (.int .i64 t11) ∧ ∃ (t12 : Int), cellH h_9 (Addr.add (Addr.mk (h_5).size 0 none) 0) = some (.int .i64 t12) ∧ PIf ((t11 : Int) = t12)
 (next_1 ((IntKind.wrap .i64 (t3 + 1))) h_9)
 (R (.tuple #[(.int .i64 t3), (.int .i64 33)]) h_9)))
def J108_4  (P : Program) (R : Value → Heap → Prop) (k : (Option Addr)) (A1 : (Option Addr)) (N1 : Nat) (t3 : Int) (next_1 : (Int → Heap → Prop)) (h_5 : Heap) : Prop :=
 0 ≤ (t3 : Int) ∧ (t3 : Int) < (N1 : Nat) ∧ AtP A1 fun ad3 => ∃ (t4 : Int), ∃ (t5 : Int), ∃ (t6 : Int), cellsH h_5 (Addr.add ad3 (Int.toNat t3 * 3)) 0 [(.int .i64 t4), (.int .i64 t5), (.int .i64 t6)] ∧ let h_6 : Heap := (h_5).push (.cells #[(.int .i64 0), (.int .i64 0), (.int .i64 0)] 80); StoreH h_6 (Addr.mk (h_5).size 0 none) [(.int .i64 t4), (.int .i64 t5), (.int .i64 t6)] fun h_7 => ∃ (t7 : Int), cellH h_7 (Addr.add (Addr.mk (h_5).size 0 none) 0) = some (.int .i64 t7) ∧ CallsH P 149 #[(.pointer k), (.int .i64 t7), (.agg #[(.int .i64 2), (.int .i64 t3)])] h_7 fun v1 h_8 =>
 ∃ (t8 : Int), v1 = (.int .i64 t8) ∧ PIf ((t8 : Int) = 0)
 (J108_5 R t3 next_1 h_5 h_8)
 (R (.tuple #[(.int .i64 t3), (.int .i64 t8)]) h_8)
def J108_8  (P : Program) (R : Value → Heap → Prop) (k : (Option Addr)) (A2 : (Option Addr)) (N2 : Nat) (t13 : Int) (next_2 : (Int → Heap → Prop)) (h_12 : Heap) : Prop :=
 0 ≤ (t13 : Int) ∧ (t13 : Int) < (N2 : Nat) ∧ AtP A2 fun ad5 => ∃ (t14 : Int), ∃ (t15 : Int), ∃ (t16 : Int), cellsH h_12 (Addr.add ad5 (Int.toNat t13 * 3)) 0 [(.int .i64 t14), (.int .i64 t15), (.int .i64 t16)] ∧ let h_13 : Heap := (h_12).push (.cells #[(.int .i64 0), (.int .i64 0), (.int .i64 0)] 82); StoreH h_13 (Addr.mk (h_12).size 0 none) [(.int .i64 t14), (.int .i64 t15), (.int .i64 t16)] fun h_14 => ∃ (t17 : Int), cellH h_14 (Addr.add (Addr.mk (h_12).size 0 none) 0) = some (.int .i64 t17) ∧ CallsH P 149 #[(.pointer k), (.int .i64 t17), (.agg #[(.int .i64 3), (.int .i64 t13)])] h_14 fun v2 h_15 =>
 ∃ (t18 : Int), v2 = (.int .i64 t18) ∧ PIf ((t18 : Int) = 0)
 (next_2 ((IntKind.wrap .i64 (t13 + 1))) h_15)
 (R (.tuple #[(.int .i64 t13), (.int .i64 t18)]) h_15)
def J108_7  (R : Value → Heap → Prop) (h_16 : Heap) : Prop :=
 R (.tuple #[(.int .i64 0), (.int .i64 0)]) h_16
def B108_10 (P : Program) (R : Value → Heap → Prop) (k : (Option Addr)) (A2 : (Option Addr)) (N2 : Nat) (t13 : Int) (h_11 : Heap) (next_2 : Int → Heap → Prop) : Prop :=
 PIf ((t13 : Int) < ((N2 : Nat) : Int))
 (J108_8 P R k A2 N2 t13 next_2 h_11)
 (J108_7 R h_11)
def J108_3  (P : Program) (R : Value → Heap → Prop) (k : (Option Addr)) (h_10 : Heap) : Prop :=
 AtP k fun ad4 => ∃ (A2 : Option Addr), ∃ (N2 : Nat), ∃ (C2 : Nat), cellH h_10 (Addr.add (Addr.add ad4 0) 8) = some (.slice A2 N2 C2) ∧ LoopT (σ := Int) (fun st_ h_st nx_st => B108_10 P R k A2 N2 (st_) h_st nx_st) (0) h_10
def B108_11 (P : Program) (R : Value → Heap → Prop) (k : (Option Addr)) (A1 : (Option Addr)) (N1 : Nat) (t3 : Int) (h_4 : Heap) (next_1 : Int → Heap → Prop) : Prop :=
 PIf ((t3 : Int) < ((N1 : Nat) : Int))
 (J108_4 P R k A1 N1 t3 next_1 h_4)
 (J108_3 P R k h_4)
def J108_0  (P : Program) (R : Value → Heap → Prop) (k : (Option Addr)) (h_3 : Heap) : Prop :=
 AtP k fun ad2 => ∃ (A1 : Option Addr), ∃ (N1 : Nat), ∃ (C1 : Nat), cellH h_3 (Addr.add (Addr.add ad2 0) 2) = some (.slice A1 N1 C1) ∧ LoopT (σ := Int) (fun st_ h_st nx_st => B108_11 P R k A1 N1 (st_) h_st nx_st) (0) h_3
def B108_12 (P : Program) (R : Value → Heap → Prop) (k : (Option Addr)) (A : (Option Addr)) (N : Nat) (t : Int) (h_ : Heap) (next_ : Int → Heap → Prop) : Prop :=
 PIf ((t : Int) < ((N : Nat) : Int))
 (J108_1 P R k A N t next_ h_)
 (J108_0 P R k h_)
def VC108 (P : Program) (k : Option Addr) (R : Value → Heap → Prop) (h : Heap) : Prop :=
 AtP k fun ad => ∃ (A : Option Addr), ∃ (N : Nat), ∃ (C : Nat), cellH h (Addr.add (Addr.add ad 0) 1) = some (.slice A N C) ∧ LoopT (σ := Int) (fun st_ h_st nx_st => B108_12 P R k A N (st_) h_st nx_st) (0) h
theorem vc108 (P : Program) (k : Option Addr) (R : Value → Heap → Prop) (h : Heap) : fnC P ret108 code108 [(.pointer k)] h R = VC108 P k R h := by kernel_rfl
theorem run108 (k : Option Addr) (R : Value → Heap → Prop) (h : Heap) (hv : VC108 Try.prog k R h) : CallsH Try.prog 108 #[(.pointer k)] h R := calls_of_fnC (Checked.mixed Try.checked) Try.func108 comp108 (Nat.le_of_ble_eq_true rfl) (by rw [vc108]; exact hv)

/-! 109: (*trestle/shape.looker).uses -/
def code109 : SCode := (.seq (.region .txt [⟨(some 2), .mv (.const (.int .i64 0)), none⟩,
  ⟨(some 3), .mv (.const (.int .i64 0)), none⟩]) (.seq (.seq (.region .txt [⟨(some 21), .mv (.tmp 0), none⟩,
  ⟨(some 22), .nilck (.tmp 21), none⟩,
  ⟨(some 23), .fldA 0 (.tmp 22), none⟩,
  ⟨(some 24), .fldA 2 (.tmp 23), none⟩,
  ⟨(some 25), .ld (.slice) (.tmp 24), none⟩,
  ⟨(some 26), .len (.tmp 25), none⟩,
  ⟨(some 27), .mv (.const (.int .i64 0)), none⟩]) (.block 0 (.loop [(27, .int .i64)] [28, 29, 30, 31, 5, 4, 32, 33, 34, 35, 36, 6, 37, 38, 39, 40, 2, 3, 41, 27] (.seq (.region .txt [⟨(some 28), .icmp .lss .i64 (.tmp 27) (.tmp 26), none⟩]) (.seq (.cond (.tmp 28) .skip (.exit 0)) (.seq (.block 1 (.seq (.region .txt [⟨(some 29), .mv (.tmp 27), none⟩,
  ⟨(some 30), .idxA 3 (.tmp 25) (.tmp 27), none⟩,
  ⟨(some 31), .ldn [.int .i64, .int .i64, .int .i64] (.tmp 30), none⟩,
  ⟨(some 5), .alloc 80 (.agg #[(.int .i64 0), (.int .i64 0), (.int .i64 0)]), none⟩,
  ⟨(some 4), .mv (.tmp 29), none⟩,
  ⟨none, .st 3 (.tmp 5) (.tmp 31), none⟩]) (.seq (.region .txt [⟨(some 32), .mv (.tmp 0), none⟩,
  ⟨(some 33), .fldA 1 (.tmp 5), none⟩,
  ⟨(some 34), .ld (.int .i64) (.tmp 33), none⟩,
  ⟨(some 35), .lit 3 1 #[(.int .i64 0)] [(0, 1, (.tmp 34))], none⟩,
  ⟨(some 36), .call 150 [(.tmp 32), (.tmp 35)] (.val (.one (.int .i64))), none⟩,
  ⟨(some 6), .mv (.tmp 36), none⟩]) (.seq (.region .txt [⟨(some 37), .mv (.tmp 6), none⟩,
  ⟨(some 38), .icmp .neq .i64 (.tmp 37) (.const (.int .i64 0)), none⟩]) (.cond (.tmp 38) (.seq (.region .txt [⟨(some 39), .mv (.tmp 4), none⟩,
  ⟨(some 40), .mv (.tmp 6), none⟩,
  ⟨(some 2), .mv (.tmp 39), none⟩,
  ⟨(some 3), .mv (.tmp 40), none⟩]) .ret) .skip))))) (.region .txt [⟨(some 41), .arith .add .i64 (.tmp 27) (.const (.int .i64 1)), none⟩,
  ⟨(some 27), .mv (.tmp 41), none⟩]))))))) (.seq (.seq (.region .txt [⟨(some 42), .mv (.tmp 0), none⟩,
  ⟨(some 43), .nilck (.tmp 42), none⟩,
  ⟨(some 44), .fldA 0 (.tmp 43), none⟩,
  ⟨(some 45), .fldA 3 (.tmp 44), none⟩,
  ⟨(some 46), .ld (.slice) (.tmp 45), none⟩,
  ⟨(some 47), .mv (.tmp 0), none⟩,
  ⟨(some 48), .nilck (.tmp 47), none⟩,
  ⟨(some 49), .fldA 0 (.tmp 48), none⟩,
  ⟨(some 50), .fldA 4 (.tmp 49), none⟩,
  ⟨(some 51), .ld (.slice) (.tmp 50), none⟩,
  ⟨(some 52), .mv (.tmp 0), none⟩,
  ⟨(some 53), .nilck (.tmp 52), none⟩,
  ⟨(some 54), .fldA 0 (.tmp 53), none⟩,
  ⟨(some 55), .fldA 5 (.tmp 54), none⟩,
  ⟨(some 56), .ld (.slice) (.tmp 55), none⟩,
  ⟨(some 57), .lit 22 3 #[(.slice none 0 0)] [(0, 1, (.tmp 46)), (1, 1, (.tmp 51)), (2, 1, (.tmp 56))], none⟩,
  ⟨(some 58), .len (.tmp 57), none⟩,
  ⟨(some 59), .mv (.const (.int .i64 0)), none⟩]) (.block 2 (.loop [(59, .int .i64)] [60, 61, 62, 8, 63, 64, 65, 66, 67, 68, 69, 9, 10, 70, 71, 72, 73, 11, 74, 75, 76, 77, 2, 3, 78, 65, 79, 59] (.seq (.region .txt [⟨(some 60), .icmp .lss .i64 (.tmp 59) (.tmp 58), none⟩]) (.seq (.cond (.tmp 60) .skip (.exit 2)) (.seq (.block 3 (.seq (.region .txt [⟨(some 61), .idxA 1 (.tmp 57) (.tmp 59), none⟩,
  ⟨(some 62), .ld (.slice) (.tmp 61), none⟩,
  ⟨(some 8), .mv (.tmp 62), none⟩]) (.seq (.region .txt [⟨(some 63), .mv (.tmp 8), none⟩,
  ⟨(some 64), .len (.tmp 63), none⟩,
  ⟨(some 65), .mv (.const (.int .i64 0)), none⟩]) (.block 4 (.loop [(65, .int .i64)] [66, 67, 68, 69, 9, 10, 70, 71, 72, 73, 11, 74, 75, 76, 77, 2, 3, 78, 65] (.seq (.region .txt [⟨(some 66), .icmp .lss .i64 (.tmp 65) (.tmp 64), none⟩]) (.seq (.cond (.tmp 66) .skip (.exit 4)) (.seq (.block 5 (.seq (.region .txt [⟨(some 67), .mv (.tmp 65), none⟩,
  ⟨(some 68), .idxA 1 (.tmp 63) (.tmp 65), none⟩,
  ⟨(some 69), .ld (.int .i64) (.tmp 68), none⟩,
  ⟨(some 9), .mv (.tmp 67), none⟩,
  ⟨(some 10), .mv (.tmp 69), none⟩]) (.seq (.region .txt [⟨(some 70), .mv (.tmp 0), none⟩,
  ⟨(some 71), .mv (.tmp 10), none⟩,
  ⟨(some 72), .lit 3 1 #[(.int .i64 0)] [(0, 1, (.tmp 71))], none⟩,
  ⟨(some 73), .call 150 [(.tmp 70), (.tmp 72)] (.val (.one (.int .i64))), none⟩,
  ⟨(some 11), .mv (.tmp 73), none⟩]) (.seq (.region .txt [⟨(some 74), .mv (.tmp 11), none⟩,
  ⟨(some 75), .icmp .neq .i64 (.tmp 74) (.const (.int .i64 0)), none⟩]) (.cond (.tmp 75) (.seq (.region .txt [⟨(some 76), .mv (.tmp 9), none⟩,
  ⟨(some 77), .mv (.tmp 11), none⟩,
  ⟨(some 2), .mv (.tmp 76), none⟩,
  ⟨(some 3), .mv (.tmp 77), none⟩]) .ret) .skip))))) (.region .txt [⟨(some 78), .arith .add .i64 (.tmp 65) (.const (.int .i64 1)), none⟩,
  ⟨(some 65), .mv (.tmp 78), none⟩]))))))))) (.region .txt [⟨(some 79), .arith .add .i64 (.tmp 59) (.const (.int .i64 1)), none⟩,
  ⟨(some 59), .mv (.tmp 79), none⟩]))))))) (.seq (.seq (.region .txt [⟨(some 80), .mv (.tmp 0), none⟩,
  ⟨(some 81), .nilck (.tmp 80), none⟩,
  ⟨(some 82), .fldA 0 (.tmp 81), none⟩,
  ⟨(some 83), .fldA 6 (.tmp 82), none⟩,
  ⟨(some 84), .ld (.slice) (.tmp 83), none⟩,
  ⟨(some 85), .len (.tmp 84), none⟩,
  ⟨(some 86), .mv (.const (.int .i64 0)), none⟩]) (.block 6 (.loop [(86, .int .i64)] [87, 88, 89, 90, 12, 13, 91, 92, 93, 14, 94, 95, 96, 97, 2, 3, 98, 86] (.seq (.region .txt [⟨(some 87), .icmp .lss .i64 (.tmp 86) (.tmp 85), none⟩]) (.seq (.cond (.tmp 87) .skip (.exit 6)) (.seq (.block 7 (.seq (.region .txt [⟨(some 88), .mv (.tmp 86), none⟩,
  ⟨(some 89), .idxA 1 (.tmp 84) (.tmp 86), none⟩,
  ⟨(some 90), .ld (.slice) (.tmp 89), none⟩,
  ⟨(some 12), .mv (.tmp 88), none⟩,
  ⟨(some 13), .mv (.tmp 90), none⟩]) (.seq (.region .txt [⟨(some 91), .mv (.tmp 0), none⟩,
  ⟨(some 92), .mv (.tmp 13), none⟩,
  ⟨(some 93), .call 150 [(.tmp 91), (.tmp 92)] (.val (.one (.int .i64))), none⟩,
  ⟨(some 14), .mv (.tmp 93), none⟩]) (.seq (.region .txt [⟨(some 94), .mv (.tmp 14), none⟩,
  ⟨(some 95), .icmp .neq .i64 (.tmp 94) (.const (.int .i64 0)), none⟩]) (.cond (.tmp 95) (.seq (.region .txt [⟨(some 96), .mv (.tmp 12), none⟩,
  ⟨(some 97), .mv (.tmp 14), none⟩,
  ⟨(some 2), .mv (.tmp 96), none⟩,
  ⟨(some 3), .mv (.tmp 97), none⟩]) .ret) .skip))))) (.region .txt [⟨(some 98), .arith .add .i64 (.tmp 86) (.const (.int .i64 1)), none⟩,
  ⟨(some 86), .mv (.tmp 98), none⟩]))))))) (.seq (.seq (.region .txt [⟨(some 99), .mv (.tmp 0), none⟩,
  ⟨(some 100), .nilck (.tmp 99), none⟩,
  ⟨(some 101), .fldA 0 (.tmp 100), none⟩,
  ⟨(some 102), .fldA 7 (.tmp 101), none⟩,
  ⟨(some 103), .ld (.slice) (.tmp 102), none⟩,
  ⟨(some 104), .len (.tmp 103), none⟩,
  ⟨(some 105), .mv (.const (.int .i64 0)), none⟩]) (.block 8 (.loop [(105, .int .i64)] [106, 107, 108, 109, 15, 16, 110, 111, 112, 113, 17, 114, 115, 116, 117, 2, 3, 118, 105] (.seq (.region .txt [⟨(some 106), .icmp .lss .i64 (.tmp 105) (.tmp 104), none⟩]) (.seq (.cond (.tmp 106) .skip (.exit 8)) (.seq (.block 9 (.seq (.region .txt [⟨(some 107), .mv (.tmp 105), none⟩,
  ⟨(some 108), .idxA 1 (.tmp 103) (.tmp 105), none⟩,
  ⟨(some 109), .ld (.int .i64) (.tmp 108), none⟩,
  ⟨(some 15), .mv (.tmp 107), none⟩,
  ⟨(some 16), .mv (.tmp 109), none⟩]) (.seq (.region .txt [⟨(some 110), .mv (.tmp 0), none⟩,
  ⟨(some 111), .mv (.tmp 16), none⟩,
  ⟨(some 112), .lit 3 1 #[(.int .i64 0)] [(0, 1, (.tmp 111))], none⟩,
  ⟨(some 113), .call 150 [(.tmp 110), (.tmp 112)] (.val (.one (.int .i64))), none⟩,
  ⟨(some 17), .mv (.tmp 113), none⟩]) (.seq (.region .txt [⟨(some 114), .mv (.tmp 17), none⟩,
  ⟨(some 115), .icmp .neq .i64 (.tmp 114) (.const (.int .i64 0)), none⟩]) (.cond (.tmp 115) (.seq (.region .txt [⟨(some 116), .mv (.tmp 15), none⟩,
  ⟨(some 117), .mv (.tmp 17), none⟩,
  ⟨(some 2), .mv (.tmp 116), none⟩,
  ⟨(some 3), .mv (.tmp 117), none⟩]) .ret) .skip))))) (.region .txt [⟨(some 118), .arith .add .i64 (.tmp 105) (.const (.int .i64 1)), none⟩,
  ⟨(some 105), .mv (.tmp 118), none⟩]))))))) (.seq (.seq (.region .txt [⟨(some 119), .mv (.tmp 0), none⟩,
  ⟨(some 120), .nilck (.tmp 119), none⟩,
  ⟨(some 121), .fldA 0 (.tmp 120), none⟩,
  ⟨(some 122), .fldA 8 (.tmp 121), none⟩,
  ⟨(some 123), .ld (.slice) (.tmp 122), none⟩,
  ⟨(some 124), .len (.tmp 123), none⟩,
  ⟨(some 125), .mv (.const (.int .i64 0)), none⟩]) (.block 10 (.loop [(125, .int .i64)] [126, 127, 128, 129, 19, 18, 130, 131, 132, 133, 134, 135, 136, 20, 137, 138, 139, 140, 2, 3, 141, 125] (.seq (.region .txt [⟨(some 126), .icmp .lss .i64 (.tmp 125) (.tmp 124), none⟩]) (.seq (.cond (.tmp 126) .skip (.exit 10)) (.seq (.block 11 (.seq (.region .txt [⟨(some 127), .mv (.tmp 125), none⟩,
  ⟨(some 128), .idxA 3 (.tmp 123) (.tmp 125), none⟩,
  ⟨(some 129), .ldn [.int .i64, .int .i64, .int .i64] (.tmp 128), none⟩,
  ⟨(some 19), .alloc 82 (.agg #[(.int .i64 0), (.int .i64 0), (.int .i64 0)]), none⟩,
  ⟨(some 18), .mv (.tmp 127), none⟩,
  ⟨none, .st 3 (.tmp 19) (.tmp 129), none⟩]) (.seq (.region .txt [⟨(some 130), .mv (.tmp 0), none⟩,
  ⟨(some 131), .fldA 1 (.tmp 19), none⟩,
  ⟨(some 132), .ld (.int .i64) (.tmp 131), none⟩,
  ⟨(some 133), .fldA 2 (.tmp 19), none⟩,
  ⟨(some 134), .ld (.int .i64) (.tmp 133), none⟩,
  ⟨(some 135), .lit 3 2 #[(.int .i64 0)] [(0, 1, (.tmp 132)), (1, 1, (.tmp 134))], none⟩,
  ⟨(some 136), .call 150 [(.tmp 130), (.tmp 135)] (.val (.one (.int .i64))), none⟩,
  ⟨(some 20), .mv (.tmp 136), none⟩]) (.seq (.region .txt [⟨(some 137), .mv (.tmp 20), none⟩,
  ⟨(some 138), .icmp .neq .i64 (.tmp 137) (.const (.int .i64 0)), none⟩]) (.cond (.tmp 138) (.seq (.region .txt [⟨(some 139), .mv (.tmp 18), none⟩,
  ⟨(some 140), .mv (.tmp 20), none⟩,
  ⟨(some 2), .mv (.tmp 139), none⟩,
  ⟨(some 3), .mv (.tmp 140), none⟩]) .ret) .skip))))) (.region .txt [⟨(some 141), .arith .add .i64 (.tmp 125) (.const (.int .i64 1)), none⟩,
  ⟨(some 125), .mv (.tmp 141), none⟩]))))))) (.seq (.region .txt [⟨(some 2), .mv (.const (.int .i64 0)), none⟩,
  ⟨(some 3), .mv (.const (.int .i64 0)), none⟩]) .ret)))))))
def loops109 : List (List (Nat × Shp)) := [[(27, .int .i64)], [(59, .int .i64)], [(65, .int .i64)], [(86, .int .i64)], [(105, .int .i64)], [(125, .int .i64)]]
def ret109 : List RV := [.tmp 2, .tmp 3]
theorem comp109 : compF Try.prog Try.f109 loops109 = some (142, ret109, code109) := by kernel_rfl
def J109_1  (P : Program) (R : Value → Heap → Prop) (k : (Option Addr)) (A : (Option Addr)) (N : Nat) (t : Int) (next_ : (Int → Heap → Prop)) (h_1 : Heap) : Prop :=
 0 ≤ (t : Int) ∧ (t : Int) < (N : Nat) ∧ AtP A fun ad1 => ∃ (t1 : Int), ∃ (t2 : Int), ∃ (t3 : Int), cellsH h_1 (Addr.add ad1 (Int.toNat t * 3)) 0 [(.int .i64 t1), (.int .i64 t2), (.int .i64 t3)] ∧ let h_2 : Heap := (h_1).push (.cells #[(.int .i64 0), (.int .i64 0), (.int .i64 0)] 80); StoreH h_2 (Addr.mk (h_1).size 0 none) [(.int .i64 t1), (.int .i64 t2), (.int .i64 t3)] fun h_3 => ∃ (t4 : Int), cellH h_3 (Addr.add (Addr.mk (h_1).size 0 none) 1) = some (.int .i64 t4) ∧ let h_4 : Heap := (h_3).push (.cells #[(.int .i64 t4)] 3); CallsH P 150 #[(.pointer k), (.slice (some (Addr.mk (h_3).size 0 none)) 1 1)] h_4 fun v h_5 =>
 ∃ (t5 : Int), v = (.int .i64 t5) ∧ PIf ((t5 : Int) = 0)
 (next_ ((IntKind.wrap .i64 (t + 1))) h_5)
 (R (.tuple #[(.int .i64 t), (.int .i64 t5)]) h_5)
def J109_6  (P : Program) (R : Value → Heap → Prop) (k : (Option Addr)) (A4 : (Option Addr)) (N4 : Nat) (t7 : Int) (next_2 : (Int → Heap → Prop)) (h_11 : Heap) : Prop :=
 0 ≤ (t7 : Int) ∧ (t7 : Int) < (N4 : Nat) ∧ AtP A4 fun ad5 => ∃ (t8 : Int), cellH h_11 (Addr.add ad5 (Int.toNat t7 * 1)) = some (.int .i64 t8) ∧ let h_12 : Heap := (h_11).push (.cells #[(.int .i64 t8)] 3); CallsH P 150 #[(.pointer k), (.slice (some (Addr.mk (h_11).size 0 none)) 1 1)] h_12 fun v1 h_13 =>
 ∃ (t9 : Int), v1 = (.int .i64 t9) ∧ PIf ((t9 : Int) = 0)
 (next_2 ((IntKind.wrap .i64 (t7 + 1))) h_13)
 (R (.tuple #[(.int .i64 t7), (.int .i64 t9)]) h_13)
def J109_5  (t6 : Int) (next_1 : (Int → Heap → Prop)) (h_14 : Heap) : Prop :=
 next_1 ((IntKind.wrap .i64 (t6 + 1))) h_14
def B109_8 (P : Program) (R : Value → Heap → Prop) (k : (Option Addr)) (t6 : Int) (next_1 : (Int → Heap → Prop)) (A4 : (Option Addr)) (N4 : Nat) (t7 : Int) (h_10 : Heap) (next_2 : Int → Heap → Prop) : Prop :=
 PIf ((t7 : Int) < ((N4 : Nat) : Int))
 (J109_6 P R k A4 N4 t7 next_2 h_10)
 (J109_5 t6 next_1 h_10)
def J109_4  (P : Program) (R : Value → Heap → Prop) (k : (Option Addr)) (h_6 : Heap) (t6 : Int) (next_1 : (Int → Heap → Prop)) (h_9 : Heap) : Prop :=
 0 ≤ (t6 : Int) ∧ (t6 : Int) < (3 : Nat) ∧ ∃ (A4 : Option Addr), ∃ (N4 : Nat), ∃ (C4 : Nat), cellH h_9 (Addr.add (Addr.mk (h_6).size 0 none) (Int.toNat t6 * 1)) = some (.slice A4 N4 C4) ∧ LoopT (σ := Int) (fun st_ h_st nx_st => B109_8 P R k t6 next_1 A4 N4 (st_) h_st nx_st) (0) h_9
def J109_11  (P : Program) (R : Value → Heap → Prop) (k : (Option Addr)) (A5 : (Option Addr)) (N5 : Nat) (t10 : Int) (next_3 : (Int → Heap → Prop)) (h_17 : Heap) : Prop :=
 0 ≤ (t10 : Int) ∧ (t10 : Int) < (N5 : Nat) ∧ AtP A5 fun ad7 => ∃ (A6 : Option Addr), ∃ (N6 : Nat), ∃ (C6 : Nat), cellH h_17 (Addr.add ad7 (Int.toNat t10 * 1)) = some (.slice A6 N6 C6) ∧ CallsH P 150 #[(.pointer k), (.slice A6 N6 C6)] h_17 fun v2 h_18 =>
 ∃ (t11 : Int), v2 = (.int .i64 t11) ∧ PIf ((t11 : Int) = 0)
 (next_3 ((IntKind.wrap .i64 (t10 + 1))) h_18)
 (R (.tuple #[(.int .i64 t10), (.int .i64 t11)]) h_18)
def J109_14  (P : Program) (R : Value → Heap → Prop) (k : (Option Addr)) (A7 : (Option Addr)) (N7 : Nat) (t12 : Int) (next_4 : (Int → Heap → Prop)) (h_21 : Heap) : Prop :=
 0 ≤ (t12 : Int) ∧ (t12 : Int) < (N7 : Nat) ∧ AtP A7 fun ad9 => ∃ (t13 : Int), cellH h_21 (Addr.add ad9 (Int.toNat t12 * 1)) = some (.int .i64 t13) ∧ let h_22 : Heap := (h_21).push (.cells #[(.int .i64 t13)] 3); CallsH P 150 #[(.pointer k), (.slice (some (Addr.mk (h_21).size 0 none)) 1 1)] h_22 fun v3 h_23 =>
 ∃ (t14 : Int), v3 = (.int .i64 t14) ∧ PIf ((t14 : Int) = 0)
 (next_4 ((IntKind.wrap .i64 (t12 + 1))) h_23)
 (R (.tuple #[(.int .i64 t12), (.int .i64 t14)]) h_23)
def J109_17  (P : Program) (R : Value → Heap → Prop) (k : (Option Addr)) (A8 : (Option Addr)) (N8 : Nat) (t15 : Int) (next_5 : (Int → Heap → Prop)) (h_26 : Heap) : Prop :=
 0 ≤ (t15 : Int) ∧ (t15 : Int) < (N8 : Nat) ∧ AtP A8 fun ad11 => ∃ (t16 : Int), ∃ (t17 : Int), ∃ (t18 : Int), cellsH h_26 (Addr.add ad11 (Int.toNat t15 * 3)) 0 [(.int .i64 t16), (.int .i64 t17), (.int .i64 t18)] ∧ let h_27 : Heap := (h_26).push (.cells #[(.int .i64 0), (.int .i64 0), (.int .i64 0)] 82); StoreH h_27 (Addr.mk (h_26).size 0 none) [(.int .i64 t16), (.int .i64 t17), (.int .i64 t18)] fun h_28 => ∃ (t19 : Int), cellH h_28 (Addr.add (Addr.mk (h_26).size 0 none) 1) = some (.int .i64 t19) ∧ ∃ (t20 : Int), cellH h_28 (Addr.add (Addr.mk (h_26).size 0 none) 2) = some (.int .i64 t20) ∧ let h_29 : Heap := (h_28).push (.cells #[(.int .i64 t19), (.int .i64 t20)] 3); CallsH P 150 #[(.pointer k), (.slice (some (Addr.mk (h_28).size 0 none)) 2 2)] h_29 fun v4 h_30 =>
 ∃ (t21 : Int), v4 = (.int .i64 t21) ∧ PIf ((t21 : Int) = 0)
 (next_5 ((IntKind.wrap .i64 (t15 + 1))) h_30)
 (R (.tuple #[(.int .i64 t15), (.int .i64 t21)]) h_30)
def J109_16  (R : Value → Heap → Prop) (h_31 : Heap) : Prop :=
 R (.tuple #[(.int .i64 0), (.int .i64 0)]) h_31
def B109_19 (P : Program) (R : Value → Heap → Prop) (k : (Option Addr)) (A8 : (Option Addr)) (N8 : Nat) (t15 : Int) (h_25 : Heap) (next_5 : Int → Heap → Prop) : Prop :=
 PIf ((t15 : Int) < ((N8 : Nat) : Int))
 (J109_17 P R k A8 N8 t15 next_5 h_25)
 (J109_16 R h_25)
def J109_13  (P : Program) (R : Value → Heap → Prop) (k : (Option Addr)) (h_24 : Heap) : Prop :=
 AtP k fun ad10 => ∃ (A8 : Option Addr), ∃ (N8 : Nat), ∃ (C8 : Nat), cellH h_24 (Addr.add (Addr.add ad10 0) 8) = some (.slice A8 N8 C8) ∧ LoopT (σ := Int) (fun st_ h_st nx_st => B109_19 P R k A8 N8 (st_) h_st nx_st) (0) h_24
def B109_20 (P : Program) (R : Value → Heap → Prop) (k : (Option Addr)) (A7 : (Option Addr)) (N7 : Nat) (t12 : Int) (h_20 : Heap) (next_4 : Int → Heap → Prop) : Prop :=
 PIf ((t12 : Int) < ((N7 : Nat) : Int))
 (J109_14 P R k A7 N7 t12 next_4 h_20)
 (J109_13 P R k h_20)
def J109_10  (P : Program) (R : Value → Heap → Prop) (k : (Option Addr)) (h_19 : Heap) : Prop :=
 AtP k fun ad8 => ∃ (A7 : Option Addr), ∃ (N7 : Nat), ∃ (C7 : Nat), cellH h_19 (Addr.add (Addr.add ad8 0) 7) = some (.slice A7 N7 C7) ∧ LoopT (σ := Int) (fun st_ h_st nx_st => B109_20 P R k A7 N7 (st_) h_st nx_st) (0) h_19
def B109_21 (P : Program) (R : Value → Heap → Prop) (k : (Option Addr)) (A5 : (Option Addr)) (N5 : Nat) (t10 : Int) (h_16 : Heap) (next_3 : Int → Heap → Prop) : Prop :=
 PIf ((t10 : Int) < ((N5 : Nat) : Int))
 (J109_11 P R k A5 N5 t10 next_3 h_16)
 (J109_10 P R k h_16)
def J109_3  (P : Program) (R : Value → Heap → Prop) (k : (Option Addr)) (h_15 : Heap) : Prop :=
 AtP k fun ad6 => ∃ (A5 : Option Addr), ∃ (N5 : Nat), ∃ (C5 : Nat), cellH h_15 (Addr.add (Addr.add ad6 0) 6) = some (.slice A5 N5 C5) ∧ LoopT (σ := Int) (fun st_ h_st nx_st => B109_21 P R k A5 N5 (st_) h_st nx_st) (0) h_15
def B109_22 (P : Program) (R : Value → Heap → Prop) (k : (Option Addr)) (h_6 : Heap) (t6 : Int) (h_8 : Heap) (next_1 : Int → Heap → Prop) : Prop :=
 PIf ((t6 : Int) < ((3 : Nat) : Int))
 (J109_4 P R k h_6 t6 next_1 h_8)
 (J109_3 P R k h_8)
def J109_0  (P : Program) (R : Value → Heap → Prop) (k : (Option Addr)) (h_6 : Heap) : Prop :=
 AtP k fun ad2 => ∃ (A1 : Option Addr), ∃ (N1 : Nat), ∃ (C1 : Nat), cellH h_6 (Addr.add (Addr.add ad2 0) 3) = some (.slice A1 N1 C1) ∧ AtP k fun ad3 => ∃ (A2 : Option Addr), ∃ (N2 : Nat), ∃ (C2 : Nat), cellH h_6 (Addr.add (Addr.add ad3 0) 4) = some (.slice A2 N2 C2) ∧ AtP k fun ad4 => ∃ (A3 : Option Addr), ∃ (N3 : Nat), ∃ (C3 : Nat), cellH h_6 (Addr.add (Addr.add ad4 0) 5) = some (.slice A3 N3 C3) ∧ let h_7 : Heap := (h_6).push (.cells #[(.slice A1 N1 C1), (.slice A2 N2 C2), (.slice A3 N3 C3)] 22); LoopT (σ := Int) (fun st_ h_st nx_st => B109_22 P R k h_6 (st_) h_st nx_st) (0) h_7
def B109_23 (P : Program) (R : Value → Heap → Prop) (k : (Option Addr)) (A : (Option Addr)) (N : Nat) (t : Int) (h_ : Heap) (next_ : Int → Heap → Prop) : Prop :=
 PIf ((t : Int) < ((N : Nat) : Int))
 (J109_1 P R k A N t next_ h_)
 (J109_0 P R k h_)
def VC109 (P : Program) (k : Option Addr) (R : Value → Heap → Prop) (h : Heap) : Prop :=
 AtP k fun ad => ∃ (A : Option Addr), ∃ (N : Nat), ∃ (C : Nat), cellH h (Addr.add (Addr.add ad 0) 2) = some (.slice A N C) ∧ LoopT (σ := Int) (fun st_ h_st nx_st => B109_23 P R k A N (st_) h_st nx_st) (0) h
theorem vc109 (P : Program) (k : Option Addr) (R : Value → Heap → Prop) (h : Heap) : fnC P ret109 code109 [(.pointer k)] h R = VC109 P k R h := by kernel_rfl
theorem run109 (k : Option Addr) (R : Value → Heap → Prop) (h : Heap) (hv : VC109 Try.prog k R h) : CallsH Try.prog 109 #[(.pointer k)] h R := calls_of_fnC (Checked.mixed Try.checked) Try.func109 comp109 (Nat.le_of_ble_eq_true rfl) (by rw [vc109]; exact hv)

/-! 110: (*trestle/shape.looker).cycle -/
def code110 : SCode := (.seq (.region .txt [⟨(some 2), .mv (.const (.int .i64 0)), none⟩]) (.seq (.seq (.region .wide [⟨(some 7), .mv (.tmp 0), none⟩,
  ⟨(some 8), .call 129 [(.tmp 7)] (.val (.one (.slice))), none⟩,
  ⟨(some 9), .len (.tmp 8), none⟩,
  ⟨(some 10), .mv (.tmp 0), none⟩,
  ⟨(some 11), .nilck (.tmp 10), none⟩,
  ⟨(some 12), .fldA 0 (.tmp 11), none⟩,
  ⟨(some 13), .fldA 8 (.tmp 12), none⟩,
  ⟨(some 14), .ld (.slice) (.tmp 13), none⟩,
  ⟨(some 15), .len (.tmp 14), none⟩,
  ⟨(some 16), .icmp .eql .i64 (.tmp 9) (.tmp 15), none⟩]) (.cond (.tmp 16) (.seq (.region .txt [⟨(some 2), .mv (.const (.int .i64 (-1))), none⟩]) .ret) .skip)) (.seq .skip (.seq (.seq (.region .txt [⟨(some 17), .mv (.tmp 0), none⟩,
  ⟨(some 18), .nilck (.tmp 17), none⟩,
  ⟨(some 19), .fldA 0 (.tmp 18), none⟩,
  ⟨(some 20), .fldA 8 (.tmp 19), none⟩,
  ⟨(some 21), .ld (.slice) (.tmp 20), none⟩,
  ⟨(some 22), .len (.tmp 21), none⟩,
  ⟨(some 23), .mv (.const (.int .i64 0)), none⟩]) (.block 0 (.loop [(23, .int .i64)] [24, 25, 3, 26, 27, 28, 29, 30, 31, 32, 4, 33, 34, 35, 5, 36, 37, 38, 39, 40, 41, 42, 43, 44, 6, 45, 46, 47, 48, 49, 5, 50, 51, 52, 53, 2, 54, 55, 56, 57, 58, 59, 60, 61, 62, 63, 64, 65, 66, 5, 67, 23] (.seq (.region .txt [⟨(some 24), .icmp .lss .i64 (.tmp 23) (.tmp 22), none⟩]) (.seq (.cond (.tmp 24) .skip (.exit 0)) (.seq (.block 1 (.seq (.region .txt [⟨(some 25), .mv (.tmp 23), none⟩,
  ⟨(some 3), .mv (.tmp 25), none⟩]) (.seq (.region .txt [⟨(some 26), .mv (.tmp 0), none⟩,
  ⟨(some 27), .nilck (.tmp 26), none⟩,
  ⟨(some 28), .fldA 0 (.tmp 27), none⟩,
  ⟨(some 29), .fldA 8 (.tmp 28), none⟩,
  ⟨(some 30), .ld (.slice) (.tmp 29), none⟩,
  ⟨(some 31), .len (.tmp 30), none⟩,
  ⟨(some 32), .mkS 4 1 1 #[(.bool false)] (.tmp 31) (.tmp 31), none⟩,
  ⟨(some 4), .mv (.tmp 32), none⟩]) (.seq (.region .txt [⟨(some 33), .mv (.tmp 0), none⟩,
  ⟨(some 34), .mv (.tmp 3), none⟩,
  ⟨(some 35), .call 151 [(.tmp 33), (.tmp 34)] (.val (.one (.slice))), none⟩,
  ⟨(some 5), .mv (.tmp 35), none⟩]) (.seq (.block 2 (.loop [(5, .slice)] [36, 37, 38, 39, 40, 41, 42, 43, 44, 6, 45, 46, 47, 48, 49, 5, 50, 51, 52, 53, 2, 54, 55, 56, 57, 58, 59, 60, 61, 62, 63, 64, 65, 66, 5] (.seq (.seq (.region .txt [⟨(some 36), .mv (.tmp 5), none⟩,
  ⟨(some 37), .len (.tmp 36), none⟩,
  ⟨(some 38), .icmp .gtr .i64 (.tmp 37) (.const (.int .i64 0)), none⟩]) (.cond (.tmp 38) .skip (.exit 2))) (.block 3 (.seq (.region .txt [⟨(some 39), .mv (.tmp 5), none⟩,
  ⟨(some 40), .mv (.tmp 5), none⟩,
  ⟨(some 41), .len (.tmp 40), none⟩,
  ⟨(some 42), .arith .sub .i64 (.tmp 41) (.const (.int .i64 1)), none⟩,
  ⟨(some 43), .idxA 1 (.tmp 39) (.tmp 42), none⟩,
  ⟨(some 44), .ld (.int .i64) (.tmp 43), none⟩,
  ⟨(some 6), .mv (.tmp 44), none⟩]) (.seq (.region .txt [⟨(some 45), .mv (.tmp 5), none⟩,
  ⟨(some 46), .mv (.tmp 5), none⟩,
  ⟨(some 47), .len (.tmp 46), none⟩,
  ⟨(some 48), .arith .sub .i64 (.tmp 47) (.const (.int .i64 1)), none⟩,
  ⟨(some 49), .slc 1 (.tmp 45) none (some (.tmp 48)), none⟩,
  ⟨(some 5), .mv (.tmp 49), none⟩]) (.seq (.seq (.region .txt [⟨(some 50), .mv (.tmp 6), none⟩,
  ⟨(some 51), .mv (.tmp 3), none⟩,
  ⟨(some 52), .icmp .eql .i64 (.tmp 50) (.tmp 51), none⟩]) (.cond (.tmp 52) (.seq (.region .txt [⟨(some 53), .mv (.tmp 3), none⟩,
  ⟨(some 2), .mv (.tmp 53), none⟩]) .ret) .skip)) (.seq (.region .txt [⟨(some 54), .mv (.tmp 4), none⟩,
  ⟨(some 55), .mv (.tmp 6), none⟩,
  ⟨(some 56), .idxA 1 (.tmp 54) (.tmp 55), none⟩,
  ⟨(some 57), .ld (.bool) (.tmp 56), none⟩,
  ⟨(some 58), .not (.tmp 57), none⟩]) (.cond (.tmp 58) (.seq (.region .txt [⟨(some 59), .mv (.tmp 4), none⟩,
  ⟨(some 60), .mv (.tmp 6), none⟩,
  ⟨(some 61), .idxA 1 (.tmp 59) (.tmp 60), none⟩,
  ⟨none, .st 1 (.tmp 61) (.const (.bool true)), none⟩]) (.region .txt [⟨(some 62), .mv (.tmp 5), none⟩,
  ⟨(some 63), .mv (.tmp 0), none⟩,
  ⟨(some 64), .mv (.tmp 6), none⟩,
  ⟨(some 65), .call 151 [(.tmp 63), (.tmp 64)] (.val (.one (.slice))), none⟩,
  ⟨(some 66), .app 3 8 1 #[(.int .i64 0)] (.tmp 62) (.tmp 65), none⟩,
  ⟨(some 5), .mv (.tmp 66), none⟩])) .skip))))))))) (.exit 1)))))) (.region .txt [⟨(some 67), .arith .add .i64 (.tmp 23) (.const (.int .i64 1)), none⟩,
  ⟨(some 23), .mv (.tmp 67), none⟩]))))))) (.seq (.region .txt [⟨(some 2), .mv (.const (.int .i64 (-1))), none⟩]) .ret)))))
def loops110 : List (List (Nat × Shp)) := [[(23, .int .i64)], [(5, .slice)]]
def ret110 : List RV := [.tmp 2]
theorem comp110 : compF Try.prog Try.f110 loops110 = some (68, ret110, code110) := by kernel_rfl
def J110_6  (P : Program) (k : (Option Addr)) (h_3 : Heap) (N3 : Nat) (workA : (Option Addr)) (workN : Nat) (workC : Nat) (next_1 : ((Option Addr × Nat × Nat) → Heap → Prop)) (t1 : Int) (h_8 : Heap) : Prop :=
 0 ≤ (t1 : Int) ∧ (t1 : Int) < ((Int.toNat ((N3 : Nat) : Int)) : Nat) ∧ ∃ (t2 : Bool), cellH h_8 (Addr.add (Addr.mk (h_3).size 0 none) (Int.toNat t1 * 1)) = some (.bool t2) ∧ BIf (!t2) (0 ≤ (t1 : Int) ∧ (t1 : Int) < ((Int.toNat ((N3 : Nat) : Int)) : Nat) ∧ StoreH h_8 (Addr.add (Addr.mk (h_3).size 0 none) (Int.toNat t1 * 1)) [(.bool true)] fun h_9 => CallsH P 151 #[(.pointer k), (.int .i64 t1)] h_9 fun v2 h_10 =>
 ∃ (A5 : Option Addr), ∃ (N5 : Nat), ∃ (C5 : Nat), v2 = (.slice A5 N5 C5) ∧ ∃ ys : List Value, ReadL h_10 A5 ys ∧ ys.length = N5 * 1 ∧ AppS h_10 (cutA 1 workA workC (Int.toNat 0)) (Int.toNat (IntKind.wrap .i64 (((workN : Nat) : Int) - 1)) - Int.toNat 0) (workC - Int.toNat 0) 3 8 1 #[(.int .i64 0)] ys N5 fun apA apN apC h_11 => next_1 ((apA, apN, apC)) h_11) (next_1 (((cutA 1 workA workC (Int.toNat 0)), (Int.toNat (IntKind.wrap .i64 (((workN : Nat) : Int) - 1)) - Int.toNat 0), (workC - Int.toNat 0))) h_8)
def J110_5  (P : Program) (R : Value → Heap → Prop) (k : (Option Addr)) (t : Int) (h_3 : Heap) (N3 : Nat) (workA : (Option Addr)) (workN : Nat) (workC : Nat) (next_1 : ((Option Addr × Nat × Nat) → Heap → Prop)) (h_7 : Heap) : Prop :=
 0 ≤ ((IntKind.wrap .i64 (((workN : Nat) : Int) - 1)) : Int) ∧ ((IntKind.wrap .i64 (((workN : Nat) : Int) - 1)) : Int) < (workN : Nat) ∧ AtP workA fun ad3 => ∃ (t1 : Int), cellH h_7 (Addr.add ad3 (Int.toNat (IntKind.wrap .i64 (((workN : Nat) : Int) - 1)) * 1)) = some (.int .i64 t1) ∧ 0 ≤ (0 : Int) ∧ (0 : Int) ≤ (IntKind.wrap .i64 (((workN : Nat) : Int) - 1)) ∧ ((IntKind.wrap .i64 (((workN : Nat) : Int) - 1)) : Int) ≤ (workC : Nat) ∧ PIf ((t1 : Int) = t)
 (R (.int .i64 t) h_7)
 (J110_6 P k h_3 N3 workA workN workC next_1 t1 h_7)
def J110_3  (t : Int) (next_ : (Int → Heap → Prop)) (h_13 : Heap) : Prop :=
 next_ ((IntKind.wrap .i64 (t + 1))) h_13
def J110_4  (t : Int) (next_ : (Int → Heap → Prop)) (h_12 : Heap) : Prop :=
 J110_3 t next_ h_12
def B110_7 (P : Program) (R : Value → Heap → Prop) (k : (Option Addr)) (t : Int) (next_ : (Int → Heap → Prop)) (h_3 : Heap) (N3 : Nat) (workA : Option Addr) (workN : Nat) (workC : Nat) (h_6 : Heap) (next_1 : (Option Addr × Nat × Nat) → Heap → Prop) : Prop :=
 PIf ((0 : Int) < ((workN : Nat) : Int))
 (J110_5 P R k t h_3 N3 workA workN workC next_1 h_6)
 (J110_4 t next_ h_6)
def J110_2  (P : Program) (R : Value → Heap → Prop) (k : (Option Addr)) (t : Int) (next_ : (Int → Heap → Prop)) (h_3 : Heap) : Prop :=
 AtP k fun ad2 => ∃ (A3 : Option Addr), ∃ (N3 : Nat), ∃ (C3 : Nat), cellH h_3 (Addr.add (Addr.add ad2 0) 8) = some (.slice A3 N3 C3) ∧ 0 ≤ (((N3 : Nat) : Int) : Int) ∧ (((N3 : Nat) : Int) : Int) ≤ ((N3 : Nat) : Int) ∧ (1 : Int) * ((N3 : Nat) : Int) ≤ 281474976710656 ∧ let h_4 : Heap := (h_3).push (.cells (zeroRow #[(.bool false)] (Int.toNat ((N3 : Nat) : Int) * 1)).toArray 4); CallsH P 151 #[(.pointer k), (.int .i64 t)] h_4 fun v1 h_5 =>
 ∃ (A4 : Option Addr), ∃ (N4 : Nat), ∃ (C4 : Nat), v1 = (.slice A4 N4 C4) ∧ LoopT (σ := (Option Addr × Nat × Nat)) (fun st_ h_st nx_st => B110_7 P R k t next_ h_3 N3 (st_.1) (st_.2.1) (st_.2.2) h_st nx_st) ((A4, N4, C4)) h_5
def J110_1  (R : Value → Heap → Prop) (h_14 : Heap) : Prop :=
 R (.int .i64 (-1)) h_14
def B110_9 (P : Program) (R : Value → Heap → Prop) (k : (Option Addr)) (N2 : Nat) (t : Int) (h_2 : Heap) (next_ : Int → Heap → Prop) : Prop :=
 PIf ((t : Int) < ((N2 : Nat) : Int))
 (J110_2 P R k t next_ h_2)
 (J110_1 R h_2)
def J110_0  (P : Program) (R : Value → Heap → Prop) (k : (Option Addr)) (h_1 : Heap) : Prop :=
 AtP k fun ad1 => ∃ (A2 : Option Addr), ∃ (N2 : Nat), ∃ (C2 : Nat), cellH h_1 (Addr.add (Addr.add ad1 0) 8) = some (.slice A2 N2 C2) ∧ LoopT (σ := Int) (fun st_ h_st nx_st => B110_9 P R k N2 (st_) h_st nx_st) (0) h_1
def VC110 (P : Program) (k : Option Addr) (R : Value → Heap → Prop) (h : Heap) : Prop :=
 ∃ zn : Zone, CallsH P 129 #[(.pointer k)] h fun v h_ =>
 ∃ (A : Option Addr), ∃ (N : Nat), ∃ (C : Nat), v = (.slice A N C) ∧ Zone.r zn h h_ ∧ AtP k fun ad => Zone.hasL zn h_ (Addr.add (Addr.add ad 0) 8) ∧ ∃ (A1 : Option Addr), ∃ (N1 : Nat), ∃ (C1 : Nat), cellH h_ (Addr.add (Addr.add ad 0) 8) = some (.slice A1 N1 C1) ∧ PIf ((((N : Nat) : Int) : Int) = ((N1 : Nat) : Int))
 (R (.int .i64 (-1)) h_)
 (J110_0 P R k h_)
theorem vc110 (P : Program) (k : Option Addr) (R : Value → Heap → Prop) (h : Heap) : fnC P ret110 code110 [(.pointer k)] h R = VC110 P k R h := by kernel_rfl
theorem run110 (k : Option Addr) (R : Value → Heap → Prop) (h : Heap) (hv : VC110 Try.prog k R h) : CallsH Try.prog 110 #[(.pointer k)] h R := calls_of_fnC (Checked.mixed Try.checked) Try.func110 comp110 (Nat.le_of_ble_eq_true rfl) (by rw [vc110]; exact hv)

/-! 111: trestle/shape.symbols -/
def code111 : SCode := (.seq (.region .txt [⟨(some 1), .box 29 (.tmp 0), none⟩,
  ⟨(some 2), .mv (.const (.int .i64 0)), none⟩]) (.seq (.region .txt [⟨(some 7), .mkM, none⟩,
  ⟨(some 3), .mv (.tmp 7), none⟩]) (.seq (.seq (.region .txt [⟨(some 8), .fldA 9 (.tmp 1), none⟩,
  ⟨(some 9), .ld (.slice) (.tmp 8), none⟩,
  ⟨(some 10), .len (.tmp 9), none⟩,
  ⟨(some 11), .mv (.const (.int .i64 0)), none⟩]) (.block 0 (.loop [(11, .int .i64)] [12, 13, 14, 15, 5, 4, 16, 17, 18, 19, 20, 21, 22, 23, 24, 25, 26, 27, 28, 29, 30, 31, 32, 33, 34, 35, 36, 37, 38, 39, 40, 41, 42, 43, 44, 45, 46, 47, 48, 49, 2, 50, 51, 52, 53, 54, 55, 6, 56, 57, 58, 59, 60, 61, 2, 62, 53, 63, 64, 65, 66, 67, 68, 69, 70, 71, 72, 73, 11] (.seq (.region .txt [⟨(some 12), .icmp .lss .i64 (.tmp 11) (.tmp 10), none⟩]) (.seq (.cond (.tmp 12) .skip (.exit 0)) (.seq (.block 1 (.seq (.region .txt [⟨(some 13), .mv (.tmp 11), none⟩,
  ⟨(some 14), .idxA 3 (.tmp 9) (.tmp 11), none⟩,
  ⟨(some 15), .ldn [.int .u8, .int .i64, .str] (.tmp 14), none⟩,
  ⟨(some 5), .alloc 103 (.agg #[(.int .u8 0), (.int .i64 0), (.string (ByteArray.mk #[]))]), none⟩,
  ⟨(some 4), .mv (.tmp 13), none⟩,
  ⟨none, .st 3 (.tmp 5) (.tmp 15), none⟩]) (.seq (.seq (.region .ext [⟨(some 16), .fldA 1 (.tmp 5), none⟩,
  ⟨(some 17), .ld (.int .i64) (.tmp 16), none⟩,
  ⟨(some 18), .icmp .lss .i64 (.tmp 17) (.const (.int .i64 0)), none⟩,
  ⟨(some 19), .mv (.tmp 18), none⟩,
  ⟨(some 20), .fldA 1 (.tmp 5), (some (19, false))⟩,
  ⟨(some 21), .ld (.int .i64) (.tmp 20), (some (19, false))⟩,
  ⟨(some 22), .ldn [.int .i64, .slice, .slice, .slice, .slice, .slice, .slice, .slice, .slice, .slice, .slice] (.tmp 1), (some (19, false))⟩,
  ⟨(some 23), .fldA 0 (.tmp 5), (some (19, false))⟩,
  ⟨(some 24), .ld (.int .u8) (.tmp 23), (some (19, false))⟩,
  ⟨(some 25), .call 152 [(.tmp 22), (.tmp 24)] (.val (.one (.int .i64))), (some (19, false))⟩,
  ⟨(some 26), .icmp .geq .i64 (.tmp 21) (.tmp 25), (some (19, false))⟩,
  ⟨(some 27), .pick (.tmp 19) (.const (.bool true)) (.tmp 26), none⟩,
  ⟨(some 28), .mv (.tmp 27), none⟩,
  ⟨(some 29), .fldA 2 (.tmp 5), (some (28, false))⟩,
  ⟨(some 30), .ld (.str) (.tmp 29), (some (28, false))⟩,
  ⟨(some 31), .scmp .eql (.tmp 30) (.const (.string (ByteArray.mk #[]))), (some (28, false))⟩,
  ⟨(some 32), .pick (.tmp 28) (.const (.bool true)) (.tmp 31), none⟩,
  ⟨(some 33), .mv (.tmp 32), none⟩,
  ⟨(some 34), .fldA 2 (.tmp 5), (some (33, false))⟩,
  ⟨(some 35), .ld (.str) (.tmp 34), (some (33, false))⟩,
  ⟨(some 36), .lenS (.tmp 35), (some (33, false))⟩,
  ⟨(some 37), .icmp .gtr .i64 (.tmp 36) (.const (.int .i64 64)), (some (33, false))⟩,
  ⟨(some 38), .pick (.tmp 33) (.const (.bool true)) (.tmp 37), none⟩,
  ⟨(some 39), .mv (.tmp 38), none⟩,
  ⟨(some 40), .mv (.tmp 3), (some (39, false))⟩,
  ⟨(some 41), .fldA 0 (.tmp 5), (some (39, false))⟩,
  ⟨(some 42), .ld (.int .u8) (.tmp 41), (some (39, false))⟩,
  ⟨(some 43), .fldA 1 (.tmp 5), (some (39, false))⟩,
  ⟨(some 44), .ld (.int .i64) (.tmp 43), (some (39, false))⟩,
  ⟨(some 45), .mkAgg #[(.int .u8 0), (.int .i64 0)] [(0, 1, (.tmp 42)), (1, 1, (.tmp 44))], (some (39, false))⟩,
  ⟨(some 46), .mlook (.flat [.int .u8, .int .i64]) (.int .i64 0) (.one (.int .i64)) false (.tmp 40) (.tmp 45), (some (39, false))⟩,
  ⟨(some 47), .icmp .gtr .i64 (.tmp 46) (.const (.int .i64 0)), (some (39, false))⟩,
  ⟨(some 48), .pick (.tmp 39) (.const (.bool true)) (.tmp 47), none⟩]) (.cond (.tmp 48) (.seq (.region .txt [⟨(some 49), .mv (.tmp 4), none⟩,
  ⟨(some 2), .mv (.tmp 49), none⟩]) .ret) .skip)) (.seq (.seq (.region .txt [⟨(some 50), .fldA 2 (.tmp 5), none⟩,
  ⟨(some 51), .ld (.str) (.tmp 50), none⟩,
  ⟨(some 52), .lenS (.tmp 51), none⟩,
  ⟨(some 53), .mv (.const (.int .i64 0)), none⟩]) (.block 2 (.loop [(53, .int .i64)] [54, 55, 6, 56, 57, 58, 59, 60, 61, 2, 62, 53] (.seq (.region .txt [⟨(some 54), .icmp .lss .i64 (.tmp 53) (.tmp 52), none⟩]) (.seq (.cond (.tmp 54) .skip (.exit 2)) (.seq (.block 3 (.seq (.region .txt [⟨(some 55), .mv (.tmp 53), none⟩,
  ⟨(some 6), .mv (.tmp 55), none⟩]) (.seq (.region .txt [⟨(some 56), .fldA 2 (.tmp 5), none⟩,
  ⟨(some 57), .ld (.str) (.tmp 56), none⟩,
  ⟨(some 58), .mv (.tmp 6), none⟩,
  ⟨(some 59), .idxS (.tmp 57) (.tmp 58), none⟩,
  ⟨(some 60), .icmp .lss .u8 (.tmp 59) (.const (.int .u8 32)), none⟩]) (.cond (.tmp 60) (.seq (.region .txt [⟨(some 61), .mv (.tmp 4), none⟩,
  ⟨(some 2), .mv (.tmp 61), none⟩]) .ret) .skip)))) (.region .txt [⟨(some 62), .arith .add .i64 (.tmp 53) (.const (.int .i64 1)), none⟩,
  ⟨(some 53), .mv (.tmp 62), none⟩]))))))) (.region .wide [⟨(some 63), .mv (.tmp 3), none⟩,
  ⟨(some 64), .fldA 0 (.tmp 5), none⟩,
  ⟨(some 65), .ld (.int .u8) (.tmp 64), none⟩,
  ⟨(some 66), .fldA 1 (.tmp 5), none⟩,
  ⟨(some 67), .ld (.int .i64) (.tmp 66), none⟩,
  ⟨(some 68), .mkAgg #[(.int .u8 0), (.int .i64 0)] [(0, 1, (.tmp 65)), (1, 1, (.tmp 67))], none⟩,
  ⟨(some 69), .mlook (.flat [.int .u8, .int .i64]) (.int .i64 0) (.one (.int .i64)) false (.tmp 63) (.tmp 68), none⟩,
  ⟨(some 70), .arith .add .i64 (.tmp 69) (.const (.int .i64 1)), none⟩,
  ⟨(some 71), .ment (.flat [.int .u8, .int .i64]) (.int .i64 0) (.one (.int .i64)) (.tmp 63) (.tmp 68), none⟩,
  ⟨(some 72), .extr (.tmp 71) 1, none⟩,
  ⟨none, .mset (.tmp 63) (.tmp 72) (.tmp 70), none⟩]))))) (.region .txt [⟨(some 73), .arith .add .i64 (.tmp 11) (.const (.int .i64 1)), none⟩,
  ⟨(some 11), .mv (.tmp 73), none⟩]))))))) (.seq (.region .txt [⟨(some 2), .mv (.const (.int .i64 (-1))), none⟩]) .ret))))
def loops111 : List (List (Nat × Shp)) := [[(11, .int .i64)], [(53, .int .i64)]]
def ret111 : List RV := [.tmp 2]
theorem comp111 : compF Try.prog Try.f111 loops111 = some (74, ret111, code111) := by kernel_rfl
def J111_5  (R : Value → Heap → Prop) (t : Int) (h_3 : Heap) (t14 : Int) (next_1 : (Int → Heap → Prop)) (h_9 : Heap) : Prop :=
 ∃ (t15 : ByteArray), cellH h_9 (Addr.add (Addr.mk (h_3).size 0 none) 2) = some (.string t15) ∧ 0 ≤ (t14 : Int) ∧ (t14 : Int) < (t15.size : Nat) ∧ PIf (((byteAt t15 t14) : Int) < 32)
 (R (.int .i64 t) h_9)
 (next_1 ((IntKind.wrap .i64 (t14 + 1))) h_9)
def J111_2  (t : Int) (next_ : (Int → Heap → Prop)) (h_13 : Heap) : Prop :=
 next_ ((IntKind.wrap .i64 (t + 1))) h_13
def J111_4  (h_ : Heap) (t : Int) (next_ : (Int → Heap → Prop)) (h_3 : Heap) (h_10 : Heap) : Prop :=
 ∃ zn : Zone, Zone.hasL zn h_10 (Addr.add (Addr.mk (h_3).size 0 none) 0) ∧ ∃ (t16 : Int), cellH h_10 (Addr.add (Addr.mk (h_3).size 0 none) 0) = some (.int .u8 t16) ∧ Zone.hasL zn h_10 (Addr.add (Addr.mk (h_3).size 0 none) 1) ∧ ∃ (t17 : Int), cellH h_10 (Addr.add (Addr.mk (h_3).size 0 none) 1) = some (.int .i64 t17) ∧ MapLookW zn (.flat [.int .u8, .int .i64]) (.agg #[(.int .u8 t16), (.int .i64 t17)]) (.int .i64 0) h_10 (some (h_).size) (MapEnt (.flat [.int .u8, .int .i64]) (.int .i64 0) (.agg #[(.int .u8 t16), (.int .i64 t17)]) h_10 (some (h_).size) (fun st h_11 => Zone.r zn h_10 h_11 ∧ MapSet st (.int .i64 (IntKind.wrap .i64 (0 + 1))) h_11 (some (h_).size) fun h_12 => J111_2 t next_ h_12) (fun u st1 h_14 => ∃ (t18 : Int), u = (.int .i64 t18) ∧ Zone.r zn h_10 h_14 ∧ MapSet st1 (.int .i64 (IntKind.wrap .i64 (0 + 1))) h_14 (some (h_).size) fun h_15 => J111_2 t next_ h_15)) fun look => ∃ (t19 : Int), look (.int .i64 t19) ∧ MapEnt (.flat [.int .u8, .int .i64]) (.int .i64 0) (.agg #[(.int .u8 t16), (.int .i64 t17)]) h_10 (some (h_).size) (fun st2 h_16 => Zone.r zn h_10 h_16 ∧ MapSet st2 (.int .i64 (IntKind.wrap .i64 (t19 + 1))) h_16 (some (h_).size) fun h_17 => J111_2 t next_ h_17) (fun u1 st3 h_18 => ∃ (t20 : Int), u1 = (.int .i64 t20) ∧ Zone.r zn h_10 h_18 ∧ MapSet st3 (.int .i64 (IntKind.wrap .i64 (t19 + 1))) h_18 (some (h_).size) fun h_19 => J111_2 t next_ h_19)
def B111_7 (R : Value → Heap → Prop) (h_ : Heap) (t : Int) (next_ : (Int → Heap → Prop)) (h_3 : Heap) (t13 : ByteArray) (t14 : Int) (h_8 : Heap) (next_1 : Int → Heap → Prop) : Prop :=
 PIf ((t14 : Int) < ((t13.size : Nat) : Int))
 (J111_5 R t h_3 t14 next_1 h_8)
 (J111_4 h_ t next_ h_3 h_8)
def J111_3  (R : Value → Heap → Prop) (h_ : Heap) (t : Int) (next_ : (Int → Heap → Prop)) (h_3 : Heap) (h_7 : Heap) : Prop :=
 ∃ (t13 : ByteArray), cellH h_7 (Addr.add (Addr.mk (h_3).size 0 none) 2) = some (.string t13) ∧ LoopT (σ := Int) (fun st_ h_st nx_st => B111_7 R h_ t next_ h_3 t13 (st_) h_st nx_st) (0) h_7
def J111_1  (P : Program) (R : Value → Heap → Prop) (h : Heap) (h_ : Heap) (A : (Option Addr)) (N : Nat) (t : Int) (next_ : (Int → Heap → Prop)) (h_3 : Heap) : Prop :=
 0 ≤ (t : Int) ∧ (t : Int) < (N : Nat) ∧ AtP A fun ad => ∃ (t1 : Int), ∃ (t2 : Int), ∃ (t3 : ByteArray), cellsH h_3 (Addr.add ad (Int.toNat t * 3)) 0 [(.int .u8 t1), (.int .i64 t2), (.string t3)] ∧ let h_4 : Heap := (h_3).push (.cells #[(.int .u8 0), (.int .i64 0), (.string (ByteArray.mk #[]))] 103); StoreH h_4 (Addr.mk (h_3).size 0 none) [(.int .u8 t1), (.int .i64 t2), (.string t3)] fun h_5 => (Addr.block (Addr.add (Addr.mk (h_3).size 0 none) 1)) < (h_5).size ∧ ∃ (t4 : Int), cellH h_5 (Addr.add (Addr.mk (h_3).size 0 none) 1) = some (.int .i64 t4) ∧ PIf ((t4 : Int) < 0)
 (R (.int .i64 t) h_5)
 ((Addr.block (Addr.add (Addr.mk (h_3).size 0 none) 1)) < (h_5).size ∧ ∃ (t5 : Int), cellH h_5 (Addr.add (Addr.mk (h_3).size 0 none) 1) = some (.int .i64 t5) ∧ (Addr.block (Addr.mk (h).size 0 none)) < (h_5).size ∧ ∃ (t6 : Int), ∃ (A1 : Option Addr), ∃ (N1 : Nat), ∃ (C1 : Nat), ∃ (A2 : Option Addr), ∃ (N2 : Nat), ∃ (C2 : Nat), ∃ (A3 : Option Addr), ∃ (N3 : Nat), ∃ (C3 : Nat), ∃ (A4 : Option Addr), ∃ (N4 : Nat), ∃ (C4 : Nat), ∃ (A5 : Option Addr), ∃ (N5 : Nat), ∃ (C5 : Nat), ∃ (A6 : Option Addr), ∃ (N6 : Nat), ∃ (C6 : Nat), ∃ (A7 : Option Addr), ∃ (N7 : Nat), ∃ (C7 : Nat), ∃ (A8 : Option Addr), ∃ (N8 : Nat), ∃ (C8 : Nat), ∃ (A9 : Option Addr), ∃ (N9 : Nat), ∃ (C9 : Nat), ∃ (A10 : Option Addr), ∃ (N10 : Nat), ∃ (C10 : Nat), cellsH h_5 (Addr.mk (h).size 0 none) 0 [(.int .i64 t6), (.slice A1 N1 C1), (.slice A2 N2 C2), (.slice A3 N3 C3), (.slice A4 N4 C4), (.slice A5 N5 C5), (.slice A6 N6 C6), (.slice A7 N7 C7), (.slice A8 N8 C8), (.slice A9 N9 C9), (.slice A10 N10 C10)] ∧ (Addr.block (Addr.add (Addr.mk (h_3).size 0 none) 0)) < (h_5).size ∧ ∃ (t7 : Int), cellH h_5 (Addr.add (Addr.mk (h_3).size 0 none) 0) = some (.int .u8 t7) ∧ CallsH P 152 #[(.agg #[(.int .i64 t6), (.slice A1 N1 C1), (.slice A2 N2 C2), (.slice A3 N3 C3), (.slice A4 N4 C4), (.slice A5 N5 C5), (.slice A6 N6 C6), (.slice A7 N7 C7), (.slice A8 N8 C8), (.slice A9 N9 C9), (.slice A10 N10 C10)]), (.int .u8 t7)] h_5 fun v h_6 =>
 ∃ (t8 : Int), v = (.int .i64 t8) ∧ AgreeH (h_5).size h_5 h_6 ∧ PIf ((t8 : Int) ≤ t5)
 (R (.int .i64 t) h_6)
 ((Addr.block (Addr.add (Addr.mk (h_3).size 0 none) 2)) < (h_5).size ∧ ∃ (t9 : ByteArray), cellH h_6 (Addr.add (Addr.mk (h_3).size 0 none) 2) = some (.string t9) ∧ PIf ((t9 : ByteArray) = (ByteArray.mk #[]))
 (R (.int .i64 t) h_6)
 ((Addr.block (Addr.add (Addr.mk (h_3).size 0 none) 2)) < (h_5).size ∧ ∃ (t10 : ByteArray), cellH h_6 (Addr.add (Addr.mk (h_3).size 0 none) 2) = some (.string t10) ∧ PIf ((64 : Int) < ((t10.size : Nat) : Int))
 (R (.int .i64 t) h_6)
 ((Addr.block (Addr.add (Addr.mk (h_3).size 0 none) 0)) < (h_5).size ∧ ∃ (t11 : Int), cellH h_6 (Addr.add (Addr.mk (h_3).size 0 none) 0) = some (.int .u8 t11) ∧ (Addr.block (Addr.add (Addr.mk (h_3).size 0 none) 1)) < (h_5).size ∧ ∃ (t12 : Int), cellH h_6 (Addr.add (Addr.mk (h_3).size 0 none) 1) = some (.int .i64 t12) ∧ MapLook (.flat [.int .u8, .int .i64]) (.agg #[(.int .u8 t11), (.int .i64 t12)]) h_6 (some (h_).size) (some (h_5).size) (PIf ((0 : Int) < 0)
 (R (.int .i64 t) h_6)
 (J111_3 R h_ t next_ h_3 h_6)) fun u2 => ∃ (t21 : Int), u2 = (.int .i64 t21) ∧ PIf ((0 : Int) < t21)
 (R (.int .i64 t) h_6)
 (J111_3 R h_ t next_ h_3 h_6)))))
def J111_0  (R : Value → Heap → Prop) (h_20 : Heap) : Prop :=
 R (.int .i64 (-1)) h_20
def B111_9 (P : Program) (R : Value → Heap → Prop) (h : Heap) (h_ : Heap) (A : (Option Addr)) (N : Nat) (t : Int) (h_2 : Heap) (next_ : Int → Heap → Prop) : Prop :=
 PIf ((t : Int) < ((N : Nat) : Int))
 (J111_1 P R h h_ A N t next_ h_2)
 (J111_0 R h_2)
def VC111 (P : Program) (c : Int) (cA : Option Addr) (cN : Nat) (cC : Nat) (cA1 : Option Addr) (cN1 : Nat) (cC1 : Nat) (cA2 : Option Addr) (cN2 : Nat) (cC2 : Nat) (cA3 : Option Addr) (cN3 : Nat) (cC3 : Nat) (cA4 : Option Addr) (cN4 : Nat) (cC4 : Nat) (cA5 : Option Addr) (cN5 : Nat) (cC5 : Nat) (cA6 : Option Addr) (cN6 : Nat) (cC6 : Nat) (cA7 : Option Addr) (cN7 : Nat) (cC7 : Nat) (cA8 : Option Addr) (cN8 : Nat) (cC8 : Nat) (cA9 : Option Addr) (cN9 : Nat) (cC9 : Nat) (R : Value → Heap → Prop) (h : Heap) : Prop :=
 let h_ : Heap := (h).push (.cells (Value.cells (.agg #[(.int .i64 c), (.slice cA cN cC), (.slice cA1 cN1 cC1), (.slice cA2 cN2 cC2), (.slice cA3 cN3 cC3), (.slice cA4 cN4 cC4), (.slice cA5 cN5 cC5), (.slice cA6 cN6 cC6), (.slice cA7 cN7 cC7), (.slice cA8 cN8 cC8), (.slice cA9 cN9 cC9)])) 29); let h_1 : Heap := (h_).push (.map #[] 0); ∃ (A : Option Addr), ∃ (N : Nat), ∃ (C : Nat), cellH h_1 (Addr.add (Addr.mk (h).size 0 none) 9) = some (.slice A N C) ∧ LoopT (σ := Int) (fun st_ h_st nx_st => B111_9 P R h h_ A N (st_) h_st nx_st) (0) h_1
theorem vc111 (P : Program) (c : Int) (cA : Option Addr) (cN : Nat) (cC : Nat) (cA1 : Option Addr) (cN1 : Nat) (cC1 : Nat) (cA2 : Option Addr) (cN2 : Nat) (cC2 : Nat) (cA3 : Option Addr) (cN3 : Nat) (cC3 : Nat) (cA4 : Option Addr) (cN4 : Nat) (cC4 : Nat) (cA5 : Option Addr) (cN5 : Nat) (cC5 : Nat) (cA6 : Option Addr) (cN6 : Nat) (cC6 : Nat) (cA7 : Option Addr) (cN7 : Nat) (cC7 : Nat) (cA8 : Option Addr) (cN8 : Nat) (cC8 : Nat) (cA9 : Option Addr) (cN9 : Nat) (cC9 : Nat) (R : Value → Heap → Prop) (h : Heap) : fnC P ret111 code111 [(.agg #[(.int .i64 c), (.slice cA cN cC), (.slice cA1 cN1 cC1), (.slice cA2 cN2 cC2), (.slice cA3 cN3 cC3), (.slice cA4 cN4 cC4), (.slice cA5 cN5 cC5), (.slice cA6 cN6 cC6), (.slice cA7 cN7 cC7), (.slice cA8 cN8 cC8), (.slice cA9 cN9 cC9)])] h R = VC111 P c cA cN cC cA1 cN1 cC1 cA2 cN2 cC2 cA3 cN3 cC3 cA4 cN4 cC4 cA5 cN5 cC5 cA6 cN6 cC6 cA7 cN7 cC7 cA8 cN8 cC8 cA9 cN9 cC9 R h := by kernel_rfl
theorem run111 (c : Int) (cA : Option Addr) (cN : Nat) (cC : Nat) (cA1 : Option Addr) (cN1 : Nat) (cC1 : Nat) (cA2 : Option Addr) (cN2 : Nat) (cC2 : Nat) (cA3 : Option Addr) (cN3 : Nat) (cC3 : Nat) (cA4 : Option Addr) (cN4 : Nat) (cC4 : Nat) (cA5 : Option Addr) (cN5 : Nat) (cC5 : Nat) (cA6 : Option Addr) (cN6 : Nat) (cC6 : Nat) (cA7 : Option Addr) (cN7 : Nat) (cC7 : Nat) (cA8 : Option Addr) (cN8 : Nat) (cC8 : Nat) (cA9 : Option Addr) (cN9 : Nat) (cC9 : Nat) (R : Value → Heap → Prop) (h : Heap) (hv : VC111 Try.prog c cA cN cC cA1 cN1 cC1 cA2 cN2 cC2 cA3 cN3 cC3 cA4 cN4 cC4 cA5 cN5 cC5 cA6 cN6 cC6 cA7 cN7 cC7 cA8 cN8 cC8 cA9 cN9 cC9 R h) : CallsH Try.prog 111 #[(.agg #[(.int .i64 c), (.slice cA cN cC), (.slice cA1 cN1 cC1), (.slice cA2 cN2 cC2), (.slice cA3 cN3 cC3), (.slice cA4 cN4 cC4), (.slice cA5 cN5 cC5), (.slice cA6 cN6 cC6), (.slice cA7 cN7 cC7), (.slice cA8 cN8 cC8), (.slice cA9 cN9 cC9)])] h R := calls_of_fnC (Checked.mixed Try.checked) Try.func111 comp111 (Nat.le_of_ble_eq_true rfl) (by rw [vc111]; exact hv)

/-! 112: slices.Contains[[]byte,byte] -/
def code112 : SCode := (.seq (.region .txt [⟨(some 4), .mv (.const (.bool false)), none⟩]) (.seq (.region .txt [⟨(some 5), .mv (.tmp 0), none⟩,
  ⟨(some 6), .mv (.tmp 1), none⟩,
  ⟨(some 7), .call 153 [(.tmp 5), (.tmp 6)] (.val (.one (.int .i64))), none⟩,
  ⟨(some 8), .icmp .geq .i64 (.tmp 7) (.const (.int .i64 0)), none⟩,
  ⟨(some 4), .mv (.tmp 8), none⟩]) .ret))
def loops112 : List (List (Nat × Shp)) := []
def ret112 : List RV := [.tmp 4]
theorem comp112 : compF Try.prog Try.f112 loops112 = some (9, ret112, code112) := by kernel_rfl
def VC112 (P : Program) (sA : Option Addr) (sN : Nat) (sC : Nat) (v : Int) (R : Value → Heap → Prop) (h : Heap) : Prop :=
 CallsH P 153 #[(.slice sA sN sC), (.int .u8 v)] h fun v1 h_ =>
 ∃ (t : Int), v1 = (.int .i64 t) ∧ PIf ((0 : Int) ≤ t)
 (R (.bool true) h_)
 (R (.bool false) h_)
theorem vc112 (P : Program) (sA : Option Addr) (sN : Nat) (sC : Nat) (v : Int) (R : Value → Heap → Prop) (h : Heap) : fnC P ret112 code112 [(.slice sA sN sC), (.int .u8 v)] h R = VC112 P sA sN sC v R h := by kernel_rfl
theorem run112 (sA : Option Addr) (sN : Nat) (sC : Nat) (v : Int) (R : Value → Heap → Prop) (h : Heap) (hv : VC112 Try.prog sA sN sC v R h) : CallsH Try.prog 112 #[(.slice sA sN sC), (.int .u8 v)] h R := calls_of_fnC (Checked.mixed Try.checked) Try.func112 comp112 (Nat.le_of_ble_eq_true rfl) (by rw [vc112]; exact hv)

/-! 129: (*trestle/shape.looker).order -/
def code129 : SCode := (.seq (.region .txt [⟨(some 2), .mv (.const (.slice none 0 0)), none⟩]) (.seq (.region .txt [⟨(some 16), .mv (.tmp 0), none⟩,
  ⟨(some 17), .nilck (.tmp 16), none⟩,
  ⟨(some 18), .fldA 0 (.tmp 17), none⟩,
  ⟨(some 19), .fldA 8 (.tmp 18), none⟩,
  ⟨(some 20), .ld (.slice) (.tmp 19), none⟩,
  ⟨(some 21), .len (.tmp 20), none⟩,
  ⟨(some 3), .mv (.tmp 21), none⟩]) (.seq (.region .txt [⟨(some 22), .mv (.tmp 3), none⟩,
  ⟨(some 23), .mkS 3 8 1 #[(.int .i64 0)] (.tmp 22) (.tmp 22), none⟩,
  ⟨(some 4), .mv (.tmp 23), none⟩]) (.seq (.region .txt [⟨(some 24), .mv (.tmp 3), none⟩,
  ⟨(some 25), .mkS 22 24 1 #[(.slice none 0 0)] (.tmp 24) (.tmp 24), none⟩,
  ⟨(some 5), .mv (.tmp 25), none⟩]) (.seq (.seq (.region .txt [⟨(some 26), .mv (.tmp 3), none⟩,
  ⟨(some 27), .mv (.const (.int .i64 0)), none⟩]) (.block 0 (.loop [(27, .int .i64)] [28, 29, 6, 30, 31, 32, 33, 34, 35, 36, 37, 8, 38, 39, 40, 41, 42, 43, 44, 45, 46, 47, 48, 49, 50, 51, 52, 53, 54, 34, 55, 27] (.seq (.region .txt [⟨(some 28), .icmp .lss .i64 (.tmp 27) (.tmp 26), none⟩]) (.seq (.cond (.tmp 28) .skip (.exit 0)) (.seq (.block 1 (.seq (.region .txt [⟨(some 29), .mv (.tmp 27), none⟩,
  ⟨(some 6), .mv (.tmp 29), none⟩]) (.seq (.region .txt [⟨(some 30), .mv (.tmp 0), none⟩,
  ⟨(some 31), .mv (.tmp 6), none⟩,
  ⟨(some 32), .call 151 [(.tmp 30), (.tmp 31)] (.val (.one (.slice))), none⟩,
  ⟨(some 33), .len (.tmp 32), none⟩,
  ⟨(some 34), .mv (.const (.int .i64 0)), none⟩]) (.block 2 (.loop [(34, .int .i64)] [35, 36, 37, 8, 38, 39, 40, 41, 42, 43, 44, 45, 46, 47, 48, 49, 50, 51, 52, 53, 54, 34] (.seq (.region .txt [⟨(some 35), .icmp .lss .i64 (.tmp 34) (.tmp 33), none⟩]) (.seq (.cond (.tmp 35) .skip (.exit 2)) (.seq (.block 3 (.seq (.region .txt [⟨(some 36), .idxA 1 (.tmp 32) (.tmp 34), none⟩,
  ⟨(some 37), .ld (.int .i64) (.tmp 36), none⟩,
  ⟨(some 8), .mv (.tmp 37), none⟩]) (.seq (.region .txt [⟨(some 38), .mv (.tmp 4), none⟩,
  ⟨(some 39), .mv (.tmp 6), none⟩,
  ⟨(some 40), .idxA 1 (.tmp 38) (.tmp 39), none⟩,
  ⟨(some 41), .ld (.int .i64) (.tmp 40), none⟩,
  ⟨(some 42), .arith .add .i64 (.tmp 41) (.const (.int .i64 1)), none⟩,
  ⟨(some 43), .idxA 1 (.tmp 38) (.tmp 39), none⟩,
  ⟨none, .st 1 (.tmp 43) (.tmp 42), none⟩]) (.region .txt [⟨(some 44), .mv (.tmp 5), none⟩,
  ⟨(some 45), .mv (.tmp 8), none⟩,
  ⟨(some 46), .mv (.tmp 5), none⟩,
  ⟨(some 47), .mv (.tmp 8), none⟩,
  ⟨(some 48), .idxA 1 (.tmp 46) (.tmp 47), none⟩,
  ⟨(some 49), .ld (.slice) (.tmp 48), none⟩,
  ⟨(some 50), .mv (.tmp 6), none⟩,
  ⟨(some 51), .lit 3 1 #[(.int .i64 0)] [(0, 1, (.tmp 50))], none⟩,
  ⟨(some 52), .app 3 8 1 #[(.int .i64 0)] (.tmp 49) (.tmp 51), none⟩,
  ⟨(some 53), .idxA 1 (.tmp 44) (.tmp 45), none⟩,
  ⟨none, .st 1 (.tmp 53) (.tmp 52), none⟩])))) (.region .txt [⟨(some 54), .arith .add .i64 (.tmp 34) (.const (.int .i64 1)), none⟩,
  ⟨(some 34), .mv (.tmp 54), none⟩]))))))))) (.region .txt [⟨(some 55), .arith .add .i64 (.tmp 27) (.const (.int .i64 1)), none⟩,
  ⟨(some 27), .mv (.tmp 55), none⟩]))))))) (.seq (.region .txt [⟨(some 9), .alloc 22 (.slice none 0 0), none⟩]) (.seq (.region .txt [⟨(some 56), .mkFn (.func 161) [] [(.tmp 9)], none⟩,
  ⟨(some 10), .mv (.tmp 56), none⟩]) (.seq (.seq (.region .txt [⟨(some 57), .mv (.tmp 3), none⟩,
  ⟨(some 58), .mv (.const (.int .i64 0)), none⟩]) (.block 4 (.loop [(58, .int .i64)] [59, 60, 11, 61, 62, 63, 64, 65, 66, 67, 68, 69, 58] (.seq (.region .txt [⟨(some 59), .icmp .lss .i64 (.tmp 58) (.tmp 57), none⟩]) (.seq (.cond (.tmp 59) .skip (.exit 4)) (.seq (.block 5 (.seq (.region .txt [⟨(some 60), .mv (.tmp 58), none⟩,
  ⟨(some 11), .mv (.tmp 60), none⟩]) (.seq (.region .txt [⟨(some 61), .mv (.tmp 4), none⟩,
  ⟨(some 62), .mv (.tmp 11), none⟩,
  ⟨(some 63), .idxA 1 (.tmp 61) (.tmp 62), none⟩,
  ⟨(some 64), .ld (.int .i64) (.tmp 63), none⟩,
  ⟨(some 65), .icmp .eql .i64 (.tmp 64) (.const (.int .i64 0)), none⟩]) (.cond (.tmp 65) (.region .txt [⟨(some 66), .mv (.tmp 10), none⟩,
  ⟨(some 67), .mv (.tmp 11), none⟩,
  ⟨(some 68), .callv (.tmp 66) [(.tmp 67)] (.tup []), none⟩]) .skip)))) (.region .txt [⟨(some 69), .arith .add .i64 (.tmp 58) (.const (.int .i64 1)), none⟩,
  ⟨(some 58), .mv (.tmp 69), none⟩]))))))) (.seq (.region .txt [⟨(some 12), .mv (.const (.slice none 0 0)), none⟩]) (.seq (.block 6 (.loop [(12, .slice)] [70, 71, 72, 73, 74, 75, 76, 77, 78, 13, 79, 80, 81, 82, 83, 84, 85, 86, 87, 12, 88, 89, 90, 91, 92, 93, 94, 95, 96, 15, 97, 98, 99, 100, 101, 102, 103, 104, 105, 106, 107, 108, 109, 110, 111, 93] (.seq (.seq (.region .txt [⟨(some 70), .ld (.slice) (.tmp 9), none⟩,
  ⟨(some 71), .len (.tmp 70), none⟩,
  ⟨(some 72), .icmp .gtr .i64 (.tmp 71) (.const (.int .i64 0)), none⟩]) (.cond (.tmp 72) .skip (.exit 6))) (.block 7 (.seq (.region .txt [⟨(some 73), .ld (.slice) (.tmp 9), none⟩,
  ⟨(some 74), .ld (.slice) (.tmp 9), none⟩,
  ⟨(some 75), .len (.tmp 74), none⟩,
  ⟨(some 76), .arith .sub .i64 (.tmp 75) (.const (.int .i64 1)), none⟩,
  ⟨(some 77), .idxA 1 (.tmp 73) (.tmp 76), none⟩,
  ⟨(some 78), .ld (.int .i64) (.tmp 77), none⟩,
  ⟨(some 13), .mv (.tmp 78), none⟩]) (.seq (.region .txt [⟨(some 79), .ld (.slice) (.tmp 9), none⟩,
  ⟨(some 80), .ld (.slice) (.tmp 9), none⟩,
  ⟨(some 81), .len (.tmp 80), none⟩,
  ⟨(some 82), .arith .sub .i64 (.tmp 81) (.const (.int .i64 1)), none⟩,
  ⟨(some 83), .slc 1 (.tmp 79) none (some (.tmp 82)), none⟩,
  ⟨none, .st 1 (.tmp 9) (.tmp 83), none⟩]) (.seq (.region .txt [⟨(some 84), .mv (.tmp 12), none⟩,
  ⟨(some 85), .mv (.tmp 13), none⟩,
  ⟨(some 86), .lit 3 1 #[(.int .i64 0)] [(0, 1, (.tmp 85))], none⟩,
  ⟨(some 87), .app 3 8 1 #[(.int .i64 0)] (.tmp 84) (.tmp 86), none⟩,
  ⟨(some 12), .mv (.tmp 87), none⟩]) (.seq (.region .txt [⟨(some 88), .mv (.tmp 5), none⟩,
  ⟨(some 89), .mv (.tmp 13), none⟩,
  ⟨(some 90), .idxA 1 (.tmp 88) (.tmp 89), none⟩,
  ⟨(some 91), .ld (.slice) (.tmp 90), none⟩,
  ⟨(some 92), .len (.tmp 91), none⟩,
  ⟨(some 93), .mv (.const (.int .i64 0)), none⟩]) (.block 8 (.loop [(93, .int .i64)] [94, 95, 96, 15, 97, 98, 99, 100, 101, 102, 103, 104, 105, 106, 107, 108, 109, 110, 111, 93] (.seq (.region .txt [⟨(some 94), .icmp .lss .i64 (.tmp 93) (.tmp 92), none⟩]) (.seq (.cond (.tmp 94) .skip (.exit 8)) (.seq (.block 9 (.seq (.region .txt [⟨(some 95), .idxA 1 (.tmp 91) (.tmp 93), none⟩,
  ⟨(some 96), .ld (.int .i64) (.tmp 95), none⟩,
  ⟨(some 15), .mv (.tmp 96), none⟩]) (.seq (.region .txt [⟨(some 97), .mv (.tmp 4), none⟩,
  ⟨(some 98), .mv (.tmp 15), none⟩,
  ⟨(some 99), .idxA 1 (.tmp 97) (.tmp 98), none⟩,
  ⟨(some 100), .ld (.int .i64) (.tmp 99), none⟩,
  ⟨(some 101), .arith .sub .i64 (.tmp 100) (.const (.int .i64 1)), none⟩,
  ⟨(some 102), .idxA 1 (.tmp 97) (.tmp 98), none⟩,
  ⟨none, .st 1 (.tmp 102) (.tmp 101), none⟩]) (.seq (.region .txt [⟨(some 103), .mv (.tmp 4), none⟩,
  ⟨(some 104), .mv (.tmp 15), none⟩,
  ⟨(some 105), .idxA 1 (.tmp 103) (.tmp 104), none⟩,
  ⟨(some 106), .ld (.int .i64) (.tmp 105), none⟩,
  ⟨(some 107), .icmp .eql .i64 (.tmp 106) (.const (.int .i64 0)), none⟩]) (.cond (.tmp 107) (.region .txt [⟨(some 108), .mv (.tmp 10), none⟩,
  ⟨(some 109), .mv (.tmp 15), none⟩,
  ⟨(some 110), .callv (.tmp 108) [(.tmp 109)] (.tup []), none⟩]) .skip))))) (.region .txt [⟨(some 111), .arith .add .i64 (.tmp 93) (.const (.int .i64 1)), none⟩,
  ⟨(some 93), .mv (.tmp 111), none⟩])))))))))))))) (.seq (.region .txt [⟨(some 112), .mv (.tmp 12), none⟩,
  ⟨(some 2), .mv (.tmp 112), none⟩]) .ret)))))))))))
def loops129 : List (List (Nat × Shp)) := [[(27, .int .i64)], [(34, .int .i64)], [(58, .int .i64)], [(12, .slice)], [(93, .int .i64)]]
def ret129 : List RV := [.tmp 2]
theorem comp129 : compF Try.prog Try.f129 loops129 = some (113, ret129, code129) := by kernel_rfl
def J129_3  (h : Heap) (N : Nat) (h_ : Heap) (t : Int) (A1 : (Option Addr)) (N1 : Nat) (t1 : Int) (next_1 : (Int → Heap → Prop)) (h_6 : Heap) : Prop :=
 0 ≤ (t1 : Int) ∧ (t1 : Int) < (N1 : Nat) ∧ AtP A1 fun ad1 => ∃ (t2 : Int), cellH h_6 (Addr.add ad1 (Int.toNat t1 * 1)) = some (.int .i64 t2) ∧ 0 ≤ (t : Int) ∧ (t : Int) < ((Int.toNat ((N : Nat) : Int)) : Nat) ∧ ∃ (t3 : Int), cellH h_6 (Addr.add (Addr.mk (h).size 0 none) (Int.toNat t * 1)) = some (.int .i64 t3) ∧ 0 ≤ (t : Int) ∧ (t : Int) < ((Int.toNat ((N : Nat) : Int)) : Nat) ∧ StoreH h_6 (Addr.add (Addr.mk (h).size 0 none) (Int.toNat t * 1)) [(.int .i64 (IntKind.wrap .i64 (t3 + 1)))] fun h_7 => 0 ≤ (t2 : Int) ∧ (t2 : Int) < ((Int.toNat ((N : Nat) : Int)) : Nat) ∧ ∃ (A2 : Option Addr), ∃ (N2 : Nat), ∃ (C2 : Nat), cellH h_7 (Addr.add (Addr.mk (h_).size 0 none) (Int.toNat t2 * 1)) = some (.slice A2 N2 C2) ∧ let h_8 : Heap := (h_7).push (.cells #[(.int .i64 t)] 3); ∃ ys : List Value, ReadL h_8 (some (Addr.mk (h_7).size 0 none)) ys ∧ ys.length = 1 * 1 ∧ AppS h_8 A2 N2 C2 3 8 1 #[(.int .i64 0)] ys 1 fun apA apN apC h_9 => 0 ≤ (t2 : Int) ∧ (t2 : Int) < ((Int.toNat ((N : Nat) : Int)) : Nat) ∧ StoreH h_9 (Addr.add (Addr.mk (h_).size 0 none) (Int.toNat t2 * 1)) [(.slice apA apN apC)] fun h_10 => next_1 ((IntKind.wrap .i64 (t1 + 1))) h_10
def J129_2  (t : Int) (next_ : (Int → Heap → Prop)) (h_11 : Heap) : Prop :=
 next_ ((IntKind.wrap .i64 (t + 1))) h_11
def B129_5 (h : Heap) (N : Nat) (h_ : Heap) (t : Int) (next_ : (Int → Heap → Prop)) (A1 : (Option Addr)) (N1 : Nat) (t1 : Int) (h_5 : Heap) (next_1 : Int → Heap → Prop) : Prop :=
 PIf ((t1 : Int) < ((N1 : Nat) : Int))
 (J129_3 h N h_ t A1 N1 t1 next_1 h_5)
 (J129_2 t next_ h_5)
def J129_1  (P : Program) (h : Heap) (k : (Option Addr)) (N : Nat) (h_ : Heap) (t : Int) (next_ : (Int → Heap → Prop)) (h_3 : Heap) : Prop :=
 CallsH P 151 #[(.pointer k), (.int .i64 t)] h_3 fun v h_4 =>
 ∃ (A1 : Option Addr), ∃ (N1 : Nat), ∃ (C1 : Nat), v = (.slice A1 N1 C1) ∧ LoopT (σ := Int) (fun st_ h_st nx_st => B129_5 h N h_ t next_ A1 N1 (st_) h_st nx_st) (0) h_4
def J129_8  (P : Program) (h : Heap) (N : Nat) (h_12 : Heap) (t4 : Int) (next_2 : (Int → Heap → Prop)) (h_15 : Heap) : Prop :=
 0 ≤ (t4 : Int) ∧ (t4 : Int) < ((Int.toNat ((N : Nat) : Int)) : Nat) ∧ ∃ (t5 : Int), cellH h_15 (Addr.add (Addr.mk (h).size 0 none) (Int.toNat t4 * 1)) = some (.int .i64 t5) ∧ PIf ((t5 : Int) = 0)
 (callOkP P 161 ∧ CallsH P 161 #[(.int .i64 t4), (.pointer (some (Addr.mk (h_12).size 0 none)))] h_15 fun v1 h_16 =>
 v1 = (.tuple #[]) ∧ next_2 ((IntKind.wrap .i64 (t4 + 1))) h_16)
 (next_2 ((IntKind.wrap .i64 (t4 + 1))) h_15)
def J129_12  (P : Program) (h : Heap) (N : Nat) (h_12 : Heap) (A8 : (Option Addr)) (N8 : Nat) (t7 : Int) (next_4 : (Int → Heap → Prop)) (h_24 : Heap) : Prop :=
 0 ≤ (t7 : Int) ∧ (t7 : Int) < (N8 : Nat) ∧ AtP A8 fun ad3 => ∃ (t8 : Int), cellH h_24 (Addr.add ad3 (Int.toNat t7 * 1)) = some (.int .i64 t8) ∧ 0 ≤ (t8 : Int) ∧ (t8 : Int) < ((Int.toNat ((N : Nat) : Int)) : Nat) ∧ ∃ (t9 : Int), cellH h_24 (Addr.add (Addr.mk (h).size 0 none) (Int.toNat t8 * 1)) = some (.int .i64 t9) ∧ 0 ≤ (t8 : Int) ∧ (t8 : Int) < ((Int.toNat ((N : Nat) : Int)) : Nat) ∧ StoreH h_24 (Addr.add (Addr.mk (h).size 0 none) (Int.toNat t8 * 1)) [(.int .i64 (IntKind.wrap .i64 (t9 - 1)))] fun h_25 => 0 ≤ (t8 : Int) ∧ (t8 : Int) < ((Int.toNat ((N : Nat) : Int)) : Nat) ∧ ∃ (t10 : Int), cellH h_25 (Addr.add (Addr.mk (h).size 0 none) (Int.toNat t8 * 1)) = some (.int .i64 t10) ∧ PIf ((t10 : Int) = 0)
 (callOkP P 161 ∧ CallsH P 161 #[(.int .i64 t8), (.pointer (some (Addr.mk (h_12).size 0 none)))] h_25 fun v2 h_26 =>
 v2 = (.tuple #[]) ∧ next_4 ((IntKind.wrap .i64 (t7 + 1))) h_26)
 (next_4 ((IntKind.wrap .i64 (t7 + 1))) h_25)
def B129_14 (P : Program) (h : Heap) (N : Nat) (h_12 : Heap) (next_3 : ((Option Addr × Nat × Nat) → Heap → Prop)) (apA1 : (Option Addr)) (apN1 : Nat) (apC1 : Nat) (A8 : (Option Addr)) (N8 : Nat) (t7 : Int) (h_23 : Heap) (next_4 : Int → Heap → Prop) : Prop :=
 PIf ((t7 : Int) < ((N8 : Nat) : Int))
 (J129_12 P h N h_12 A8 N8 t7 next_4 h_23)
 (next_3 ((apA1, apN1, apC1)) h_23)
def J129_11  (P : Program) (h : Heap) (N : Nat) (h_ : Heap) (h_12 : Heap) (outA : (Option Addr)) (outN : Nat) (outC : Nat) (next_3 : ((Option Addr × Nat × Nat) → Heap → Prop)) (h_19 : Heap) : Prop :=
 ∃ (A4 : Option Addr), ∃ (N4 : Nat), ∃ (C4 : Nat), cellH h_19 (Addr.mk (h_12).size 0 none) = some (.slice A4 N4 C4) ∧ ∃ (A5 : Option Addr), ∃ (N5 : Nat), ∃ (C5 : Nat), cellH h_19 (Addr.mk (h_12).size 0 none) = some (.slice A5 N5 C5) ∧ 0 ≤ ((IntKind.wrap .i64 (((N5 : Nat) : Int) - 1)) : Int) ∧ ((IntKind.wrap .i64 (((N5 : Nat) : Int) - 1)) : Int) < (N4 : Nat) ∧ AtP A4 fun ad2 => ∃ (t6 : Int), cellH h_19 (Addr.add ad2 (Int.toNat (IntKind.wrap .i64 (((N5 : Nat) : Int) - 1)) * 1)) = some (.int .i64 t6) ∧ ∃ (A6 : Option Addr), ∃ (N6 : Nat), ∃ (C6 : Nat), cellH h_19 (Addr.mk (h_12).size 0 none) = some (.slice A6 N6 C6) ∧ ∃ (A7 : Option Addr), ∃ (N7 : Nat), ∃ (C7 : Nat), cellH h_19 (Addr.mk (h_12).size 0 none) = some (.slice A7 N7 C7) ∧ 0 ≤ (0 : Int) ∧ (0 : Int) ≤ (IntKind.wrap .i64 (((N7 : Nat) : Int) - 1)) ∧ ((IntKind.wrap .i64 (((N7 : Nat) : Int) - 1)) : Int) ≤ (C6 : Nat) ∧ StoreH h_19 (Addr.mk (h_12).size 0 none) [(.slice (cutA 1 A6 C6 (Int.toNat 0)) (Int.toNat (IntKind.wrap .i64 (((N7 : Nat) : Int) - 1)) - Int.toNat 0) (C6 - Int.toNat 0))] fun h_20 => let h_21 : Heap := (h_20).push (.cells #[(.int .i64 t6)] 3); ∃ ys1 : List Value, ReadL h_21 (some (Addr.mk (h_20).size 0 none)) ys1 ∧ ys1.length = 1 * 1 ∧ AppS h_21 outA outN outC 3 8 1 #[(.int .i64 0)] ys1 1 fun apA1 apN1 apC1 h_22 => 0 ≤ (t6 : Int) ∧ (t6 : Int) < ((Int.toNat ((N : Nat) : Int)) : Nat) ∧ ∃ (A8 : Option Addr), ∃ (N8 : Nat), ∃ (C8 : Nat), cellH h_22 (Addr.add (Addr.mk (h_).size 0 none) (Int.toNat t6 * 1)) = some (.slice A8 N8 C8) ∧ LoopT (σ := Int) (fun st_ h_st nx_st => B129_14 P h N h_12 next_3 apA1 apN1 apC1 A8 N8 (st_) h_st nx_st) (0) h_22
def J129_10  (R : Value → Heap → Prop) (outA1 : Option Addr) (outN1 : Nat) (outC1 : Nat) (h_27 : Heap) : Prop :=
 R (.slice outA1 outN1 outC1) h_27
def B129_15 (P : Program) (R : Value → Heap → Prop) (h : Heap) (N : Nat) (h_ : Heap) (h_12 : Heap) (outA : Option Addr) (outN : Nat) (outC : Nat) (h_18 : Heap) (next_3 : (Option Addr × Nat × Nat) → Heap → Prop) : Prop :=
 ∃ (A3 : Option Addr), ∃ (N3 : Nat), ∃ (C3 : Nat), cellH h_18 (Addr.mk (h_12).size 0 none) = some (.slice A3 N3 C3) ∧ PIf ((0 : Int) < ((N3 : Nat) : Int))
 (J129_11 P h N h_ h_12 outA outN outC next_3 h_18)
 (J129_10 R (outA) (outN) (outC) h_18)
def J129_7  (P : Program) (R : Value → Heap → Prop) (h : Heap) (N : Nat) (h_ : Heap) (h_12 : Heap) (h_17 : Heap) : Prop :=
 LoopT (σ := (Option Addr × Nat × Nat)) (fun st_ h_st nx_st => B129_15 P R h N h_ h_12 (st_.1) (st_.2.1) (st_.2.2) h_st nx_st) ((none, 0, 0)) h_17
def B129_16 (P : Program) (R : Value → Heap → Prop) (h : Heap) (N : Nat) (h_ : Heap) (h_12 : Heap) (t4 : Int) (h_14 : Heap) (next_2 : Int → Heap → Prop) : Prop :=
 PIf ((t4 : Int) < ((N : Nat) : Int))
 (J129_8 P h N h_12 t4 next_2 h_14)
 (J129_7 P R h N h_ h_12 h_14)
def J129_0  (P : Program) (R : Value → Heap → Prop) (h : Heap) (N : Nat) (h_ : Heap) (h_12 : Heap) : Prop :=
 let h_13 : Heap := (h_12).push (.cells #[(.slice none 0 0)] 22); LoopT (σ := Int) (fun st_ h_st nx_st => B129_16 P R h N h_ h_12 (st_) h_st nx_st) (0) h_13
def B129_17 (P : Program) (R : Value → Heap → Prop) (h : Heap) (k : (Option Addr)) (N : Nat) (h_ : Heap) (t : Int) (h_2 : Heap) (next_ : Int → Heap → Prop) : Prop :=
 PIf ((t : Int) < ((N : Nat) : Int))
 (J129_1 P h k N h_ t next_ h_2)
 (J129_0 P R h N h_ h_2)
def VC129 (P : Program) (k : Option Addr) (R : Value → Heap → Prop) (h : Heap) : Prop :=
 AtP k fun ad => ∃ (A : Option Addr), ∃ (N : Nat), ∃ (C : Nat), cellH h (Addr.add (Addr.add ad 0) 8) = some (.slice A N C) ∧ 0 ≤ (((N : Nat) : Int) : Int) ∧ (((N : Nat) : Int) : Int) ≤ ((N : Nat) : Int) ∧ (8 : Int) * ((N : Nat) : Int) ≤ 281474976710656 ∧ let h_ : Heap := (h).push (.cells (zeroRow #[(.int .i64 0)] (Int.toNat ((N : Nat) : Int) * 1)).toArray 3); 0 ≤ (((N : Nat) : Int) : Int) ∧ (((N : Nat) : Int) : Int) ≤ ((N : Nat) : Int) ∧ (24 : Int) * ((N : Nat) : Int) ≤ 281474976710656 ∧ let h_1 : Heap := (h_).push (.cells (zeroRow #[(.slice none 0 0)] (Int.toNat ((N : Nat) : Int) * 1)).toArray 22); LoopT (σ := Int) (fun st_ h_st nx_st => B129_17 P R h k N h_ (st_) h_st nx_st) (0) h_1
theorem vc129 (P : Program) (k : Option Addr) (R : Value → Heap → Prop) (h : Heap) : fnC P ret129 code129 [(.pointer k)] h R = VC129 P k R h := by kernel_rfl
theorem run129 (k : Option Addr) (R : Value → Heap → Prop) (h : Heap) (hv : VC129 Try.prog k R h) : CallsH Try.prog 129 #[(.pointer k)] h R := calls_of_fnC (Checked.mixed Try.checked) Try.func129 comp129 (Nat.le_of_ble_eq_true rfl) (by rw [vc129]; exact hv)

/-! 148: trestle/shape.total -/
def code148 : SCode := (.seq (.region .txt [⟨(some 2), .mv (.const (.int .i64 0)), none⟩]) (.seq (.region .txt [⟨(some 3), .mv (.const (.int .i64 0)), none⟩]) (.seq (.seq (.region .txt [⟨(some 6), .mv (.tmp 0), none⟩,
  ⟨(some 7), .len (.tmp 6), none⟩,
  ⟨(some 8), .mv (.const (.int .i64 0)), none⟩]) (.block 0 (.loop [(3, .int .i64), (8, .int .i64)] [9, 10, 11, 5, 12, 13, 14, 15, 3, 16, 8] (.seq (.region .txt [⟨(some 9), .icmp .lss .i64 (.tmp 8) (.tmp 7), none⟩]) (.seq (.cond (.tmp 9) .skip (.exit 0)) (.seq (.block 1 (.seq (.region .txt [⟨(some 10), .idxA 1 (.tmp 6) (.tmp 8), none⟩,
  ⟨(some 11), .ld (.slice) (.tmp 10), none⟩,
  ⟨(some 5), .mv (.tmp 11), none⟩]) (.region .txt [⟨(some 12), .mv (.tmp 3), none⟩,
  ⟨(some 13), .mv (.tmp 5), none⟩,
  ⟨(some 14), .len (.tmp 13), none⟩,
  ⟨(some 15), .arith .add .i64 (.tmp 12) (.tmp 14), none⟩,
  ⟨(some 3), .mv (.tmp 15), none⟩]))) (.region .txt [⟨(some 16), .arith .add .i64 (.tmp 8) (.const (.int .i64 1)), none⟩,
  ⟨(some 8), .mv (.tmp 16), none⟩]))))))) (.seq (.region .txt [⟨(some 17), .mv (.tmp 3), none⟩,
  ⟨(some 2), .mv (.tmp 17), none⟩]) .ret))))
def loops148 : List (List (Nat × Shp)) := [[(3, .int .i64), (8, .int .i64)]]
def ret148 : List RV := [.tmp 2]
theorem comp148 : compF Try.prog Try.f148 loops148 = some (18, ret148, code148) := by kernel_rfl
def J148_1  (lA : (Option Addr)) (lN : Nat) (n : Int) (t : Int) (next_ : (Int × Int → Heap → Prop)) (h_1 : Heap) : Prop :=
 0 ≤ (t : Int) ∧ (t : Int) < (lN : Nat) ∧ AtP lA fun ad => ∃ (A : Option Addr), ∃ (N : Nat), ∃ (C : Nat), cellH h_1 (Addr.add ad (Int.toNat t * 1)) = some (.slice A N C) ∧ next_ ((IntKind.wrap .i64 (n + ((N : Nat) : Int))), (IntKind.wrap .i64 (t + 1))) h_1
def J148_0  (R : Value → Heap → Prop) (n1 : Int) (h_2 : Heap) : Prop :=
 R (.int .i64 n1) h_2
def B148_3 (R : Value → Heap → Prop) (lA : (Option Addr)) (lN : Nat) (n : Int) (t : Int) (h_ : Heap) (next_ : Int × Int → Heap → Prop) : Prop :=
 PIf ((t : Int) < ((lN : Nat) : Int))
 (J148_1 lA lN n t next_ h_)
 (J148_0 R (n) h_)
def VC148 (P : Program) (lA : Option Addr) (lN : Nat) (lC : Nat) (R : Value → Heap → Prop) (h : Heap) : Prop :=
 LoopT (σ := Int × Int) (fun st_ h_st nx_st => B148_3 R lA lN (st_.1) (st_.2) h_st nx_st) (0, 0) h
theorem vc148 (P : Program) (lA : Option Addr) (lN : Nat) (lC : Nat) (R : Value → Heap → Prop) (h : Heap) : fnC P ret148 code148 [(.slice lA lN lC)] h R = VC148 P lA lN lC R h := by kernel_rfl
theorem run148 (lA : Option Addr) (lN : Nat) (lC : Nat) (R : Value → Heap → Prop) (h : Heap) (hv : VC148 Try.prog lA lN lC R h) : CallsH Try.prog 148 #[(.slice lA lN lC)] h R := calls_of_fnC (Checked.mixed Try.checked) Try.func148 comp148 (Nat.le_of_ble_eq_true rfl) (by rw [vc148]; exact hv)

/-! 149: (*trestle/shape.looker).define -/
def code149 : SCode := (.seq (.region .txt [⟨(some 5), .box 202 (.tmp 2), none⟩,
  ⟨(some 6), .mv (.const (.int .i64 0)), none⟩]) (.seq (.seq (.region .txt [⟨(some 7), .mv (.tmp 1), none⟩,
  ⟨(some 8), .icmp .lss .i64 (.tmp 7) (.const (.int .i64 2)), none⟩,
  ⟨(some 9), .mv (.tmp 8), none⟩,
  ⟨(some 10), .mv (.tmp 1), (some (9, false))⟩,
  ⟨(some 11), .bits .and .i64 (.tmp 10) (.const (.int .i64 1)), (some (9, false))⟩,
  ⟨(some 12), .icmp .eql .i64 (.tmp 11) (.const (.int .i64 1)), (some (9, false))⟩,
  ⟨(some 13), .pick (.tmp 9) (.const (.bool true)) (.tmp 12), none⟩,
  ⟨(some 14), .mv (.tmp 13), none⟩,
  ⟨(some 15), .mv (.tmp 1), (some (14, false))⟩,
  ⟨(some 16), .mv (.tmp 0), (some (14, false))⟩,
  ⟨(some 17), .nilck (.tmp 16), (some (14, false))⟩,
  ⟨(some 18), .fldA 0 (.tmp 17), (some (14, false))⟩,
  ⟨(some 19), .fldA 0 (.tmp 18), (some (14, false))⟩,
  ⟨(some 20), .ld (.int .i64) (.tmp 19), (some (14, false))⟩,
  ⟨(some 21), .arith .mul .i64 (.const (.int .i64 2)) (.tmp 20), (some (14, false))⟩,
  ⟨(some 22), .icmp .gtr .i64 (.tmp 15) (.tmp 21), (some (14, false))⟩,
  ⟨(some 23), .pick (.tmp 14) (.const (.bool true)) (.tmp 22), none⟩]) (.cond (.tmp 23) (.seq (.region .txt [⟨(some 6), .mv (.const (.int .i64 30)), none⟩]) .ret) .skip)) (.seq (.seq (.region .txt [⟨(some 24), .mv (.tmp 0), none⟩,
  ⟨(some 25), .nilck (.tmp 24), none⟩,
  ⟨(some 26), .fldA 11 (.tmp 25), none⟩,
  ⟨(some 27), .ld (.slice) (.tmp 26), none⟩,
  ⟨(some 28), .mv (.tmp 1), none⟩,
  ⟨(some 29), .shc .shr .i64 (.tmp 28) 1, none⟩,
  ⟨(some 30), .idxA 2 (.tmp 27) (.tmp 29), none⟩,
  ⟨(some 31), .fldA 0 (.tmp 30), none⟩,
  ⟨(some 32), .ld (.int .i64) (.tmp 31), none⟩,
  ⟨(some 33), .icmp .neq .i64 (.tmp 32) (.const (.int .i64 0)), none⟩]) (.cond (.tmp 33) (.seq (.region .txt [⟨(some 6), .mv (.const (.int .i64 31)), none⟩]) .ret) .skip)) (.seq (.region .txt [⟨(some 34), .mv (.tmp 0), none⟩,
  ⟨(some 35), .nilck (.tmp 34), none⟩,
  ⟨(some 36), .fldA 11 (.tmp 35), none⟩,
  ⟨(some 37), .ld (.slice) (.tmp 36), none⟩,
  ⟨(some 38), .mv (.tmp 1), none⟩,
  ⟨(some 39), .shc .shr .i64 (.tmp 38) 1, none⟩,
  ⟨(some 40), .ldn [.int .i64, .int .i64] (.tmp 5), none⟩,
  ⟨(some 41), .idxA 2 (.tmp 37) (.tmp 39), none⟩,
  ⟨none, .st 2 (.tmp 41) (.tmp 40), none⟩]) (.seq (.region .txt [⟨(some 6), .mv (.const (.int .i64 0)), none⟩]) .ret)))))
def loops149 : List (List (Nat × Shp)) := []
def ret149 : List RV := [.tmp 6]
theorem comp149 : compF Try.prog Try.f149 loops149 = some (42, ret149, code149) := by kernel_rfl
def J149_1  (R : Value → Heap → Prop) (h : Heap) (k : (Option Addr)) (l : Int) (h_2 : Heap) : Prop :=
 AtP k fun ad3 => ∃ (A1 : Option Addr), ∃ (N1 : Nat), ∃ (C1 : Nat), cellH h_2 (Addr.add ad3 11) = some (.slice A1 N1 C1) ∧ ∃ (t2 : Int), ∃ (t3 : Int), cellsH h_2 (Addr.mk (h).size 0 none) 0 [(.int .i64 t2), (.int .i64 t3)] ∧ 0 ≤ ((l / ((2 ^ 1 : Nat) : Int)) : Int) ∧ ((l / ((2 ^ 1 : Nat) : Int)) : Int) < (N1 : Nat) ∧ AtP A1 fun ad4 => StoreH h_2 (Addr.add ad4 (Int.toNat (l / ((2 ^ 1 : Nat) : Int)) * 2)) [(.int .i64 t2), (.int .i64 t3)] fun h_3 => R (.int .i64 0) h_3
def J149_0  (R : Value → Heap → Prop) (h : Heap) (k : (Option Addr)) (l : Int) (h_1 : Heap) : Prop :=
 AtP k fun ad1 => ∃ (A : Option Addr), ∃ (N : Nat), ∃ (C : Nat), cellH h_1 (Addr.add ad1 11) = some (.slice A N C) ∧ 0 ≤ ((l / ((2 ^ 1 : Nat) : Int)) : Int) ∧ ((l / ((2 ^ 1 : Nat) : Int)) : Int) < (N : Nat) ∧ AtP A fun ad2 => ∃ (t1 : Int), cellH h_1 (Addr.add (Addr.add ad2 (Int.toNat (l / ((2 ^ 1 : Nat) : Int)) * 2)) 0) = some (.int .i64 t1) ∧ PIf ((t1 : Int) = 0)
 (J149_1 R h k l h_1)
 (R (.int .i64 31) h_1)
def VC149 (P : Program) (k : Option Addr) (l : Int) (m : Int) (m1 : Int) (R : Value → Heap → Prop) (h : Heap) : Prop :=
 let h_ : Heap := (h).push (.cells (Value.cells (.agg #[(.int .i64 m), (.int .i64 m1)])) 202); PIf ((l : Int) < 2)
 (R (.int .i64 30) h_)
 (PIf (((bop .and .i64 l 1) : Int) = 1)
 (R (.int .i64 30) h_)
 (AtP k fun ad => ∃ (t : Int), cellH h_ (Addr.add (Addr.add ad 0) 0) = some (.int .i64 t) ∧ PIf (((IntKind.wrap .i64 (2 * t)) : Int) < l)
 (R (.int .i64 30) h_)
 (J149_0 R h k l h_)))
theorem vc149 (P : Program) (k : Option Addr) (l : Int) (m : Int) (m1 : Int) (R : Value → Heap → Prop) (h : Heap) : fnC P ret149 code149 [(.pointer k), (.int .i64 l), (.agg #[(.int .i64 m), (.int .i64 m1)])] h R = VC149 P k l m m1 R h := by kernel_rfl
theorem run149 (k : Option Addr) (l : Int) (m : Int) (m1 : Int) (R : Value → Heap → Prop) (h : Heap) (hv : VC149 Try.prog k l m m1 R h) : CallsH Try.prog 149 #[(.pointer k), (.int .i64 l), (.agg #[(.int .i64 m), (.int .i64 m1)])] h R := calls_of_fnC (Checked.mixed Try.checked) Try.func149 comp149 (Nat.le_of_ble_eq_true rfl) (by rw [vc149]; exact hv)

/-! 150: (*trestle/shape.looker).use -/
def code150 : SCode := (.seq (.region .txt [⟨(some 4), .mv (.const (.int .i64 0)), none⟩]) (.seq (.seq (.region .txt [⟨(some 7), .mv (.tmp 1), none⟩,
  ⟨(some 8), .len (.tmp 7), none⟩,
  ⟨(some 9), .mv (.const (.int .i64 0)), none⟩]) (.block 0 (.loop [(9, .int .i64)] [10, 11, 12, 6, 13, 14, 15, 16, 17, 18, 19, 20, 21, 22, 23, 24, 25, 4, 26, 27, 28, 29, 30, 31, 32, 33, 34, 35, 36, 37, 38, 39, 4, 40, 9] (.seq (.region .txt [⟨(some 10), .icmp .lss .i64 (.tmp 9) (.tmp 8), none⟩]) (.seq (.cond (.tmp 10) .skip (.exit 0)) (.seq (.block 1 (.seq (.region .txt [⟨(some 11), .idxA 1 (.tmp 7) (.tmp 9), none⟩,
  ⟨(some 12), .ld (.int .i64) (.tmp 11), none⟩,
  ⟨(some 6), .mv (.tmp 12), none⟩]) (.seq (.seq (.region .txt [⟨(some 13), .mv (.tmp 6), none⟩,
  ⟨(some 14), .icmp .lss .i64 (.tmp 13) (.const (.int .i64 0)), none⟩,
  ⟨(some 15), .mv (.tmp 14), none⟩,
  ⟨(some 16), .mv (.tmp 6), (some (15, false))⟩,
  ⟨(some 17), .mv (.tmp 0), (some (15, false))⟩,
  ⟨(some 18), .nilck (.tmp 17), (some (15, false))⟩,
  ⟨(some 19), .fldA 0 (.tmp 18), (some (15, false))⟩,
  ⟨(some 20), .fldA 0 (.tmp 19), (some (15, false))⟩,
  ⟨(some 21), .ld (.int .i64) (.tmp 20), (some (15, false))⟩,
  ⟨(some 22), .arith .mul .i64 (.const (.int .i64 2)) (.tmp 21), (some (15, false))⟩,
  ⟨(some 23), .arith .add .i64 (.tmp 22) (.const (.int .i64 1)), (some (15, false))⟩,
  ⟨(some 24), .icmp .gtr .i64 (.tmp 16) (.tmp 23), (some (15, false))⟩,
  ⟨(some 25), .pick (.tmp 15) (.const (.bool true)) (.tmp 24), none⟩]) (.cond (.tmp 25) (.seq (.region .txt [⟨(some 4), .mv (.const (.int .i64 30)), none⟩]) .ret) .skip)) (.seq (.region .txt [⟨(some 26), .mv (.tmp 6), none⟩,
  ⟨(some 27), .icmp .gtr .i64 (.tmp 26) (.const (.int .i64 1)), none⟩,
  ⟨(some 28), .mv (.tmp 27), none⟩,
  ⟨(some 29), .mv (.tmp 0), (some (28, true))⟩,
  ⟨(some 30), .nilck (.tmp 29), (some (28, true))⟩,
  ⟨(some 31), .fldA 11 (.tmp 30), (some (28, true))⟩,
  ⟨(some 32), .ld (.slice) (.tmp 31), (some (28, true))⟩,
  ⟨(some 33), .mv (.tmp 6), (some (28, true))⟩,
  ⟨(some 34), .shc .shr .i64 (.tmp 33) 1, (some (28, true))⟩,
  ⟨(some 35), .idxA 2 (.tmp 32) (.tmp 34), (some (28, true))⟩,
  ⟨(some 36), .fldA 0 (.tmp 35), (some (28, true))⟩,
  ⟨(some 37), .ld (.int .i64) (.tmp 36), (some (28, true))⟩,
  ⟨(some 38), .icmp .eql .i64 (.tmp 37) (.const (.int .i64 0)), (some (28, true))⟩,
  ⟨(some 39), .pick (.tmp 28) (.tmp 38) (.const (.bool false)), none⟩]) (.cond (.tmp 39) (.seq (.region .txt [⟨(some 4), .mv (.const (.int .i64 32)), none⟩]) .ret) .skip))))) (.region .txt [⟨(some 40), .arith .add .i64 (.tmp 9) (.const (.int .i64 1)), none⟩,
  ⟨(some 9), .mv (.tmp 40), none⟩]))))))) (.seq (.region .txt [⟨(some 4), .mv (.const (.int .i64 0)), none⟩]) .ret)))
def loops150 : List (List (Nat × Shp)) := [[(9, .int .i64)]]
def ret150 : List RV := [.tmp 4]
theorem comp150 : compF Try.prog Try.f150 loops150 = some (41, ret150, code150) := by kernel_rfl
def J150_2  (R : Value → Heap → Prop) (k : (Option Addr)) (t : Int) (next_ : (Int → Heap → Prop)) (t1 : Int) (h_2 : Heap) : Prop :=
 PIf ((1 : Int) < t1)
 (AtP k fun ad2 => ∃ (A : Option Addr), ∃ (N : Nat), ∃ (C : Nat), cellH h_2 (Addr.add ad2 11) = some (.slice A N C) ∧ 0 ≤ ((t1 / ((2 ^ 1 : Nat) : Int)) : Int) ∧ ((t1 / ((2 ^ 1 : Nat) : Int)) : Int) < (N : Nat) ∧ AtP A fun ad3 => ∃ (t3 : Int), cellH h_2 (Addr.add (Addr.add ad3 (Int.toNat (t1 / ((2 ^ 1 : Nat) : Int)) * 2)) 0) = some (.int .i64 t3) ∧ PIf ((t3 : Int) = 0)
 (R (.int .i64 32) h_2)
 (next_ ((IntKind.wrap .i64 (t + 1))) h_2))
 (next_ ((IntKind.wrap .i64 (t + 1))) h_2)
def J150_1  (R : Value → Heap → Prop) (k : (Option Addr)) (lA : (Option Addr)) (lN : Nat) (t : Int) (next_ : (Int → Heap → Prop)) (h_1 : Heap) : Prop :=
 0 ≤ (t : Int) ∧ (t : Int) < (lN : Nat) ∧ AtP lA fun ad => ∃ (t1 : Int), cellH h_1 (Addr.add ad (Int.toNat t * 1)) = some (.int .i64 t1) ∧ PIf ((t1 : Int) < 0)
 (R (.int .i64 30) h_1)
 (AtP k fun ad1 => ∃ (t2 : Int), cellH h_1 (Addr.add (Addr.add ad1 0) 0) = some (.int .i64 t2) ∧ PIf (((IntKind.wrap .i64 ((IntKind.wrap .i64 (2 * t2)) + 1)) : Int) < t1)
 (R (.int .i64 30) h_1)
 (J150_2 R k t next_ t1 h_1))
def J150_0  (R : Value → Heap → Prop) (h_3 : Heap) : Prop :=
 R (.int .i64 0) h_3
def B150_4 (R : Value → Heap → Prop) (k : (Option Addr)) (lA : (Option Addr)) (lN : Nat) (t : Int) (h_ : Heap) (next_ : Int → Heap → Prop) : Prop :=
 PIf ((t : Int) < ((lN : Nat) : Int))
 (J150_1 R k lA lN t next_ h_)
 (J150_0 R h_)
def VC150 (P : Program) (k : Option Addr) (lA : Option Addr) (lN : Nat) (lC : Nat) (R : Value → Heap → Prop) (h : Heap) : Prop :=
 LoopT (σ := Int) (fun st_ h_st nx_st => B150_4 R k lA lN (st_) h_st nx_st) (0) h
theorem vc150 (P : Program) (k : Option Addr) (lA : Option Addr) (lN : Nat) (lC : Nat) (R : Value → Heap → Prop) (h : Heap) : fnC P ret150 code150 [(.pointer k), (.slice lA lN lC)] h R = VC150 P k lA lN lC R h := by kernel_rfl
theorem run150 (k : Option Addr) (lA : Option Addr) (lN : Nat) (lC : Nat) (R : Value → Heap → Prop) (h : Heap) (hv : VC150 Try.prog k lA lN lC R h) : CallsH Try.prog 150 #[(.pointer k), (.slice lA lN lC)] h R := calls_of_fnC (Checked.mixed Try.checked) Try.func150 comp150 (Nat.le_of_ble_eq_true rfl) (by rw [vc150]; exact hv)

/-! 151: (*trestle/shape.looker).below -/
def code151 : SCode := (.seq (.region .txt [⟨(some 4), .mv (.const (.slice none 0 0)), none⟩]) (.seq (.region .txt [⟨(some 5), .mv (.const (.slice none 0 0)), none⟩]) (.seq (.seq (.region .txt [⟨(some 9), .mv (.tmp 0), none⟩,
  ⟨(some 10), .nilck (.tmp 9), none⟩,
  ⟨(some 11), .fldA 0 (.tmp 10), none⟩,
  ⟨(some 12), .fldA 8 (.tmp 11), none⟩,
  ⟨(some 13), .ld (.slice) (.tmp 12), none⟩,
  ⟨(some 14), .mv (.tmp 1), none⟩,
  ⟨(some 15), .idxA 3 (.tmp 13) (.tmp 14), none⟩,
  ⟨(some 16), .fldA 1 (.tmp 15), none⟩,
  ⟨(some 17), .ld (.int .i64) (.tmp 16), none⟩,
  ⟨(some 18), .mv (.tmp 0), none⟩,
  ⟨(some 19), .nilck (.tmp 18), none⟩,
  ⟨(some 20), .fldA 0 (.tmp 19), none⟩,
  ⟨(some 21), .fldA 8 (.tmp 20), none⟩,
  ⟨(some 22), .ld (.slice) (.tmp 21), none⟩,
  ⟨(some 23), .mv (.tmp 1), none⟩,
  ⟨(some 24), .idxA 3 (.tmp 22) (.tmp 23), none⟩,
  ⟨(some 25), .fldA 2 (.tmp 24), none⟩,
  ⟨(some 26), .ld (.int .i64) (.tmp 25), none⟩,
  ⟨(some 27), .mkAgg #[(.int .i64 0), (.int .i64 0)] [(0, 1, (.tmp 17)), (1, 1, (.tmp 26))], none⟩,
  ⟨(some 28), .mv (.const (.int .i64 0)), none⟩]) (.block 0 (.loop [(5, .slice), (28, .int .i64)] [29, 30, 7, 31, 32, 33, 34, 35, 36, 37, 38, 8, 39, 40, 41, 42, 43, 44, 45, 46, 5, 47, 28] (.seq (.region .txt [⟨(some 29), .icmp .lss .i64 (.tmp 28) (.const (.int .i64 2)), none⟩]) (.seq (.cond (.tmp 29) .skip (.exit 0)) (.seq (.block 1 (.seq (.region .txt [⟨(some 30), .idxV (.int .i64) 2 (.tmp 27) (.tmp 28), none⟩,
  ⟨(some 7), .mv (.tmp 30), none⟩]) (.seq (.region .txt [⟨(some 31), .mv (.tmp 0), none⟩,
  ⟨(some 32), .nilck (.tmp 31), none⟩,
  ⟨(some 33), .fldA 11 (.tmp 32), none⟩,
  ⟨(some 34), .ld (.slice) (.tmp 33), none⟩,
  ⟨(some 35), .mv (.tmp 7), none⟩,
  ⟨(some 36), .shc .shr .i64 (.tmp 35) 1, none⟩,
  ⟨(some 37), .idxA 2 (.tmp 34) (.tmp 36), none⟩,
  ⟨(some 38), .ldn [.int .i64, .int .i64] (.tmp 37), none⟩,
  ⟨(some 8), .alloc 202 (.agg #[(.int .i64 0), (.int .i64 0)]), none⟩,
  ⟨none, .st 2 (.tmp 8) (.tmp 38), none⟩]) (.seq (.region .txt [⟨(some 39), .fldA 0 (.tmp 8), none⟩,
  ⟨(some 40), .ld (.int .i64) (.tmp 39), none⟩,
  ⟨(some 41), .icmp .eql .i64 (.tmp 40) (.const (.int .i64 3)), none⟩]) (.cond (.tmp 41) (.region .txt [⟨(some 42), .mv (.tmp 5), none⟩,
  ⟨(some 43), .fldA 1 (.tmp 8), none⟩,
  ⟨(some 44), .ld (.int .i64) (.tmp 43), none⟩,
  ⟨(some 45), .lit 3 1 #[(.int .i64 0)] [(0, 1, (.tmp 44))], none⟩,
  ⟨(some 46), .app 3 8 1 #[(.int .i64 0)] (.tmp 42) (.tmp 45), none⟩,
  ⟨(some 5), .mv (.tmp 46), none⟩]) .skip))))) (.region .txt [⟨(some 47), .arith .add .i64 (.tmp 28) (.const (.int .i64 1)), none⟩,
  ⟨(some 28), .mv (.tmp 47), none⟩]))))))) (.seq (.region .txt [⟨(some 48), .mv (.tmp 5), none⟩,
  ⟨(some 4), .mv (.tmp 48), none⟩]) .ret))))
def loops151 : List (List (Nat × Shp)) := [[(5, .slice), (28, .int .i64)]]
def ret151 : List RV := [.tmp 4]
theorem comp151 : compF Try.prog Try.f151 loops151 = some (49, ret151, code151) := by kernel_rfl
def J151_1  (k : (Option Addr)) (t : Int) (t1 : Int) (outA : (Option Addr)) (outN : Nat) (outC : Nat) (t2 : Int) (next_ : ((Option Addr × Nat × Nat) × Int → Heap → Prop)) (h_1 : Heap) : Prop :=
 0 ≤ (t2 : Int) ∧ (t2 : Int) < (2 : Nat) ∧ ∃ (t3 : Int), ([(.int .i64 t), (.int .i64 t1)] : List Value)[Int.toNat t2]? = some (.int .i64 t3) ∧ AtP k fun ad4 => ∃ (A2 : Option Addr), ∃ (N2 : Nat), ∃ (C2 : Nat), cellH h_1 (Addr.add ad4 11) = some (.slice A2 N2 C2) ∧ 0 ≤ ((t3 / ((2 ^ 1 : Nat) : Int)) : Int) ∧ ((t3 / ((2 ^ 1 : Nat) : Int)) : Int) < (N2 : Nat) ∧ AtP A2 fun ad5 => ∃ (t4 : Int), ∃ (t5 : Int), cellsH h_1 (Addr.add ad5 (Int.toNat (t3 / ((2 ^ 1 : Nat) : Int)) * 2)) 0 [(.int .i64 t4), (.int .i64 t5)] ∧ let h_2 : Heap := (h_1).push (.cells #[(.int .i64 0), (.int .i64 0)] 202); StoreH h_2 (Addr.mk (h_1).size 0 none) [(.int .i64 t4), (.int .i64 t5)] fun h_3 => ∃ (t6 : Int), cellH h_3 (Addr.add (Addr.mk (h_1).size 0 none) 0) = some (.int .i64 t6) ∧ PIf ((t6 : Int) = 3)
 (∃ (t7 : Int), cellH h_3 (Addr.add (Addr.mk (h_1).size 0 none) 1) = some (.int .i64 t7) ∧ let h_4 : Heap := (h_3).push (.cells #[(.int .i64 t7)] 3); ∃ ys : List Value, ReadL h_4 (some (Addr.mk (h_3).size 0 none)) ys ∧ ys.length = 1 * 1 ∧ AppS h_4 outA outN outC 3 8 1 #[(.int .i64 0)] ys 1 fun apA apN apC h_5 => next_ ((apA, apN, apC), (IntKind.wrap .i64 (t2 + 1))) h_5)
 (next_ ((outA, outN, outC), (IntKind.wrap .i64 (t2 + 1))) h_3)
def J151_0  (R : Value → Heap → Prop) (outA1 : Option Addr) (outN1 : Nat) (outC1 : Nat) (h_6 : Heap) : Prop :=
 R (.slice outA1 outN1 outC1) h_6
def B151_3 (R : Value → Heap → Prop) (k : (Option Addr)) (t : Int) (t1 : Int) (outA : Option Addr) (outN : Nat) (outC : Nat) (t2 : Int) (h_ : Heap) (next_ : (Option Addr × Nat × Nat) × Int → Heap → Prop) : Prop :=
 PIf ((t2 : Int) < 2)
 (J151_1 k t t1 outA outN outC t2 next_ h_)
 (J151_0 R (outA) (outN) (outC) h_)
def VC151 (P : Program) (k : Option Addr) (i : Int) (R : Value → Heap → Prop) (h : Heap) : Prop :=
 AtP k fun ad => ∃ (A : Option Addr), ∃ (N : Nat), ∃ (C : Nat), cellH h (Addr.add (Addr.add ad 0) 8) = some (.slice A N C) ∧ 0 ≤ (i : Int) ∧ (i : Int) < (N : Nat) ∧ AtP A fun ad1 => ∃ (t : Int), cellH h (Addr.add (Addr.add ad1 (Int.toNat i * 3)) 1) = some (.int .i64 t) ∧ AtP k fun ad2 => ∃ (A1 : Option Addr), ∃ (N1 : Nat), ∃ (C1 : Nat), cellH h (Addr.add (Addr.add ad2 0) 8) = some (.slice A1 N1 C1) ∧ 0 ≤ (i : Int) ∧ (i : Int) < (N1 : Nat) ∧ AtP A1 fun ad3 => ∃ (t1 : Int), cellH h (Addr.add (Addr.add ad3 (Int.toNat i * 3)) 2) = some (.int .i64 t1) ∧ LoopT (σ := (Option Addr × Nat × Nat) × Int) (fun st_ h_st nx_st => B151_3 R k t t1 (st_.1.1) (st_.1.2.1) (st_.1.2.2) (st_.2) h_st nx_st) ((none, 0, 0), 0) h
theorem vc151 (P : Program) (k : Option Addr) (i : Int) (R : Value → Heap → Prop) (h : Heap) : fnC P ret151 code151 [(.pointer k), (.int .i64 i)] h R = VC151 P k i R h := by kernel_rfl
theorem run151 (k : Option Addr) (i : Int) (R : Value → Heap → Prop) (h : Heap) (hv : VC151 Try.prog k i R h) : CallsH Try.prog 151 #[(.pointer k), (.int .i64 i)] h R := calls_of_fnC (Checked.mixed Try.checked) Try.func151 comp151 (Nat.le_of_ble_eq_true rfl) (by rw [vc151]; exact hv)

/-! 152: trestle/shape.many -/
def code152 : SCode := (.seq (.region .txt [⟨(some 2), .box 29 (.tmp 0), none⟩,
  ⟨(some 4), .mv (.const (.int .i64 0)), none⟩]) (.seq (.seq (.region .txt [⟨(some 5), .mv (.tmp 1), none⟩]) (.block 0 (.seq (.region .txt [⟨(some 7), .icmp .eql .u8 (.tmp 5) (.const (.int .u8 105)), none⟩,
  ⟨(some 6), .mv (.tmp 7), none⟩]) (.cond (.tmp 6) (.seq (.region .txt [⟨(some 8), .fldA 1 (.tmp 2), none⟩,
  ⟨(some 9), .ld (.slice) (.tmp 8), none⟩,
  ⟨(some 10), .len (.tmp 9), none⟩,
  ⟨(some 4), .mv (.tmp 10), none⟩]) .ret) (.seq (.region .txt [⟨(some 12), .icmp .eql .u8 (.tmp 5) (.const (.int .u8 108)), none⟩,
  ⟨(some 11), .mv (.tmp 12), none⟩]) (.cond (.tmp 11) (.seq (.region .txt [⟨(some 13), .fldA 2 (.tmp 2), none⟩,
  ⟨(some 14), .ld (.slice) (.tmp 13), none⟩,
  ⟨(some 15), .len (.tmp 14), none⟩,
  ⟨(some 4), .mv (.tmp 15), none⟩]) .ret) (.seq (.region .txt [⟨(some 17), .icmp .eql .u8 (.tmp 5) (.const (.int .u8 111)), none⟩,
  ⟨(some 16), .mv (.tmp 17), none⟩]) (.cond (.tmp 16) (.seq (.region .txt [⟨(some 18), .fldA 3 (.tmp 2), none⟩,
  ⟨(some 19), .ld (.slice) (.tmp 18), none⟩,
  ⟨(some 20), .len (.tmp 19), none⟩,
  ⟨(some 4), .mv (.tmp 20), none⟩]) .ret) (.seq (.region .txt [⟨(some 22), .icmp .eql .u8 (.tmp 5) (.const (.int .u8 98)), none⟩,
  ⟨(some 21), .mv (.tmp 22), none⟩]) (.cond (.tmp 21) (.seq (.region .txt [⟨(some 23), .fldA 4 (.tmp 2), none⟩,
  ⟨(some 24), .ld (.slice) (.tmp 23), none⟩,
  ⟨(some 25), .len (.tmp 24), none⟩,
  ⟨(some 4), .mv (.tmp 25), none⟩]) .ret) (.seq (.region .txt [⟨(some 27), .icmp .eql .u8 (.tmp 5) (.const (.int .u8 99)), none⟩,
  ⟨(some 26), .mv (.tmp 27), none⟩]) (.cond (.tmp 26) (.seq (.region .txt [⟨(some 28), .fldA 5 (.tmp 2), none⟩,
  ⟨(some 29), .ld (.slice) (.tmp 28), none⟩,
  ⟨(some 30), .len (.tmp 29), none⟩,
  ⟨(some 4), .mv (.tmp 30), none⟩]) .ret) (.seq (.region .txt [⟨(some 32), .icmp .eql .u8 (.tmp 5) (.const (.int .u8 106)), none⟩,
  ⟨(some 31), .mv (.tmp 32), none⟩]) (.cond (.tmp 31) (.seq (.region .txt [⟨(some 33), .fldA 6 (.tmp 2), none⟩,
  ⟨(some 34), .ld (.slice) (.tmp 33), none⟩,
  ⟨(some 35), .len (.tmp 34), none⟩,
  ⟨(some 4), .mv (.tmp 35), none⟩]) .ret) (.seq (.region .txt [⟨(some 37), .icmp .eql .u8 (.tmp 5) (.const (.int .u8 102)), none⟩,
  ⟨(some 36), .mv (.tmp 37), none⟩]) (.cond (.tmp 36) (.seq (.region .txt [⟨(some 38), .fldA 7 (.tmp 2), none⟩,
  ⟨(some 39), .ld (.slice) (.tmp 38), none⟩,
  ⟨(some 40), .len (.tmp 39), none⟩,
  ⟨(some 4), .mv (.tmp 40), none⟩]) .ret) .skip)))))))))))))))) (.seq (.region .txt [⟨(some 4), .mv (.const (.int .i64 (-1))), none⟩]) .ret)))
def loops152 : List (List (Nat × Shp)) := []
def ret152 : List RV := [.tmp 4]
theorem comp152 : compF Try.prog Try.f152 loops152 = some (41, ret152, code152) := by kernel_rfl
def VC152 (P : Program) (c : Int) (cA : Option Addr) (cN : Nat) (cC : Nat) (cA1 : Option Addr) (cN1 : Nat) (cC1 : Nat) (cA2 : Option Addr) (cN2 : Nat) (cC2 : Nat) (cA3 : Option Addr) (cN3 : Nat) (cC3 : Nat) (cA4 : Option Addr) (cN4 : Nat) (cC4 : Nat) (cA5 : Option Addr) (cN5 : Nat) (cC5 : Nat) (cA6 : Option Addr) (cN6 : Nat) (cC6 : Nat) (cA7 : Option Addr) (cN7 : Nat) (cC7 : Nat) (cA8 : Option Addr) (cN8 : Nat) (cC8 : Nat) (cA9 : Option Addr) (cN9 : Nat) (cC9 : Nat) (kind : Int) (R : Value → Heap → Prop) (h : Heap) : Prop :=
 let h_ : Heap := (h).push (.cells (Value.cells (.agg #[(.int .i64 c), (.slice cA cN cC), (.slice cA1 cN1 cC1), (.slice cA2 cN2 cC2), (.slice cA3 cN3 cC3), (.slice cA4 cN4 cC4), (.slice cA5 cN5 cC5), (.slice cA6 cN6 cC6), (.slice cA7 cN7 cC7), (.slice cA8 cN8 cC8), (.slice cA9 cN9 cC9)])) 29); PIf ((kind : Int) = 105)
 (∃ (A : Option Addr), ∃ (N : Nat), ∃ (C : Nat), cellH h_ (Addr.add (Addr.mk (h).size 0 none) 1) = some (.slice A N C) ∧ R (.int .i64 ((N : Nat) : Int)) h_)
 (PIf ((kind : Int) = 108)
 (∃ (A1 : Option Addr), ∃ (N1 : Nat), ∃ (C1 : Nat), cellH h_ (Addr.add (Addr.mk (h).size 0 none) 2) = some (.slice A1 N1 C1) ∧ R (.int .i64 ((N1 : Nat) : Int)) h_)
 (PIf ((kind : Int) = 111)
 (∃ (A2 : Option Addr), ∃ (N2 : Nat), ∃ (C2 : Nat), cellH h_ (Addr.add (Addr.mk (h).size 0 none) 3) = some (.slice A2 N2 C2) ∧ R (.int .i64 ((N2 : Nat) : Int)) h_)
 (PIf ((kind : Int) = 98)
 (∃ (A3 : Option Addr), ∃ (N3 : Nat), ∃ (C3 : Nat), cellH h_ (Addr.add (Addr.mk (h).size 0 none) 4) = some (.slice A3 N3 C3) ∧ R (.int .i64 ((N3 : Nat) : Int)) h_)
 (PIf ((kind : Int) = 99)
 (∃ (A4 : Option Addr), ∃ (N4 : Nat), ∃ (C4 : Nat), cellH h_ (Addr.add (Addr.mk (h).size 0 none) 5) = some (.slice A4 N4 C4) ∧ R (.int .i64 ((N4 : Nat) : Int)) h_)
 (PIf ((kind : Int) = 106)
 (∃ (A5 : Option Addr), ∃ (N5 : Nat), ∃ (C5 : Nat), cellH h_ (Addr.add (Addr.mk (h).size 0 none) 6) = some (.slice A5 N5 C5) ∧ R (.int .i64 ((N5 : Nat) : Int)) h_)
 (PIf ((kind : Int) = 102)
 (∃ (A6 : Option Addr), ∃ (N6 : Nat), ∃ (C6 : Nat), cellH h_ (Addr.add (Addr.mk (h).size 0 none) 7) = some (.slice A6 N6 C6) ∧ R (.int .i64 ((N6 : Nat) : Int)) h_)
 (R (.int .i64 (-1)) h_)))))))
theorem vc152 (P : Program) (c : Int) (cA : Option Addr) (cN : Nat) (cC : Nat) (cA1 : Option Addr) (cN1 : Nat) (cC1 : Nat) (cA2 : Option Addr) (cN2 : Nat) (cC2 : Nat) (cA3 : Option Addr) (cN3 : Nat) (cC3 : Nat) (cA4 : Option Addr) (cN4 : Nat) (cC4 : Nat) (cA5 : Option Addr) (cN5 : Nat) (cC5 : Nat) (cA6 : Option Addr) (cN6 : Nat) (cC6 : Nat) (cA7 : Option Addr) (cN7 : Nat) (cC7 : Nat) (cA8 : Option Addr) (cN8 : Nat) (cC8 : Nat) (cA9 : Option Addr) (cN9 : Nat) (cC9 : Nat) (kind : Int) (R : Value → Heap → Prop) (h : Heap) : fnC P ret152 code152 [(.agg #[(.int .i64 c), (.slice cA cN cC), (.slice cA1 cN1 cC1), (.slice cA2 cN2 cC2), (.slice cA3 cN3 cC3), (.slice cA4 cN4 cC4), (.slice cA5 cN5 cC5), (.slice cA6 cN6 cC6), (.slice cA7 cN7 cC7), (.slice cA8 cN8 cC8), (.slice cA9 cN9 cC9)]), (.int .u8 kind)] h R = VC152 P c cA cN cC cA1 cN1 cC1 cA2 cN2 cC2 cA3 cN3 cC3 cA4 cN4 cC4 cA5 cN5 cC5 cA6 cN6 cC6 cA7 cN7 cC7 cA8 cN8 cC8 cA9 cN9 cC9 kind R h := by kernel_rfl
theorem run152 (c : Int) (cA : Option Addr) (cN : Nat) (cC : Nat) (cA1 : Option Addr) (cN1 : Nat) (cC1 : Nat) (cA2 : Option Addr) (cN2 : Nat) (cC2 : Nat) (cA3 : Option Addr) (cN3 : Nat) (cC3 : Nat) (cA4 : Option Addr) (cN4 : Nat) (cC4 : Nat) (cA5 : Option Addr) (cN5 : Nat) (cC5 : Nat) (cA6 : Option Addr) (cN6 : Nat) (cC6 : Nat) (cA7 : Option Addr) (cN7 : Nat) (cC7 : Nat) (cA8 : Option Addr) (cN8 : Nat) (cC8 : Nat) (cA9 : Option Addr) (cN9 : Nat) (cC9 : Nat) (kind : Int) (R : Value → Heap → Prop) (h : Heap) (hv : VC152 Try.prog c cA cN cC cA1 cN1 cC1 cA2 cN2 cC2 cA3 cN3 cC3 cA4 cN4 cC4 cA5 cN5 cC5 cA6 cN6 cC6 cA7 cN7 cC7 cA8 cN8 cC8 cA9 cN9 cC9 kind R h) : CallsH Try.prog 152 #[(.agg #[(.int .i64 c), (.slice cA cN cC), (.slice cA1 cN1 cC1), (.slice cA2 cN2 cC2), (.slice cA3 cN3 cC3), (.slice cA4 cN4 cC4), (.slice cA5 cN5 cC5), (.slice cA6 cN6 cC6), (.slice cA7 cN7 cC7), (.slice cA8 cN8 cC8), (.slice cA9 cN9 cC9)]), (.int .u8 kind)] h R := calls_of_fnC (Checked.mixed Try.checked) Try.func152 comp152 (Nat.le_of_ble_eq_true rfl) (by rw [vc152]; exact hv)

/-! 153: slices.Index[[]byte,byte] -/
def code153 : SCode := (.seq (.region .txt [⟨(some 4), .mv (.const (.int .i64 0)), none⟩]) (.seq (.seq (.region .txt [⟨(some 6), .mv (.tmp 0), none⟩,
  ⟨(some 7), .len (.tmp 6), none⟩,
  ⟨(some 8), .mv (.const (.int .i64 0)), none⟩]) (.block 0 (.loop [(8, .int .i64)] [9, 10, 5, 11, 12, 13, 14, 15, 16, 17, 4, 18, 8] (.seq (.region .txt [⟨(some 9), .icmp .lss .i64 (.tmp 8) (.tmp 7), none⟩]) (.seq (.cond (.tmp 9) .skip (.exit 0)) (.seq (.block 1 (.seq (.region .txt [⟨(some 10), .mv (.tmp 8), none⟩,
  ⟨(some 5), .mv (.tmp 10), none⟩]) (.seq (.region .txt [⟨(some 11), .mv (.tmp 1), none⟩,
  ⟨(some 12), .mv (.tmp 0), none⟩,
  ⟨(some 13), .mv (.tmp 5), none⟩,
  ⟨(some 14), .idxA 1 (.tmp 12) (.tmp 13), none⟩,
  ⟨(some 15), .ld (.int .u8) (.tmp 14), none⟩,
  ⟨(some 16), .icmp .eql .u8 (.tmp 11) (.tmp 15), none⟩]) (.cond (.tmp 16) (.seq (.region .txt [⟨(some 17), .mv (.tmp 5), none⟩,
  ⟨(some 4), .mv (.tmp 17), none⟩]) .ret) .skip)))) (.region .txt [⟨(some 18), .arith .add .i64 (.tmp 8) (.const (.int .i64 1)), none⟩,
  ⟨(some 8), .mv (.tmp 18), none⟩]))))))) (.seq (.region .txt [⟨(some 4), .mv (.const (.int .i64 (-1))), none⟩]) .ret)))
def loops153 : List (List (Nat × Shp)) := [[(8, .int .i64)]]
def ret153 : List RV := [.tmp 4]
theorem comp153 : compF Try.prog Try.f153 loops153 = some (19, ret153, code153) := by kernel_rfl
def J153_1  (R : Value → Heap → Prop) (sA : (Option Addr)) (sN : Nat) (v : Int) (t : Int) (next_ : (Int → Heap → Prop)) (h_1 : Heap) : Prop :=
 0 ≤ (t : Int) ∧ (t : Int) < (sN : Nat) ∧ AtP sA fun ad => ∃ (t1 : Int), cellH h_1 (Addr.add ad (Int.toNat t * 1)) = some (.int .u8 t1) ∧ PIf ((v : Int) = t1)
 (R (.int .i64 t) h_1)
 (next_ ((IntKind.wrap .i64 (t + 1))) h_1)
def J153_0  (R : Value → Heap → Prop) (h_2 : Heap) : Prop :=
 R (.int .i64 (-1)) h_2
def B153_3 (R : Value → Heap → Prop) (sA : (Option Addr)) (sN : Nat) (v : Int) (t : Int) (h_ : Heap) (next_ : Int → Heap → Prop) : Prop :=
 PIf ((t : Int) < ((sN : Nat) : Int))
 (J153_1 R sA sN v t next_ h_)
 (J153_0 R h_)
def VC153 (P : Program) (sA : Option Addr) (sN : Nat) (sC : Nat) (v : Int) (R : Value → Heap → Prop) (h : Heap) : Prop :=
 LoopT (σ := Int) (fun st_ h_st nx_st => B153_3 R sA sN v (st_) h_st nx_st) (0) h
theorem vc153 (P : Program) (sA : Option Addr) (sN : Nat) (sC : Nat) (v : Int) (R : Value → Heap → Prop) (h : Heap) : fnC P ret153 code153 [(.slice sA sN sC), (.int .u8 v)] h R = VC153 P sA sN sC v R h := by kernel_rfl
theorem run153 (sA : Option Addr) (sN : Nat) (sC : Nat) (v : Int) (R : Value → Heap → Prop) (h : Heap) (hv : VC153 Try.prog sA sN sC v R h) : CallsH Try.prog 153 #[(.slice sA sN sC), (.int .u8 v)] h R := calls_of_fnC (Checked.mixed Try.checked) Try.func153 comp153 (Nat.le_of_ble_eq_true rfl) (by rw [vc153]; exact hv)

/-! 161: (*trestle/shape.looker).order$1 -/
def code161 : SCode := (.seq (.region .txt [⟨(some 6), .ld (.slice) (.tmp 1), none⟩,
  ⟨(some 7), .mv (.tmp 0), none⟩,
  ⟨(some 8), .call 162 [(.tmp 6), (.tmp 7), (.func 163)] (.tup [.one (.int .i64), .one (.bool)]), none⟩,
  ⟨(some 5), .mv (.tmp 8), none⟩,
  ⟨(some 9), .extr (.tmp 5) 0, none⟩,
  ⟨(some 10), .extr (.tmp 5) 1, none⟩,
  ⟨(some 3), .mv (.tmp 9), none⟩,
  ⟨(some 4), .mv (.tmp 10), none⟩]) (.region .txt [⟨(some 11), .ld (.slice) (.tmp 1), none⟩,
  ⟨(some 12), .mv (.tmp 3), none⟩,
  ⟨(some 13), .mv (.tmp 0), none⟩,
  ⟨(some 14), .lit 3 1 #[(.int .i64 0)] [(0, 1, (.tmp 13))], none⟩,
  ⟨(some 15), .call 164 [(.tmp 11), (.tmp 12), (.tmp 14)] (.val (.one (.slice))), none⟩,
  ⟨none, .st 1 (.tmp 1) (.tmp 15), none⟩]))
def loops161 : List (List (Nat × Shp)) := []
def ret161 : List RV := []
theorem comp161 : compF Try.prog Try.f161 loops161 = some (16, ret161, code161) := by kernel_rfl
def VC161 (P : Program) (x : Int) (t : Option Addr) (R : Value → Heap → Prop) (h : Heap) : Prop :=
 AtP t fun ad => ∃ (A : Option Addr), ∃ (N : Nat), ∃ (C : Nat), cellH h ad = some (.slice A N C) ∧ CallsH P 162 #[(.slice A N C), (.int .i64 x), (.func (.func 163) #[] #[])] h fun v h_ =>
 ∃ (t1 : Int), ∃ (t2 : Bool), v = (.tuple #[(.int .i64 t1), (.bool t2)]) ∧ AtP t fun ad1 => ∃ (A1 : Option Addr), ∃ (N1 : Nat), ∃ (C1 : Nat), cellH h_ ad1 = some (.slice A1 N1 C1) ∧ let h_1 : Heap := (h_).push (.cells #[(.int .i64 x)] 3); CallsH P 164 #[(.slice A1 N1 C1), (.int .i64 t1), (.slice (some (Addr.mk (h_).size 0 none)) 1 1)] h_1 fun v1 h_2 =>
 ∃ (A2 : Option Addr), ∃ (N2 : Nat), ∃ (C2 : Nat), v1 = (.slice A2 N2 C2) ∧ AtP t fun ad2 => StoreH h_2 ad2 [(.slice A2 N2 C2)] fun h_3 => R (.tuple #[]) h_3
theorem vc161 (P : Program) (x : Int) (t : Option Addr) (R : Value → Heap → Prop) (h : Heap) : fnC P ret161 code161 [(.int .i64 x), (.pointer t)] h R = VC161 P x t R h := by kernel_rfl
theorem run161 (x : Int) (t : Option Addr) (R : Value → Heap → Prop) (h : Heap) (hv : VC161 Try.prog x t R h) : CallsH Try.prog 161 #[(.int .i64 x), (.pointer t)] h R := calls_of_fnC (Checked.mixed Try.checked) Try.func161 comp161 (Nat.le_of_ble_eq_true rfl) (by rw [vc161]; exact hv)

/-! 162: slices.BinarySearchFunc[[]int,int,int] -/
def code162 : SCode := (.seq (.region .txt [⟨(some 6), .mv (.const (.int .i64 0)), none⟩,
  ⟨(some 7), .mv (.const (.bool false)), none⟩]) (.seq (.region .txt [⟨(some 12), .mv (.tmp 0), none⟩,
  ⟨(some 13), .len (.tmp 12), none⟩,
  ⟨(some 8), .mv (.tmp 13), none⟩]) (.seq (.region .txt [⟨(some 14), .mv (.tmp 8), none⟩,
  ⟨(some 9), .mv (.const (.int .i64 0)), none⟩,
  ⟨(some 10), .mv (.tmp 14), none⟩]) (.seq (.block 0 (.loop [(9, .int .i64), (10, .int .i64)] [15, 16, 17, 18, 19, 20, 21, 22, 23, 11, 24, 25, 26, 27, 28, 29, 30, 31, 32, 33, 9, 34, 10] (.seq (.seq (.region .txt [⟨(some 15), .mv (.tmp 9), none⟩,
  ⟨(some 16), .mv (.tmp 10), none⟩,
  ⟨(some 17), .icmp .lss .i64 (.tmp 15) (.tmp 16), none⟩]) (.cond (.tmp 17) .skip (.exit 0))) (.block 1 (.seq (.region .txt [⟨(some 18), .mv (.tmp 9), none⟩,
  ⟨(some 19), .mv (.tmp 10), none⟩,
  ⟨(some 20), .arith .add .i64 (.tmp 18) (.tmp 19), none⟩,
  ⟨(some 21), .conv .u64 (.tmp 20), none⟩,
  ⟨(some 22), .shc .shr .u64 (.tmp 21) 1, none⟩,
  ⟨(some 23), .conv .i64 (.tmp 22), none⟩,
  ⟨(some 11), .mv (.tmp 23), none⟩]) (.seq (.region .txt [⟨(some 24), .mv (.tmp 2), none⟩,
  ⟨(some 25), .mv (.tmp 0), none⟩,
  ⟨(some 26), .mv (.tmp 11), none⟩,
  ⟨(some 27), .idxA 1 (.tmp 25) (.tmp 26), none⟩,
  ⟨(some 28), .ld (.int .i64) (.tmp 27), none⟩,
  ⟨(some 29), .mv (.tmp 1), none⟩,
  ⟨(some 30), .callv (.tmp 24) [(.tmp 28), (.tmp 29)] (.val (.one (.int .i64))), none⟩,
  ⟨(some 31), .icmp .lss .i64 (.tmp 30) (.const (.int .i64 0)), none⟩]) (.cond (.tmp 31) (.region .txt [⟨(some 32), .mv (.tmp 11), none⟩,
  ⟨(some 33), .arith .add .i64 (.tmp 32) (.const (.int .i64 1)), none⟩,
  ⟨(some 9), .mv (.tmp 33), none⟩]) (.region .txt [⟨(some 34), .mv (.tmp 11), none⟩,
  ⟨(some 10), .mv (.tmp 34), none⟩])))))))) (.seq (.region .txt [⟨(some 35), .mv (.tmp 9), none⟩,
  ⟨(some 36), .mv (.tmp 9), none⟩,
  ⟨(some 37), .mv (.tmp 8), none⟩,
  ⟨(some 38), .icmp .lss .i64 (.tmp 36) (.tmp 37), none⟩,
  ⟨(some 39), .mv (.tmp 38), none⟩,
  ⟨(some 40), .mv (.tmp 2), (some (39, true))⟩,
  ⟨(some 41), .mv (.tmp 0), (some (39, true))⟩,
  ⟨(some 42), .mv (.tmp 9), (some (39, true))⟩,
  ⟨(some 43), .idxA 1 (.tmp 41) (.tmp 42), (some (39, true))⟩,
  ⟨(some 44), .ld (.int .i64) (.tmp 43), (some (39, true))⟩,
  ⟨(some 45), .mv (.tmp 1), (some (39, true))⟩,
  ⟨(some 46), .callv (.tmp 40) [(.tmp 44), (.tmp 45)] (.val (.one (.int .i64))), (some (39, true))⟩,
  ⟨(some 47), .icmp .eql .i64 (.tmp 46) (.const (.int .i64 0)), (some (39, true))⟩,
  ⟨(some 48), .pick (.tmp 39) (.tmp 47) (.const (.bool false)), none⟩,
  ⟨(some 6), .mv (.tmp 35), none⟩,
  ⟨(some 7), .mv (.tmp 48), none⟩]) .ret)))))
def loops162 : List (List (Nat × Shp)) := [[(9, .int .i64), (10, .int .i64)]]
def ret162 : List RV := [.tmp 6, .tmp 7]
theorem comp162 : compF Try.prog Try.f162 loops162 = some (49, ret162, code162) := by kernel_rfl
def J162_1  (P : Program) (xA : (Option Addr)) (xN : Nat) (target : Int) (cmp : Value) (i : Int) (j : Int) (next_ : (Int × Int → Heap → Prop)) (h_1 : Heap) : Prop :=
 0 ≤ ((IntKind.wrap .i64 ((IntKind.wrap .u64 (IntKind.wrap .i64 (i + j))) / ((2 ^ 1 : Nat) : Int))) : Int) ∧ ((IntKind.wrap .i64 ((IntKind.wrap .u64 (IntKind.wrap .i64 (i + j))) / ((2 ^ 1 : Nat) : Int))) : Int) < (xN : Nat) ∧ AtP xA fun ad => ∃ (t : Int), cellH h_1 (Addr.add ad (Int.toNat (IntKind.wrap .i64 ((IntKind.wrap .u64 (IntKind.wrap .i64 (i + j))) / ((2 ^ 1 : Nat) : Int))) * 1)) = some (.int .i64 t) ∧ CallV P cmp [(.int .i64 t), (.int .i64 target)] h_1 fun v h_2 =>
 ∃ (t1 : Int), v = (.int .i64 t1) ∧ PIf ((t1 : Int) < 0)
 (next_ ((IntKind.wrap .i64 ((IntKind.wrap .i64 ((IntKind.wrap .u64 (IntKind.wrap .i64 (i + j))) / ((2 ^ 1 : Nat) : Int))) + 1)), j) h_2)
 (next_ (i, (IntKind.wrap .i64 ((IntKind.wrap .u64 (IntKind.wrap .i64 (i + j))) / ((2 ^ 1 : Nat) : Int)))) h_2)
def J162_0  (P : Program) (R : Value → Heap → Prop) (xA : (Option Addr)) (xN : Nat) (target : Int) (cmp : Value) (i1 : Int) (h_3 : Heap) : Prop :=
 PIf ((i1 : Int) < ((xN : Nat) : Int))
 (0 ≤ (i1 : Int) ∧ (i1 : Int) < (xN : Nat) ∧ AtP xA fun ad1 => ∃ (t2 : Int), cellH h_3 (Addr.add ad1 (Int.toNat i1 * 1)) = some (.int .i64 t2) ∧ CallV P cmp [(.int .i64 t2), (.int .i64 target)] h_3 fun v1 h_4 =>
 ∃ (t3 : Int), v1 = (.int .i64 t3) ∧ PIf ((t3 : Int) = 0)
 (R (.tuple #[(.int .i64 i1), (.bool true)]) h_4)
 (R (.tuple #[(.int .i64 i1), (.bool false)]) h_4))
 (R (.tuple #[(.int .i64 i1), (.bool false)]) h_3)
def B162_2 (P : Program) (R : Value → Heap → Prop) (xA : (Option Addr)) (xN : Nat) (target : Int) (cmp : Value) (i : Int) (j : Int) (h_ : Heap) (next_ : Int × Int → Heap → Prop) : Prop :=
 PIf ((i : Int) < j)
 (J162_1 P xA xN target cmp i j next_ h_)
 (J162_0 P R xA xN target cmp (i) h_)
def VC162 (P : Program) (xA : Option Addr) (xN : Nat) (xC : Nat) (target : Int) (cmp : Value) (R : Value → Heap → Prop) (h : Heap) : Prop :=
 LoopT (σ := Int × Int) (fun st_ h_st nx_st => B162_2 P R xA xN target cmp (st_.1) (st_.2) h_st nx_st) (0, ((xN : Nat) : Int)) h
theorem vc162 (P : Program) (xA : Option Addr) (xN : Nat) (xC : Nat) (target : Int) (cmp : Value) (R : Value → Heap → Prop) (h : Heap) : fnC P ret162 code162 [(.slice xA xN xC), (.int .i64 target), cmp] h R = VC162 P xA xN xC target cmp R h := by kernel_rfl
theorem run162 (xA : Option Addr) (xN : Nat) (xC : Nat) (target : Int) (cmp : Value) (R : Value → Heap → Prop) (h : Heap) (hv : VC162 Try.prog xA xN xC target cmp R h) : CallsH Try.prog 162 #[(.slice xA xN xC), (.int .i64 target), cmp] h R := calls_of_fnC (Checked.mixed Try.checked) Try.func162 comp162 (Nat.le_of_ble_eq_true rfl) (by rw [vc162]; exact hv)

/-! 163: (*trestle/shape.looker).order$1$1 -/
def code163 : SCode := (.seq (.region .txt [⟨(some 4), .mv (.const (.int .i64 0)), none⟩]) (.seq (.region .txt [⟨(some 5), .mv (.tmp 1), none⟩,
  ⟨(some 6), .mv (.tmp 0), none⟩,
  ⟨(some 7), .arith .sub .i64 (.tmp 5) (.tmp 6), none⟩,
  ⟨(some 4), .mv (.tmp 7), none⟩]) .ret))
def loops163 : List (List (Nat × Shp)) := []
def ret163 : List RV := [.tmp 4]
theorem comp163 : compF Try.prog Try.f163 loops163 = some (8, ret163, code163) := by kernel_rfl
def VC163 (P : Program) (a : Int) (b : Int) (R : Value → Heap → Prop) (h : Heap) : Prop :=
 R (.int .i64 (IntKind.wrap .i64 (b - a))) h
theorem vc163 (P : Program) (a : Int) (b : Int) (R : Value → Heap → Prop) (h : Heap) : fnC P ret163 code163 [(.int .i64 a), (.int .i64 b)] h R = VC163 P a b R h := by kernel_rfl
theorem run163 (a : Int) (b : Int) (R : Value → Heap → Prop) (h : Heap) (hv : VC163 Try.prog a b R h) : CallsH Try.prog 163 #[(.int .i64 a), (.int .i64 b)] h R := calls_of_fnC (Checked.mixed Try.checked) Try.func163 comp163 (Nat.le_of_ble_eq_true rfl) (by rw [vc163]; exact hv)

/-! 164: slices.Insert[[]int,int] -/
def code164 : SCode := (.seq (.region .txt [⟨(some 6), .mv (.const (.slice none 0 0)), none⟩]) (.seq (.region .txt [⟨(some 10), .mv (.tmp 0), none⟩,
  ⟨(some 11), .mv (.tmp 1), none⟩,
  ⟨(some 12), .slc 1 (.tmp 10) (some (.tmp 11)) none, none⟩]) (.seq (.region .txt [⟨(some 13), .mv (.tmp 2), none⟩,
  ⟨(some 14), .len (.tmp 13), none⟩,
  ⟨(some 7), .mv (.tmp 14), none⟩]) (.seq (.seq (.region .txt [⟨(some 15), .mv (.tmp 7), none⟩,
  ⟨(some 16), .icmp .eql .i64 (.tmp 15) (.const (.int .i64 0)), none⟩]) (.cond (.tmp 16) (.seq (.region .txt [⟨(some 17), .mv (.tmp 0), none⟩,
  ⟨(some 6), .mv (.tmp 17), none⟩]) .ret) .skip)) (.seq (.region .txt [⟨(some 18), .mv (.tmp 0), none⟩,
  ⟨(some 19), .len (.tmp 18), none⟩,
  ⟨(some 8), .mv (.tmp 19), none⟩]) (.seq (.seq (.region .txt [⟨(some 20), .mv (.tmp 1), none⟩,
  ⟨(some 21), .mv (.tmp 8), none⟩,
  ⟨(some 22), .icmp .eql .i64 (.tmp 20) (.tmp 21), none⟩]) (.cond (.tmp 22) (.seq (.region .txt [⟨(some 23), .mv (.tmp 0), none⟩,
  ⟨(some 24), .mv (.tmp 2), none⟩,
  ⟨(some 25), .app 3 8 1 #[(.int .i64 0)] (.tmp 23) (.tmp 24), none⟩,
  ⟨(some 6), .mv (.tmp 25), none⟩]) .ret) .skip)) (.seq (.seq (.region .txt [⟨(some 26), .mv (.tmp 8), none⟩,
  ⟨(some 27), .mv (.tmp 7), none⟩,
  ⟨(some 28), .arith .add .i64 (.tmp 26) (.tmp 27), none⟩,
  ⟨(some 29), .mv (.tmp 0), none⟩,
  ⟨(some 30), .cap (.tmp 29), none⟩,
  ⟨(some 31), .icmp .gtr .i64 (.tmp 28) (.tmp 30), none⟩]) (.cond (.tmp 31) (.seq (.region .txt [⟨(some 32), .mv (.tmp 0), none⟩,
  ⟨(some 33), .mv (.tmp 1), none⟩,
  ⟨(some 34), .slc 1 (.tmp 32) none (some (.tmp 33)), none⟩,
  ⟨(some 35), .mv (.tmp 8), none⟩,
  ⟨(some 36), .mv (.tmp 7), none⟩,
  ⟨(some 37), .arith .add .i64 (.tmp 35) (.tmp 36), none⟩,
  ⟨(some 38), .mv (.tmp 1), none⟩,
  ⟨(some 39), .arith .sub .i64 (.tmp 37) (.tmp 38), none⟩,
  ⟨(some 40), .appZ 3 8 1 #[(.int .i64 0)] (.tmp 34) (.tmp 39), none⟩,
  ⟨(some 9), .mv (.tmp 40), none⟩]) (.seq (.region .txt [⟨(some 41), .mv (.tmp 9), none⟩,
  ⟨(some 42), .mv (.tmp 1), none⟩,
  ⟨(some 43), .slc 1 (.tmp 41) (some (.tmp 42)) none, none⟩,
  ⟨(some 44), .mv (.tmp 2), none⟩,
  ⟨(some 45), .cpy 1 (.tmp 43) (.tmp 44), none⟩]) (.seq (.region .txt [⟨(some 46), .mv (.tmp 9), none⟩,
  ⟨(some 47), .mv (.tmp 1), none⟩,
  ⟨(some 48), .mv (.tmp 7), none⟩,
  ⟨(some 49), .arith .add .i64 (.tmp 47) (.tmp 48), none⟩,
  ⟨(some 50), .slc 1 (.tmp 46) (some (.tmp 49)) none, none⟩,
  ⟨(some 51), .mv (.tmp 0), none⟩,
  ⟨(some 52), .mv (.tmp 1), none⟩,
  ⟨(some 53), .slc 1 (.tmp 51) (some (.tmp 52)) none, none⟩,
  ⟨(some 54), .cpy 1 (.tmp 50) (.tmp 53), none⟩]) (.seq (.region .txt [⟨(some 55), .mv (.tmp 9), none⟩,
  ⟨(some 6), .mv (.tmp 55), none⟩]) .ret)))) .skip)) (.seq (.region .txt [⟨(some 56), .mv (.tmp 0), none⟩,
  ⟨(some 57), .mv (.tmp 8), none⟩,
  ⟨(some 58), .mv (.tmp 7), none⟩,
  ⟨(some 59), .arith .add .i64 (.tmp 57) (.tmp 58), none⟩,
  ⟨(some 60), .slc 1 (.tmp 56) none (some (.tmp 59)), none⟩,
  ⟨(some 0), .mv (.tmp 60), none⟩]) (.seq (.seq (.region .txt [⟨(some 61), .mv (.tmp 2), none⟩,
  ⟨(some 62), .mv (.tmp 0), none⟩,
  ⟨(some 63), .mv (.tmp 1), none⟩,
  ⟨(some 64), .mv (.tmp 7), none⟩,
  ⟨(some 65), .arith .add .i64 (.tmp 63) (.tmp 64), none⟩,
  ⟨(some 66), .slc 1 (.tmp 62) (some (.tmp 65)) none, none⟩,
  ⟨(some 67), .ovl (.tmp 61) (.tmp 66), none⟩,
  ⟨(some 68), .not (.tmp 67), none⟩]) (.cond (.tmp 68) (.seq (.region .txt [⟨(some 69), .mv (.tmp 0), none⟩,
  ⟨(some 70), .mv (.tmp 1), none⟩,
  ⟨(some 71), .mv (.tmp 7), none⟩,
  ⟨(some 72), .arith .add .i64 (.tmp 70) (.tmp 71), none⟩,
  ⟨(some 73), .slc 1 (.tmp 69) (some (.tmp 72)) none, none⟩,
  ⟨(some 74), .mv (.tmp 0), none⟩,
  ⟨(some 75), .mv (.tmp 1), none⟩,
  ⟨(some 76), .slc 1 (.tmp 74) (some (.tmp 75)) none, none⟩,
  ⟨(some 77), .cpy 1 (.tmp 73) (.tmp 76), none⟩]) (.seq (.region .txt [⟨(some 78), .mv (.tmp 0), none⟩,
  ⟨(some 79), .mv (.tmp 1), none⟩,
  ⟨(some 80), .slc 1 (.tmp 78) (some (.tmp 79)) none, none⟩,
  ⟨(some 81), .mv (.tmp 2), none⟩,
  ⟨(some 82), .cpy 1 (.tmp 80) (.tmp 81), none⟩]) (.seq (.region .txt [⟨(some 83), .mv (.tmp 0), none⟩,
  ⟨(some 6), .mv (.tmp 83), none⟩]) .ret))) .skip)) (.seq (.region .txt [⟨(some 84), .mv (.tmp 0), none⟩,
  ⟨(some 85), .mv (.tmp 8), none⟩,
  ⟨(some 86), .slc 1 (.tmp 84) (some (.tmp 85)) none, none⟩,
  ⟨(some 87), .mv (.tmp 2), none⟩,
  ⟨(some 88), .cpy 1 (.tmp 86) (.tmp 87), none⟩]) (.seq (.region .txt [⟨(some 89), .mv (.tmp 0), none⟩,
  ⟨(some 90), .mv (.tmp 1), none⟩,
  ⟨(some 91), .slc 1 (.tmp 89) (some (.tmp 90)) none, none⟩,
  ⟨(some 92), .mv (.tmp 7), none⟩,
  ⟨(some 93), .call 174 [(.tmp 91), (.tmp 92)] (.tup []), none⟩]) (.seq (.region .txt [⟨(some 94), .mv (.tmp 0), none⟩,
  ⟨(some 6), .mv (.tmp 94), none⟩]) .ret))))))))))))
def loops164 : List (List (Nat × Shp)) := []
def ret164 : List RV := [.tmp 6]
theorem comp164 : compF Try.prog Try.f164 loops164 = some (95, ret164, code164) := by kernel_rfl
def J164_2  (R : Value → Heap → Prop) (sA : (Option Addr)) (sN : Nat) (sC : Nat) (i : Int) (vA : (Option Addr)) (vN : Nat) (h_6 : Heap) : Prop :=
 0 ≤ (0 : Int) ∧ (0 : Int) ≤ (IntKind.wrap .i64 (((sN : Nat) : Int) + ((vN : Nat) : Int))) ∧ ((IntKind.wrap .i64 (((sN : Nat) : Int) + ((vN : Nat) : Int))) : Int) ≤ (sC : Nat) ∧ 0 ≤ ((IntKind.wrap .i64 (i + ((vN : Nat) : Int))) : Int) ∧ ((IntKind.wrap .i64 (i + ((vN : Nat) : Int))) : Int) ≤ (((Int.toNat (IntKind.wrap .i64 (((sN : Nat) : Int) + ((vN : Nat) : Int))) - Int.toNat 0) : Nat) : Int) ∧ ((((Int.toNat (IntKind.wrap .i64 (((sN : Nat) : Int) + ((vN : Nat) : Int))) - Int.toNat 0) : Nat) : Int) : Int) ≤ ((sC - Int.toNat 0) : Nat) ∧ Apart h_6 vA (cutA 1 (cutA 1 sA sC (Int.toNat 0)) (sC - Int.toNat 0) (Int.toNat (IntKind.wrap .i64 (i + ((vN : Nat) : Int))))) (0 ≤ ((IntKind.wrap .i64 (i + ((vN : Nat) : Int))) : Int) ∧ ((IntKind.wrap .i64 (i + ((vN : Nat) : Int))) : Int) ≤ (((Int.toNat (IntKind.wrap .i64 (((sN : Nat) : Int) + ((vN : Nat) : Int))) - Int.toNat 0) : Nat) : Int) ∧ ((((Int.toNat (IntKind.wrap .i64 (((sN : Nat) : Int) + ((vN : Nat) : Int))) - Int.toNat 0) : Nat) : Int) : Int) ≤ ((sC - Int.toNat 0) : Nat) ∧ 0 ≤ (i : Int) ∧ (i : Int) ≤ (((Int.toNat (IntKind.wrap .i64 (((sN : Nat) : Int) + ((vN : Nat) : Int))) - Int.toNat 0) : Nat) : Int) ∧ ((((Int.toNat (IntKind.wrap .i64 (((sN : Nat) : Int) + ((vN : Nat) : Int))) - Int.toNat 0) : Nat) : Int) : Int) ≤ ((sC - Int.toNat 0) : Nat) ∧ ∃ ys3 : List Value, ReadL h_6 (cutA 1 (cutA 1 sA sC (Int.toNat 0)) (sC - Int.toNat 0) (Int.toNat i)) ys3 ∧ ys3.length = (min (Int.toNat (((Int.toNat (IntKind.wrap .i64 (((sN : Nat) : Int) + ((vN : Nat) : Int))) - Int.toNat 0) : Nat) : Int) - Int.toNat i) (Int.toNat (((Int.toNat (IntKind.wrap .i64 (((sN : Nat) : Int) + ((vN : Nat) : Int))) - Int.toNat 0) : Nat) : Int) - Int.toNat (IntKind.wrap .i64 (i + ((vN : Nat) : Int))))) * 1 ∧ CpyH h_6 (cutA 1 (cutA 1 sA sC (Int.toNat 0)) (sC - Int.toNat 0) (Int.toNat (IntKind.wrap .i64 (i + ((vN : Nat) : Int))))) ys3 fun h_7 => 0 ≤ (i : Int) ∧ (i : Int) ≤ (((Int.toNat (IntKind.wrap .i64 (((sN : Nat) : Int) + ((vN : Nat) : Int))) - Int.toNat 0) : Nat) : Int) ∧ ((((Int.toNat (IntKind.wrap .i64 (((sN : Nat) : Int) + ((vN : Nat) : Int))) - Int.toNat 0) : Nat) : Int) : Int) ≤ ((sC - Int.toNat 0) : Nat) ∧ ∃ ys4 : List Value, ReadL h_7 vA ys4 ∧ ys4.length = (min vN (Int.toNat (((Int.toNat (IntKind.wrap .i64 (((sN : Nat) : Int) + ((vN : Nat) : Int))) - Int.toNat 0) : Nat) : Int) - Int.toNat i)) * 1 ∧ CpyH h_7 (cutA 1 (cutA 1 sA sC (Int.toNat 0)) (sC - Int.toNat 0) (Int.toNat i)) ys4 fun h_8 => R (.slice (cutA 1 sA sC (Int.toNat 0)) (Int.toNat (IntKind.wrap .i64 (((sN : Nat) : Int) + ((vN : Nat) : Int))) - Int.toNat 0) (sC - Int.toNat 0)) h_8)
def J164_1  (R : Value → Heap → Prop) (sA : (Option Addr)) (sN : Nat) (sC : Nat) (i : Int) (vA : (Option Addr)) (vN : Nat) (h_2 : Heap) : Prop :=
 PIf ((((sC : Nat) : Int) : Int) < (IntKind.wrap .i64 (((sN : Nat) : Int) + ((vN : Nat) : Int))))
 (0 ≤ (0 : Int) ∧ (0 : Int) ≤ i ∧ (i : Int) ≤ (sC : Nat) ∧ 0 ≤ ((IntKind.wrap .i64 ((IntKind.wrap .i64 (((sN : Nat) : Int) + ((vN : Nat) : Int))) - i)) : Int) ∧ ((IntKind.wrap .i64 ((IntKind.wrap .i64 (((sN : Nat) : Int) + ((vN : Nat) : Int))) - i)) : Int) * 8 ≤ 140737488355328 ∧ AppS h_2 (cutA 1 sA sC (Int.toNat 0)) (Int.toNat i - Int.toNat 0) (sC - Int.toNat 0) 3 8 1 #[(.int .i64 0)] (zeroRow #[(.int .i64 0)] (Int.toNat (IntKind.wrap .i64 ((IntKind.wrap .i64 (((sN : Nat) : Int) + ((vN : Nat) : Int))) - i)) * 1)) (Int.toNat (IntKind.wrap .i64 ((IntKind.wrap .i64 (((sN : Nat) : Int) + ((vN : Nat) : Int))) - i))) fun apA1 apN1 apC1 h_3 => 0 ≤ (i : Int) ∧ (i : Int) ≤ ((apN1 : Nat) : Int) ∧ (((apN1 : Nat) : Int) : Int) ≤ (apC1 : Nat) ∧ ∃ ys1 : List Value, ReadL h_3 vA ys1 ∧ ys1.length = (min vN (Int.toNat ((apN1 : Nat) : Int) - Int.toNat i)) * 1 ∧ CpyH h_3 (cutA 1 apA1 apC1 (Int.toNat i)) ys1 fun h_4 => 0 ≤ ((IntKind.wrap .i64 (i + ((vN : Nat) : Int))) : Int) ∧ ((IntKind.wrap .i64 (i + ((vN : Nat) : Int))) : Int) ≤ ((apN1 : Nat) : Int) ∧ (((apN1 : Nat) : Int) : Int) ≤ (apC1 : Nat) ∧ 0 ≤ (i : Int) ∧ (i : Int) ≤ ((sN : Nat) : Int) ∧ (((sN : Nat) : Int) : Int) ≤ (sC : Nat) ∧ ∃ ys2 : List Value, ReadL h_4 (cutA 1 sA sC (Int.toNat i)) ys2 ∧ ys2.length = (min (Int.toNat ((sN : Nat) : Int) - Int.toNat i) (Int.toNat ((apN1 : Nat) : Int) - Int.toNat (IntKind.wrap .i64 (i + ((vN : Nat) : Int))))) * 1 ∧ CpyH h_4 (cutA 1 apA1 apC1 (Int.toNat (IntKind.wrap .i64 (i + ((vN : Nat) : Int))))) ys2 fun h_5 => R (.slice apA1 apN1 apC1) h_5)
 (J164_2 R sA sN sC i vA vN h_2)
def J164_0  (R : Value → Heap → Prop) (sA : (Option Addr)) (sN : Nat) (sC : Nat) (i : Int) (vA : (Option Addr)) (vN : Nat) (h_ : Heap) : Prop :=
 PIf ((i : Int) = ((sN : Nat) : Int))
 (∃ ys : List Value, ReadL h_ vA ys ∧ ys.length = vN * 1 ∧ AppS h_ sA sN sC 3 8 1 #[(.int .i64 0)] ys vN fun apA apN apC h_1 => R (.slice apA apN apC) h_1)
 (J164_1 R sA sN sC i vA vN h_)
def VC164 (P : Program) (sA : Option Addr) (sN : Nat) (sC : Nat) (i : Int) (vA : Option Addr) (vN : Nat) (vC : Nat) (R : Value → Heap → Prop) (h : Heap) : Prop :=
 0 ≤ (i : Int) ∧ (i : Int) ≤ ((sN : Nat) : Int) ∧ (((sN : Nat) : Int) : Int) ≤ (sC : Nat) ∧ PIf ((((vN : Nat) : Int) : Int) = 0)
 (R (.slice sA sN sC) h)
 (J164_0 R sA sN sC i vA vN h)
theorem vc164 (P : Program) (sA : Option Addr) (sN : Nat) (sC : Nat) (i : Int) (vA : Option Addr) (vN : Nat) (vC : Nat) (R : Value → Heap → Prop) (h : Heap) : fnC P ret164 code164 [(.slice sA sN sC), (.int .i64 i), (.slice vA vN vC)] h R = VC164 P sA sN sC i vA vN vC R h := by kernel_rfl
theorem run164 (sA : Option Addr) (sN : Nat) (sC : Nat) (i : Int) (vA : Option Addr) (vN : Nat) (vC : Nat) (R : Value → Heap → Prop) (h : Heap) (hv : VC164 Try.prog sA sN sC i vA vN vC R h) : CallsH Try.prog 164 #[(.slice sA sN sC), (.int .i64 i), (.slice vA vN vC)] h R := calls_of_fnC (Checked.mixed Try.checked) Try.func164 comp164 (Nat.le_of_ble_eq_true rfl) (by rw [vc164]; exact hv)
end Go.Proofs.Ytpmpacdjcfijbaa
