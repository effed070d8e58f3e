/- Words and facts that the claim's proof leans on. No condition. -/
import Derived.Test.YtbfejkmnkkpkhaaHxL
import Derived.Test.YtbfejkmnkkpkhaaChecked
set_option maxRecDepth 100000
set_option linter.unusedVariables false
namespace Go.Proofs.Ytbfejkmnkkpkhaa
open Go.Hx

/-! 3: trestle/trestlelaw01.LitsNumbers -/
def code3 : SCode := (.seq (.region false [⟨(some 2), .mv (.const (.bool false)), none⟩]) (.seq (.region false [⟨(some 16), .mv (.tmp 0), none⟩,
  ⟨(some 17), .call 9 [(.tmp 16)] (.tup [.one (.int .i64), .one (.int .i64)]), none⟩,
  ⟨(some 15), .mv (.tmp 17), none⟩,
  ⟨(some 18), .extr (.tmp 15) 0, none⟩,
  ⟨(some 19), .extr (.tmp 15) 1, none⟩,
  ⟨(some 3), .mv (.tmp 18), none⟩,
  ⟨(some 4), .mv (.tmp 19), none⟩]) (.seq (.region false [⟨(some 21), .mv (.tmp 0), none⟩,
  ⟨(some 22), .call 10 [(.tmp 21)] (.tup [.one (.int .i64), .one (.int .i64)]), none⟩,
  ⟨(some 20), .mv (.tmp 22), none⟩,
  ⟨(some 23), .extr (.tmp 20) 0, none⟩,
  ⟨(some 24), .extr (.tmp 20) 1, none⟩,
  ⟨(some 5), .mv (.tmp 23), none⟩,
  ⟨(some 6), .mv (.tmp 24), none⟩]) (.seq (.region false [⟨(some 26), .mv (.tmp 0), none⟩,
  ⟨(some 27), .call 11 [(.tmp 26)] (.tup [.one (.int .i64), .one (.int .i64)]), none⟩,
  ⟨(some 25), .mv (.tmp 27), none⟩,
  ⟨(some 28), .extr (.tmp 25) 0, none⟩,
  ⟨(some 29), .extr (.tmp 25) 1, none⟩,
  ⟨(some 7), .mv (.tmp 28), none⟩,
  ⟨(some 8), .mv (.tmp 29), none⟩]) (.seq (.region false [⟨(some 31), .mv (.tmp 0), none⟩,
  ⟨(some 32), .call 12 [(.tmp 31)] (.tup [.one (.int .i64), .one (.int .i64)]), none⟩,
  ⟨(some 30), .mv (.tmp 32), none⟩,
  ⟨(some 33), .extr (.tmp 30) 0, none⟩,
  ⟨(some 34), .extr (.tmp 30) 1, none⟩,
  ⟨(some 9), .mv (.tmp 33), none⟩,
  ⟨(some 10), .mv (.tmp 34), none⟩]) (.seq (.region false [⟨(some 36), .mv (.tmp 0), none⟩,
  ⟨(some 37), .call 13 [(.tmp 36)] (.tup [.one (.int .i64), .one (.int .i64)]), none⟩,
  ⟨(some 35), .mv (.tmp 37), none⟩,
  ⟨(some 38), .extr (.tmp 35) 0, none⟩,
  ⟨(some 39), .extr (.tmp 35) 1, none⟩,
  ⟨(some 11), .mv (.tmp 38), none⟩,
  ⟨(some 12), .mv (.tmp 39), none⟩]) (.seq (.region false [⟨(some 41), .mv (.tmp 0), none⟩,
  ⟨(some 42), .call 14 [(.tmp 41)] (.tup [.one (.int .i64), .one (.int .i64)]), none⟩,
  ⟨(some 40), .mv (.tmp 42), none⟩,
  ⟨(some 43), .extr (.tmp 40) 0, none⟩,
  ⟨(some 44), .extr (.tmp 40) 1, none⟩,
  ⟨(some 13), .mv (.tmp 43), none⟩,
  ⟨(some 14), .mv (.tmp 44), none⟩]) (.seq (.region false [⟨(some 45), .call 15 [] (.val (.one (.bool))), none⟩,
  ⟨(some 46), .mv (.tmp 45), none⟩,
  ⟨(some 47), .mv (.tmp 3), (some (46, true))⟩,
  ⟨(some 48), .mv (.tmp 5), (some (46, true))⟩,
  ⟨(some 49), .icmp .eql .i64 (.tmp 47) (.tmp 48), (some (46, true))⟩,
  ⟨(some 50), .pick (.tmp 46) (.tmp 49) (.const (.bool false)), none⟩,
  ⟨(some 51), .mv (.tmp 50), none⟩,
  ⟨(some 52), .mv (.tmp 4), (some (51, true))⟩,
  ⟨(some 53), .mv (.tmp 6), (some (51, true))⟩,
  ⟨(some 54), .icmp .eql .i64 (.tmp 52) (.tmp 53), (some (51, true))⟩,
  ⟨(some 55), .pick (.tmp 51) (.tmp 54) (.const (.bool false)), none⟩,
  ⟨(some 56), .mv (.tmp 55), none⟩,
  ⟨(some 57), .mv (.tmp 7), (some (56, true))⟩,
  ⟨(some 58), .mv (.tmp 9), (some (56, true))⟩,
  ⟨(some 59), .icmp .eql .i64 (.tmp 57) (.tmp 58), (some (56, true))⟩,
  ⟨(some 60), .pick (.tmp 56) (.tmp 59) (.const (.bool false)), none⟩,
  ⟨(some 61), .mv (.tmp 60), none⟩,
  ⟨(some 62), .mv (.tmp 8), (some (61, true))⟩,
  ⟨(some 63), .mv (.tmp 10), (some (61, true))⟩,
  ⟨(some 64), .icmp .eql .i64 (.tmp 62) (.tmp 63), (some (61, true))⟩,
  ⟨(some 65), .pick (.tmp 61) (.tmp 64) (.const (.bool false)), none⟩,
  ⟨(some 66), .mv (.tmp 65), none⟩,
  ⟨(some 67), .mv (.tmp 11), (some (66, true))⟩,
  ⟨(some 68), .mv (.tmp 13), (some (66, true))⟩,
  ⟨(some 69), .icmp .eql .i64 (.tmp 67) (.tmp 68), (some (66, true))⟩,
  ⟨(some 70), .pick (.tmp 66) (.tmp 69) (.const (.bool false)), none⟩,
  ⟨(some 71), .mv (.tmp 70), none⟩,
  ⟨(some 72), .mv (.tmp 12), (some (71, true))⟩,
  ⟨(some 73), .mv (.tmp 14), (some (71, true))⟩,
  ⟨(some 74), .icmp .eql .i64 (.tmp 72) (.tmp 73), (some (71, true))⟩,
  ⟨(some 75), .pick (.tmp 71) (.tmp 74) (.const (.bool false)), none⟩,
  ⟨(some 76), .mv (.tmp 75), none⟩,
  ⟨(some 77), .call 16 [] (.val (.one (.bool))), (some (76, true))⟩,
  ⟨(some 78), .pick (.tmp 76) (.tmp 77) (.const (.bool false)), none⟩,
  ⟨(some 2), .mv (.tmp 78), none⟩]) .ret))))))))
def loops3 : List (List (Nat × Shp)) := []
def ret3 : List RV := [.tmp 2]
theorem comp3 : compF Try.prog Try.f3 loops3 = some (79, ret3, code3) := by kernel_rfl
def VC3 (P : Program) (l : Int) (R : Value → Heap → Prop) (h : Heap) : Prop :=
 CallsH P 9 #[(.int .i64 l)] h fun v h_ =>
 ∃ (t : Int), ∃ (t1 : Int), v = (.tuple #[(.int .i64 t), (.int .i64 t1)]) ∧ CallsH P 10 #[(.int .i64 l)] h_ fun v1 h_1 =>
 ∃ (t2 : Int), ∃ (t3 : Int), v1 = (.tuple #[(.int .i64 t2), (.int .i64 t3)]) ∧ CallsH P 11 #[(.int .i64 l)] h_1 fun v2 h_2 =>
 ∃ (t4 : Int), ∃ (t5 : Int), v2 = (.tuple #[(.int .i64 t4), (.int .i64 t5)]) ∧ CallsH P 12 #[(.int .i64 l)] h_2 fun v3 h_3 =>
 ∃ (t6 : Int), ∃ (t7 : Int), v3 = (.tuple #[(.int .i64 t6), (.int .i64 t7)]) ∧ CallsH P 13 #[(.int .i64 l)] h_3 fun v4 h_4 =>
 ∃ (t8 : Int), ∃ (t9 : Int), v4 = (.tuple #[(.int .i64 t8), (.int .i64 t9)]) ∧ CallsH P 14 #[(.int .i64 l)] h_4 fun v5 h_5 =>
 ∃ (t10 : Int), ∃ (t11 : Int), v5 = (.tuple #[(.int .i64 t10), (.int .i64 t11)]) ∧ CallsH P 15 #[] h_5 fun v6 h_6 =>
 ∃ (t12 : Bool), v6 = (.bool t12) ∧ BIf t12 (PIf ((t : Int) = t2)
 (PIf ((t1 : Int) = t3)
 (PIf ((t4 : Int) = t6)
 (PIf ((t5 : Int) = t7)
 (PIf ((t8 : Int) = t10)
 (PIf ((t9 : Int) = t11)
 (CallsH P 16 #[] h_6 fun v7 h_7 =>
 ∃ (t13 : Bool), v7 = (.bool t13) ∧ R (.bool t13) h_7)
 (R (.bool false) h_6))
 (R (.bool false) h_6))
 (R (.bool false) h_6))
 (R (.bool false) h_6))
 (R (.bool false) h_6))
 (R (.bool false) h_6)) (R (.bool false) h_6)
theorem vc3 (P : Program) (l : Int) (R : Value → Heap → Prop) (h : Heap) : fnC P ret3 code3 [(.int .i64 l)] h R = VC3 P l R h := by kernel_rfl
theorem run3 (l : Int) (R : Value → Heap → Prop) (h : Heap) (hv : VC3 Try.prog l R h) : CallsH Try.prog 3 #[(.int .i64 l)] h R := calls_of_fnC (Checked.mixed Try.checked) Try.func3 comp3 (Nat.le_of_ble_eq_true rfl) (by rw [vc3]; exact hv)

/-! 4: trestle/trestlelaw01.LitsClauses -/
def code4 : SCode := (.seq (.region false [⟨(some 4), .mv (.const (.bool false)), none⟩]) (.seq (.region false [⟨(some 17), .mv (.tmp 0), none⟩,
  ⟨(some 18), .call 17 [(.tmp 17)] (.val (.one (.slice))), none⟩,
  ⟨(some 5), .mv (.tmp 18), none⟩]) (.seq (.region false [⟨(some 19), .lit 4 0 #[(.bool false)] [], none⟩,
  ⟨(some 20), .mv (.tmp 1), none⟩,
  ⟨(some 21), .app 4 1 1 #[(.bool false)] (.tmp 19) (.tmp 20), none⟩,
  ⟨(some 22), .lit 4 1 #[(.bool false)] [(0, 1, (.const (.bool true)))], none⟩,
  ⟨(some 23), .app 4 1 1 #[(.bool false)] (.tmp 21) (.tmp 22), none⟩,
  ⟨(some 24), .mv (.tmp 1), none⟩,
  ⟨(some 25), .len (.tmp 24), none⟩,
  ⟨(some 26), .slc 1 (.tmp 23) none (some (.tmp 25)), none⟩,
  ⟨(some 6), .mv (.tmp 26), none⟩]) (.seq (.region false [⟨(some 28), .mv (.tmp 5), none⟩,
  ⟨(some 29), .call 18 [(.tmp 28)] (.tup [.one (.slice), .one (.int .i64)]), none⟩,
  ⟨(some 27), .mv (.tmp 29), none⟩,
  ⟨(some 30), .extr (.tmp 27) 0, none⟩,
  ⟨(some 31), .extr (.tmp 27) 1, none⟩,
  ⟨(some 7), .mv (.tmp 30), none⟩,
  ⟨(some 8), .mv (.tmp 31), none⟩]) (.seq (.region false [⟨(some 33), .mv (.tmp 5), none⟩,
  ⟨(some 34), .call 18 [(.tmp 33)] (.tup [.one (.slice), .one (.int .i64)]), none⟩,
  ⟨(some 32), .mv (.tmp 34), none⟩,
  ⟨(some 35), .extr (.tmp 32) 0, none⟩,
  ⟨(some 36), .extr (.tmp 32) 1, none⟩,
  ⟨(some 9), .mv (.tmp 35), none⟩,
  ⟨(some 10), .mv (.tmp 36), none⟩]) (.seq (.region false [⟨(some 38), .mv (.tmp 0), none⟩,
  ⟨(some 39), .call 19 [(.tmp 38)] (.tup [.one (.slice), .one (.int .i64)]), none⟩,
  ⟨(some 37), .mv (.tmp 39), none⟩,
  ⟨(some 40), .extr (.tmp 37) 0, none⟩,
  ⟨(some 41), .extr (.tmp 37) 1, none⟩,
  ⟨(some 11), .mv (.tmp 40), none⟩,
  ⟨(some 12), .mv (.tmp 41), none⟩]) (.seq (.region false [⟨(some 43), .mv (.tmp 5), none⟩,
  ⟨(some 44), .mv (.tmp 6), none⟩,
  ⟨(some 45), .call 20 [(.tmp 43), (.tmp 44)] (.tup [.one (.bool), .one (.int .i64)]), none⟩,
  ⟨(some 42), .mv (.tmp 45), none⟩,
  ⟨(some 46), .extr (.tmp 42) 0, none⟩,
  ⟨(some 47), .extr (.tmp 42) 1, none⟩,
  ⟨(some 13), .mv (.tmp 46), none⟩,
  ⟨(some 14), .mv (.tmp 47), none⟩]) (.seq (.region false [⟨(some 49), .mv (.tmp 0), none⟩,
  ⟨(some 50), .mv (.tmp 1), none⟩,
  ⟨(some 51), .call 21 [(.tmp 49), (.tmp 50)] (.tup [.one (.bool), .one (.int .i64)]), none⟩,
  ⟨(some 48), .mv (.tmp 51), none⟩,
  ⟨(some 52), .extr (.tmp 48) 0, none⟩,
  ⟨(some 53), .extr (.tmp 48) 1, none⟩,
  ⟨(some 15), .mv (.tmp 52), none⟩,
  ⟨(some 16), .mv (.tmp 53), none⟩]) (.seq (.seq (.region false [⟨(some 54), .mv (.tmp 7), none⟩,
  ⟨(some 55), .mv (.tmp 11), none⟩,
  ⟨(some 56), .call 22 [(.tmp 54), (.tmp 55)] (.val (.one (.bool))), none⟩,
  ⟨(some 57), .not (.tmp 56), none⟩,
  ⟨(some 58), .mv (.tmp 57), none⟩,
  ⟨(some 59), .mv (.tmp 8), (some (58, false))⟩,
  ⟨(some 60), .mv (.tmp 12), (some (58, false))⟩,
  ⟨(some 61), .icmp .neq .i64 (.tmp 59) (.tmp 60), (some (58, false))⟩,
  ⟨(some 62), .pick (.tmp 58) (.const (.bool true)) (.tmp 61), none⟩,
  ⟨(some 63), .mv (.tmp 62), none⟩,
  ⟨(some 64), .mv (.tmp 13), (some (63, false))⟩,
  ⟨(some 65), .mv (.tmp 15), (some (63, false))⟩,
  ⟨(some 66), .bcmp true (.tmp 64) (.tmp 65), (some (63, false))⟩,
  ⟨(some 67), .pick (.tmp 63) (.const (.bool true)) (.tmp 66), none⟩,
  ⟨(some 68), .mv (.tmp 67), none⟩,
  ⟨(some 69), .mv (.tmp 14), (some (68, false))⟩,
  ⟨(some 70), .mv (.tmp 16), (some (68, false))⟩,
  ⟨(some 71), .icmp .neq .i64 (.tmp 69) (.tmp 70), (some (68, false))⟩,
  ⟨(some 72), .pick (.tmp 68) (.const (.bool true)) (.tmp 71), none⟩]) (.cond (.tmp 72) (.seq (.region false [⟨(some 4), .mv (.const (.bool false)), none⟩]) .ret) .skip)) (.seq (.region false [⟨(some 73), .mv (.tmp 7), none⟩,
  ⟨(some 74), .call 23 [(.tmp 73), (.const (.int .i64 (-7)))] (.tup []), none⟩]) (.seq (.region false [⟨(some 75), .mv (.tmp 9), none⟩,
  ⟨(some 76), .mv (.tmp 11), none⟩,
  ⟨(some 77), .call 22 [(.tmp 75), (.tmp 76)] (.val (.one (.bool))), none⟩,
  ⟨(some 78), .mv (.tmp 77), none⟩,
  ⟨(some 79), .mv (.tmp 5), (some (78, true))⟩,
  ⟨(some 80), .mv (.tmp 0), (some (78, true))⟩,
  ⟨(some 81), .call 24 [(.tmp 79), (.tmp 80)] (.val (.one (.bool))), (some (78, true))⟩,
  ⟨(some 82), .pick (.tmp 78) (.tmp 81) (.const (.bool false)), none⟩,
  ⟨(some 83), .mv (.tmp 82), none⟩,
  ⟨(some 84), .mv (.tmp 6), (some (83, true))⟩,
  ⟨(some 85), .mv (.tmp 1), (some (83, true))⟩,
  ⟨(some 86), .call 25 [(.tmp 84), (.tmp 85)] (.val (.one (.bool))), (some (83, true))⟩,
  ⟨(some 87), .pick (.tmp 83) (.tmp 86) (.const (.bool false)), none⟩,
  ⟨(some 88), .mv (.tmp 87), none⟩,
  ⟨(some 89), .call 16 [] (.val (.one (.bool))), (some (88, true))⟩,
  ⟨(some 90), .pick (.tmp 88) (.tmp 89) (.const (.bool false)), none⟩,
  ⟨(some 4), .mv (.tmp 90), none⟩]) .ret)))))))))))
def loops4 : List (List (Nat × Shp)) := []
def ret4 : List RV := [.tmp 4]
theorem comp4 : compF Try.prog Try.f4 loops4 = some (91, ret4, code4) := by kernel_rfl
def J4_0  (P : Program) (R : Value → Heap → Prop) (cA : (Option Addr)) (cN : Nat) (cC : Nat) (modelA : (Option Addr)) (modelN : Nat) (modelC : Nat) (A : (Option Addr)) (N : Nat) (C : Nat) (apA1 : (Option Addr)) (apC1 : Nat) (A1 : (Option Addr)) (N1 : Nat) (C1 : Nat) (A2 : (Option Addr)) (N2 : Nat) (C2 : Nat) (A3 : (Option Addr)) (N3 : Nat) (C3 : Nat) (h_11 : Heap) : Prop :=
 CallsH P 23 #[(.slice A1 N1 C1), (.int .i64 (-7))] h_11 fun v7 h_12 =>
 v7 = (.tuple #[]) ∧ CallsH P 22 #[(.slice A2 N2 C2), (.slice A3 N3 C3)] h_12 fun v8 h_13 =>
 ∃ (t8 : Bool), v8 = (.bool t8) ∧ BIf t8 (CallsH P 24 #[(.slice A N C), (.slice cA cN cC)] h_13 fun v9 h_14 =>
 ∃ (t9 : Bool), v9 = (.bool t9) ∧ BIf t9 (CallsH P 25 #[(.slice (cutA 1 apA1 apC1 (Int.toNat 0)) (Int.toNat ((modelN : Nat) : Int) - Int.toNat 0) (apC1 - Int.toNat 0)), (.slice modelA modelN modelC)] h_14 fun v10 h_15 =>
 ∃ (t10 : Bool), v10 = (.bool t10) ∧ BIf t10 (CallsH P 16 #[] h_15 fun v11 h_16 =>
 ∃ (t11 : Bool), v11 = (.bool t11) ∧ R (.bool t11) h_16) (R (.bool false) h_15)) (R (.bool false) h_14)) (R (.bool false) h_13)
def VC4 (P : Program) (cA : Option Addr) (cN : Nat) (cC : Nat) (modelA : Option Addr) (modelN : Nat) (modelC : Nat) (R : Value → Heap → Prop) (h : Heap) : Prop :=
 CallsH P 17 #[(.slice cA cN cC)] h fun v h_ =>
 ∃ (A : Option Addr), ∃ (N : Nat), ∃ (C : Nat), v = (.slice A N C) ∧ let h_1 : Heap := (h_).push (.cells #[] 4); ∃ ys : List Value, ReadL h_1 modelA ys ∧ ys.length = modelN * 1 ∧ AppS h_1 (some (Addr.mk (h_).size 0 none)) 0 0 4 1 1 #[(.bool false)] ys modelN fun apA apN apC h_2 => let h_3 : Heap := (h_2).push (.cells #[(.bool true)] 4); ∃ ys1 : List Value, ReadL h_3 (some (Addr.mk (h_2).size 0 none)) ys1 ∧ ys1.length = 1 * 1 ∧ AppS h_3 apA apN apC 4 1 1 #[(.bool false)] ys1 1 fun apA1 apN1 apC1 h_4 => 0 ≤ (0 : Int) ∧ (0 : Int) ≤ ((modelN : Nat) : Int) ∧ (((modelN : Nat) : Int) : Int) ≤ (apC1 : Nat) ∧ CallsH P 18 #[(.slice A N C)] h_4 fun v1 h_5 =>
 ∃ (A1 : Option Addr), ∃ (N1 : Nat), ∃ (C1 : Nat), ∃ (t : Int), v1 = (.tuple #[(.slice A1 N1 C1), (.int .i64 t)]) ∧ CallsH P 18 #[(.slice A N C)] h_5 fun v2 h_6 =>
 ∃ (A2 : Option Addr), ∃ (N2 : Nat), ∃ (C2 : Nat), ∃ (t1 : Int), v2 = (.tuple #[(.slice A2 N2 C2), (.int .i64 t1)]) ∧ CallsH P 19 #[(.slice cA cN cC)] h_6 fun v3 h_7 =>
 ∃ (A3 : Option Addr), ∃ (N3 : Nat), ∃ (C3 : Nat), ∃ (t2 : Int), v3 = (.tuple #[(.slice A3 N3 C3), (.int .i64 t2)]) ∧ CallsH P 20 #[(.slice A N C), (.slice (cutA 1 apA1 apC1 (Int.toNat 0)) (Int.toNat ((modelN : Nat) : Int) - Int.toNat 0) (apC1 - Int.toNat 0))] h_7 fun v4 h_8 =>
 ∃ (t3 : Bool), ∃ (t4 : Int), v4 = (.tuple #[(.bool t3), (.int .i64 t4)]) ∧ CallsH P 21 #[(.slice cA cN cC), (.slice modelA modelN modelC)] h_8 fun v5 h_9 =>
 ∃ (t5 : Bool), ∃ (t6 : Int), v5 = (.tuple #[(.bool t5), (.int .i64 t6)]) ∧ CallsH P 22 #[(.slice A1 N1 C1), (.slice A3 N3 C3)] h_9 fun v6 h_10 =>
 ∃ (t7 : Bool), v6 = (.bool t7) ∧ BIf (!t7) (R (.bool false) h_10) (PIf ((t : Int) = t2)
 (PIf ((t3 : Bool) = t5)
 (PIf ((t4 : Int) = t6)
 (J4_0 P R cA cN cC modelA modelN modelC A N C apA1 apC1 A1 N1 C1 A2 N2 C2 A3 N3 C3 h_10)
 (R (.bool false) h_10))
 (R (.bool false) h_10))
 (R (.bool false) h_10))
theorem vc4 (P : Program) (cA : Option Addr) (cN : Nat) (cC : Nat) (modelA : Option Addr) (modelN : Nat) (modelC : Nat) (R : Value → Heap → Prop) (h : Heap) : fnC P ret4 code4 [(.slice cA cN cC), (.slice modelA modelN modelC)] h R = VC4 P cA cN cC modelA modelN modelC R h := by kernel_rfl
theorem run4 (cA : Option Addr) (cN : Nat) (cC : Nat) (modelA : Option Addr) (modelN : Nat) (modelC : Nat) (R : Value → Heap → Prop) (h : Heap) (hv : VC4 Try.prog cA cN cC modelA modelN modelC R h) : CallsH Try.prog 4 #[(.slice cA cN cC), (.slice modelA modelN modelC)] h R := calls_of_fnC (Checked.mixed Try.checked) Try.func4 comp4 (Nat.le_of_ble_eq_true rfl) (by rw [vc4]; exact hv)

/-! 5: trestle/trestlelaw01.LitsBack -/
def code5 : SCode := (.seq (.region false [⟨(some 4), .mv (.const (.bool false)), none⟩]) (.seq (.seq (.region false [⟨(some 19), .call 16 [] (.val (.one (.bool))), none⟩,
  ⟨(some 20), .not (.tmp 19), none⟩]) (.cond (.tmp 20) (.seq (.region false [⟨(some 4), .mv (.const (.bool false)), none⟩]) .ret) .skip)) (.seq (.region false [⟨(some 22), .mv (.tmp 0), none⟩,
  ⟨(some 23), .call 9 [(.tmp 22)] (.tup [.one (.int .i64), .one (.int .i64)]), none⟩,
  ⟨(some 21), .mv (.tmp 23), none⟩,
  ⟨(some 24), .extr (.tmp 21) 0, none⟩,
  ⟨(some 25), .extr (.tmp 21) 1, none⟩,
  ⟨(some 5), .mv (.tmp 24), none⟩,
  ⟨(some 6), .mv (.tmp 25), none⟩]) (.seq (.seq (.region false [⟨(some 26), .mv (.tmp 6), none⟩,
  ⟨(some 27), .icmp .eql .i64 (.tmp 26) (.const (.int .i64 0)), none⟩]) (.cond (.tmp 27) (.seq (.region false [⟨(some 29), .mv (.tmp 5), none⟩,
  ⟨(some 30), .call 9 [(.tmp 29)] (.tup [.one (.int .i64), .one (.int .i64)]), none⟩,
  ⟨(some 28), .mv (.tmp 30), none⟩,
  ⟨(some 31), .extr (.tmp 28) 0, none⟩,
  ⟨(some 32), .extr (.tmp 28) 1, none⟩,
  ⟨(some 7), .mv (.tmp 31), none⟩,
  ⟨(some 8), .mv (.tmp 32), none⟩]) (.seq (.region false [⟨(some 34), .mv (.tmp 0), none⟩,
  ⟨(some 35), .call 11 [(.tmp 34)] (.tup [.one (.int .i64), .one (.int .i64)]), none⟩,
  ⟨(some 33), .mv (.tmp 35), none⟩,
  ⟨(some 36), .extr (.tmp 33) 0, none⟩,
  ⟨(some 37), .extr (.tmp 33) 1, none⟩,
  ⟨(some 9), .mv (.tmp 36), none⟩,
  ⟨(some 10), .mv (.tmp 37), none⟩]) (.seq (.region false [⟨(some 39), .mv (.tmp 5), none⟩,
  ⟨(some 40), .call 11 [(.tmp 39)] (.tup [.one (.int .i64), .one (.int .i64)]), none⟩,
  ⟨(some 38), .mv (.tmp 40), none⟩,
  ⟨(some 41), .extr (.tmp 38) 0, none⟩,
  ⟨(some 42), .extr (.tmp 38) 1, none⟩,
  ⟨(some 11), .mv (.tmp 41), none⟩,
  ⟨(some 12), .mv (.tmp 42), none⟩]) (.seq (.region false [⟨(some 44), .mv (.tmp 9), none⟩,
  ⟨(some 45), .call 13 [(.tmp 44)] (.tup [.one (.int .i64), .one (.int .i64)]), none⟩,
  ⟨(some 43), .mv (.tmp 45), none⟩,
  ⟨(some 46), .extr (.tmp 43) 0, none⟩,
  ⟨(some 47), .extr (.tmp 43) 1, none⟩,
  ⟨(some 13), .mv (.tmp 46), none⟩,
  ⟨(some 14), .mv (.tmp 47), none⟩]) (.seq (.region false [⟨(some 48), .mv (.tmp 8), none⟩,
  ⟨(some 49), .icmp .neq .i64 (.tmp 48) (.const (.int .i64 0)), none⟩,
  ⟨(some 50), .mv (.tmp 49), none⟩,
  ⟨(some 51), .mv (.tmp 7), (some (50, false))⟩,
  ⟨(some 52), .mv (.tmp 0), (some (50, false))⟩,
  ⟨(some 53), .icmp .neq .i64 (.tmp 51) (.tmp 52), (some (50, false))⟩,
  ⟨(some 54), .pick (.tmp 50) (.const (.bool true)) (.tmp 53), none⟩,
  ⟨(some 55), .mv (.tmp 54), none⟩,
  ⟨(some 56), .mv (.tmp 10), (some (55, false))⟩,
  ⟨(some 57), .icmp .neq .i64 (.tmp 56) (.const (.int .i64 0)), (some (55, false))⟩,
  ⟨(some 58), .pick (.tmp 55) (.const (.bool true)) (.tmp 57), none⟩,
  ⟨(some 59), .mv (.tmp 58), none⟩,
  ⟨(some 60), .mv (.tmp 12), (some (59, false))⟩,
  ⟨(some 61), .icmp .neq .i64 (.tmp 60) (.const (.int .i64 0)), (some (59, false))⟩,
  ⟨(some 62), .pick (.tmp 59) (.const (.bool true)) (.tmp 61), none⟩,
  ⟨(some 63), .mv (.tmp 62), none⟩,
  ⟨(some 64), .mv (.tmp 11), (some (63, false))⟩,
  ⟨(some 65), .mv (.tmp 9), (some (63, false))⟩,
  ⟨(some 66), .neg .i64 (.tmp 65), (some (63, false))⟩,
  ⟨(some 67), .icmp .neq .i64 (.tmp 64) (.tmp 66), (some (63, false))⟩,
  ⟨(some 68), .pick (.tmp 63) (.const (.bool true)) (.tmp 67), none⟩,
  ⟨(some 69), .mv (.tmp 68), none⟩,
  ⟨(some 70), .mv (.tmp 14), (some (69, false))⟩,
  ⟨(some 71), .icmp .neq .i64 (.tmp 70) (.const (.int .i64 0)), (some (69, false))⟩,
  ⟨(some 72), .pick (.tmp 69) (.const (.bool true)) (.tmp 71), none⟩,
  ⟨(some 73), .mv (.tmp 72), none⟩,
  ⟨(some 74), .mv (.tmp 13), (some (73, false))⟩,
  ⟨(some 75), .mv (.tmp 0), (some (73, false))⟩,
  ⟨(some 76), .icmp .neq .i64 (.tmp 74) (.tmp 75), (some (73, false))⟩,
  ⟨(some 77), .pick (.tmp 73) (.const (.bool true)) (.tmp 76), none⟩]) (.cond (.tmp 77) (.seq (.region false [⟨(some 4), .mv (.const (.bool false)), none⟩]) .ret) .skip)))))) (.seq (.region false [⟨(some 78), .mv (.tmp 5), none⟩,
  ⟨(some 79), .icmp .neq .i64 (.tmp 78) (.const (.int .i64 0)), none⟩,
  ⟨(some 80), .mv (.tmp 79), none⟩,
  ⟨(some 81), .mv (.tmp 0), (some (80, false))⟩,
  ⟨(some 82), .icmp .geq .i64 (.tmp 81) (.const (.int .i64 0)), (some (80, false))⟩,
  ⟨(some 83), .mv (.tmp 82), (some (80, false))⟩,
  ⟨(some 84), .mv (.tmp 0), (some (83, true))⟩,
  ⟨(some 85), .icmp .leq .i64 (.tmp 84) (.const (.int .i64 32769)), (some (83, true))⟩,
  ⟨(some 86), .pick (.tmp 83) (.tmp 85) (.const (.bool false)), (some (80, false))⟩,
  ⟨(some 87), .pick (.tmp 80) (.const (.bool true)) (.tmp 86), none⟩]) (.cond (.tmp 87) (.seq (.region false [⟨(some 4), .mv (.const (.bool false)), none⟩]) .ret) .skip)))) (.seq (.region false [⟨(some 89), .mv (.tmp 1), none⟩,
  ⟨(some 90), .call 18 [(.tmp 89)] (.tup [.one (.slice), .one (.int .i64)]), none⟩,
  ⟨(some 88), .mv (.tmp 90), none⟩,
  ⟨(some 91), .extr (.tmp 88) 0, none⟩,
  ⟨(some 92), .extr (.tmp 88) 1, none⟩,
  ⟨(some 15), .mv (.tmp 91), none⟩,
  ⟨(some 6), .mv (.tmp 92), none⟩]) (.seq (.seq (.region false [⟨(some 93), .mv (.tmp 6), none⟩,
  ⟨(some 94), .icmp .neq .i64 (.tmp 93) (.const (.int .i64 0)), none⟩]) (.cond (.tmp 94) (.seq (.region false [⟨(some 95), .mv (.tmp 15), none⟩,
  ⟨(some 96), .len (.tmp 95), none⟩,
  ⟨(some 97), .icmp .eql .i64 (.tmp 96) (.const (.int .i64 0)), none⟩,
  ⟨(some 4), .mv (.tmp 97), none⟩]) .ret) .skip)) (.seq (.region false [⟨(some 99), .mv (.tmp 15), none⟩,
  ⟨(some 100), .call 18 [(.tmp 99)] (.tup [.one (.slice), .one (.int .i64)]), none⟩,
  ⟨(some 98), .mv (.tmp 100), none⟩,
  ⟨(some 101), .extr (.tmp 98) 0, none⟩,
  ⟨(some 102), .extr (.tmp 98) 1, none⟩,
  ⟨(some 16), .mv (.tmp 101), none⟩,
  ⟨(some 17), .mv (.tmp 102), none⟩]) (.seq (.seq (.region false [⟨(some 103), .mv (.tmp 17), none⟩,
  ⟨(some 104), .icmp .neq .i64 (.tmp 103) (.const (.int .i64 0)), none⟩,
  ⟨(some 105), .mv (.tmp 104), none⟩,
  ⟨(some 106), .mv (.tmp 16), (some (105, false))⟩,
  ⟨(some 107), .len (.tmp 106), (some (105, false))⟩,
  ⟨(some 108), .mv (.tmp 15), (some (105, false))⟩,
  ⟨(some 109), .len (.tmp 108), (some (105, false))⟩,
  ⟨(some 110), .icmp .neq .i64 (.tmp 107) (.tmp 109), (some (105, false))⟩,
  ⟨(some 111), .pick (.tmp 105) (.const (.bool true)) (.tmp 110), none⟩]) (.cond (.tmp 111) (.seq (.region false [⟨(some 4), .mv (.const (.bool false)), none⟩]) .ret) .skip)) (.seq (.seq (.region false [⟨(some 112), .mv (.tmp 15), none⟩,
  ⟨(some 113), .len (.tmp 112), none⟩,
  ⟨(some 114), .mv (.const (.int .i64 0)), none⟩]) (.block 0 (.loop [(114, .int .i64)] [115, 116, 18, 117, 118, 119, 120, 121, 122, 123, 124, 125, 126, 127, 128, 129, 130, 131, 132, 133, 134, 135, 136, 137, 138, 139, 140, 141, 142, 143, 144, 145, 146, 147, 148, 149, 150, 151, 152, 153, 154, 4, 155, 114] (.seq (.region false [⟨(some 115), .icmp .lss .i64 (.tmp 114) (.tmp 113), none⟩]) (.seq (.cond (.tmp 115) .skip (.exit 0)) (.seq (.block 1 (.seq (.region false [⟨(some 116), .mv (.tmp 114), none⟩,
  ⟨(some 18), .mv (.tmp 116), none⟩]) (.seq (.region false [⟨(some 117), .mv (.tmp 16), none⟩,
  ⟨(some 118), .mv (.tmp 18), none⟩,
  ⟨(some 119), .idxA 1 (.tmp 117) (.tmp 118), none⟩,
  ⟨(some 120), .ld (.int .i64) (.tmp 119), none⟩,
  ⟨(some 121), .mv (.tmp 15), none⟩,
  ⟨(some 122), .mv (.tmp 18), none⟩,
  ⟨(some 123), .idxA 1 (.tmp 121) (.tmp 122), none⟩,
  ⟨(some 124), .ld (.int .i64) (.tmp 123), none⟩,
  ⟨(some 125), .icmp .neq .i64 (.tmp 120) (.tmp 124), none⟩,
  ⟨(some 126), .mv (.tmp 125), none⟩,
  ⟨(some 127), .mv (.tmp 18), (some (126, false))⟩,
  ⟨(some 128), .icmp .gtr .i64 (.tmp 127) (.const (.int .i64 0)), (some (126, false))⟩,
  ⟨(some 129), .mv (.tmp 128), (some (126, false))⟩,
  ⟨(some 130), .mv (.tmp 15), (some (129, true))⟩,
  ⟨(some 131), .mv (.tmp 18), (some (129, true))⟩,
  ⟨(some 132), .idxA 1 (.tmp 130) (.tmp 131), (some (129, true))⟩,
  ⟨(some 133), .ld (.int .i64) (.tmp 132), (some (129, true))⟩,
  ⟨(some 134), .mv (.tmp 15), (some (129, true))⟩,
  ⟨(some 135), .mv (.tmp 18), (some (129, true))⟩,
  ⟨(some 136), .idxA 1 (.tmp 134) (.tmp 135), (some (129, true))⟩,
  ⟨(some 137), .ld (.int .i64) (.tmp 136), (some (129, true))⟩,
  ⟨(some 138), .neg .i64 (.tmp 137), (some (129, true))⟩,
  ⟨(some 139), .mnx true .i64 (.tmp 133) [(.tmp 138)], (some (129, true))⟩,
  ⟨(some 140), .mv (.tmp 15), (some (129, true))⟩,
  ⟨(some 141), .mv (.tmp 18), (some (129, true))⟩,
  ⟨(some 142), .arith .sub .i64 (.tmp 141) (.const (.int .i64 1)), (some (129, true))⟩,
  ⟨(some 143), .idxA 1 (.tmp 140) (.tmp 142), (some (129, true))⟩,
  ⟨(some 144), .ld (.int .i64) (.tmp 143), (some (129, true))⟩,
  ⟨(some 145), .mv (.tmp 15), (some (129, true))⟩,
  ⟨(some 146), .mv (.tmp 18), (some (129, true))⟩,
  ⟨(some 147), .arith .sub .i64 (.tmp 146) (.const (.int .i64 1)), (some (129, true))⟩,
  ⟨(some 148), .idxA 1 (.tmp 145) (.tmp 147), (some (129, true))⟩,
  ⟨(some 149), .ld (.int .i64) (.tmp 148), (some (129, true))⟩,
  ⟨(some 150), .neg .i64 (.tmp 149), (some (129, true))⟩,
  ⟨(some 151), .mnx true .i64 (.tmp 144) [(.tmp 150)], (some (129, true))⟩,
  ⟨(some 152), .icmp .leq .i64 (.tmp 139) (.tmp 151), (some (129, true))⟩,
  ⟨(some 153), .pick (.tmp 129) (.tmp 152) (.const (.bool false)), (some (126, false))⟩,
  ⟨(some 154), .pick (.tmp 126) (.const (.bool true)) (.tmp 153), none⟩]) (.cond (.tmp 154) (.seq (.region false [⟨(some 4), .mv (.const (.bool false)), none⟩]) .ret) .skip)))) (.region false [⟨(some 155), .arith .add .i64 (.tmp 114) (.const (.int .i64 1)), none⟩,
  ⟨(some 114), .mv (.tmp 155), none⟩]))))))) (.seq (.region false [⟨(some 4), .mv (.const (.bool true)), none⟩]) .ret))))))))))
def loops5 : List (List (Nat × Shp)) := [[(114, .int .i64)]]
def ret5 : List RV := [.tmp 4]
theorem comp5 : compF Try.prog Try.f5 loops5 = some (156, ret5, code5) := by kernel_rfl
def J5_5  (R : Value → Heap → Prop) (A : (Option Addr)) (N : Nat) (A1 : (Option Addr)) (N1 : Nat) (t13 : Int) (next_ : (Int → Heap → Prop)) (h_13 : Heap) : Prop :=
 0 ≤ (t13 : Int) ∧ (t13 : Int) < (N1 : Nat) ∧ AtP A1 fun ad => ∃ (t14 : Int), cellH h_13 (Addr.add ad (Int.toNat t13 * 1)) = some (.int .i64 t14) ∧ 0 ≤ (t13 : Int) ∧ (t13 : Int) < (N : Nat) ∧ AtP A fun ad1 => ∃ (t15 : Int), cellH h_13 (Addr.add ad1 (Int.toNat t13 * 1)) = some (.int .i64 t15) ∧ PIf ((t14 : Int) = t15)
 (PIf ((0 : Int) < t13)
 (0 ≤ (t13 : Int) ∧ (t13 : Int) < (N : Nat) ∧ AtP A fun ad2 => ∃ (t16 : Int), cellH h_13 (Addr.add ad2 (Int.toNat t13 * 1)) = some (.int .i64 t16) ∧ 0 ≤ (t13 : Int) ∧ (t13 : Int) < (N : Nat) ∧ AtP A fun ad3 => ∃ (t17 : Int), cellH h_13 (Addr.add ad3 (Int.toNat t13 * 1)) = some (.int .i64 t17) ∧ 0 ≤ ((IntKind.wrap .i64 (t13 - 1)) : Int) ∧ ((IntKind.wrap .i64 (t13 - 1)) : Int) < (N : Nat) ∧ AtP A fun ad4 => ∃ (t18 : Int), cellH h_13 (Addr.add ad4 (Int.toNat (IntKind.wrap .i64 (t13 - 1)) * 1)) = some (.int .i64 t18) ∧ 0 ≤ ((IntKind.wrap .i64 (t13 - 1)) : Int) ∧ ((IntKind.wrap .i64 (t13 - 1)) : Int) < (N : Nat) ∧ AtP A fun ad5 => ∃ (t19 : Int), cellH h_13 (Addr.add ad5 (Int.toNat (IntKind.wrap .i64 (t13 - 1)) * 1)) = some (.int .i64 t19) ∧ PIf (((max (t16 : Int) (IntKind.wrap .i64 (0 - t17))) : Int) ≤ (max (t18 : Int) (IntKind.wrap .i64 (0 - t19))))
 (R (.bool false) h_13)
 (next_ ((IntKind.wrap .i64 (t13 + 1))) h_13))
 (next_ ((IntKind.wrap .i64 (t13 + 1))) h_13))
 (R (.bool false) h_13)
def J5_4  (R : Value → Heap → Prop) (h_14 : Heap) : Prop :=
 R (.bool true) h_14
def B5_7 (R : Value → Heap → Prop) (A : (Option Addr)) (N : Nat) (A1 : (Option Addr)) (N1 : Nat) (t13 : Int) (h_12 : Heap) (next_ : Int → Heap → Prop) : Prop :=
 PIf ((t13 : Int) < ((N : Nat) : Int))
 (J5_5 R A N A1 N1 t13 next_ h_12)
 (J5_4 R h_12)
def J5_3  (R : Value → Heap → Prop) (h : Heap) (A : (Option Addr)) (N : Nat) (A1 : (Option Addr)) (N1 : Nat) (h_11 : Heap) : Prop :=
 LoopT (σ := Int) (fun st h next => B5_7 R A N A1 N1 (st) h next) (0) h_11
def J5_2  (P : Program) (R : Value → Heap → Prop) (h : Heap) (A : (Option Addr)) (N : Nat) (C : Nat) (h_9 : Heap) : Prop :=
 CallsH P 18 #[(.slice A N C)] h_9 fun v7 h_10 =>
 ∃ (A1 : Option Addr), ∃ (N1 : Nat), ∃ (C1 : Nat), ∃ (t12 : Int), v7 = (.tuple #[(.slice A1 N1 C1), (.int .i64 t12)]) ∧ PIf ((t12 : Int) = 0)
 (PIf ((((N1 : Nat) : Int) : Int) = ((N : Nat) : Int))
 (J5_3 R h A N A1 N1 h_10)
 (R (.bool false) h_10))
 (R (.bool false) h_10)
def J5_1  (P : Program) (R : Value → Heap → Prop) (h : Heap) (cA : (Option Addr)) (cN : Nat) (cC : Nat) (h_7 : Heap) : Prop :=
 CallsH P 18 #[(.slice cA cN cC)] h_7 fun v6 h_8 =>
 ∃ (A : Option Addr), ∃ (N : Nat), ∃ (C : Nat), ∃ (t11 : Int), v6 = (.tuple #[(.slice A N C), (.int .i64 t11)]) ∧ PIf ((t11 : Int) = 0)
 (J5_2 P R h A N C h_8)
 (PIf ((((N : Nat) : Int) : Int) = 0)
 (R (.bool true) h_8)
 (R (.bool false) h_8))
def J5_0  (P : Program) (R : Value → Heap → Prop) (h : Heap) (l : Int) (cA : (Option Addr)) (cN : Nat) (cC : Nat) (h_1 : Heap) : Prop :=
 CallsH P 9 #[(.int .i64 l)] h_1 fun v1 h_2 =>
 ∃ (t1 : Int), ∃ (t2 : Int), v1 = (.tuple #[(.int .i64 t1), (.int .i64 t2)]) ∧ PIf ((t2 : Int) = 0)
 (CallsH P 9 #[(.int .i64 t1)] h_2 fun v2 h_3 =>
 ∃ (t3 : Int), ∃ (t4 : Int), v2 = (.tuple #[(.int .i64 t3), (.int .i64 t4)]) ∧ CallsH P 11 #[(.int .i64 l)] h_3 fun v3 h_4 =>
 ∃ (t5 : Int), ∃ (t6 : Int), v3 = (.tuple #[(.int .i64 t5), (.int .i64 t6)]) ∧ CallsH P 11 #[(.int .i64 t1)] h_4 fun v4 h_5 =>
 ∃ (t7 : Int), ∃ (t8 : Int), v4 = (.tuple #[(.int .i64 t7), (.int .i64 t8)]) ∧ CallsH P 13 #[(.int .i64 t5)] h_5 fun v5 h_6 =>
 ∃ (t9 : Int), ∃ (t10 : Int), v5 = (.tuple #[(.int .i64 t9), (.int .i64 t10)]) ∧ PIf ((t4 : Int) = 0)
 (PIf ((t3 : Int) = l)
 (PIf ((t6 : Int) = 0)
 (PIf ((t8 : Int) = 0)
 (PIf ((t7 : Int) = (IntKind.wrap .i64 (0 - t5)))
 (PIf ((t10 : Int) = 0)
 (PIf ((t9 : Int) = l)
 (J5_1 P R h cA cN cC h_6)
 (R (.bool false) h_6))
 (R (.bool false) h_6))
 (R (.bool false) h_6))
 (R (.bool false) h_6))
 (R (.bool false) h_6))
 (R (.bool false) h_6))
 (R (.bool false) h_6))
 (PIf ((t1 : Int) = 0)
 (PIf ((0 : Int) ≤ l)
 (PIf ((l : Int) ≤ 32769)
 (R (.bool false) h_2)
 (J5_1 P R h cA cN cC h_2))
 (J5_1 P R h cA cN cC h_2))
 (R (.bool false) h_2))
def VC5 (P : Program) (l : Int) (cA : Option Addr) (cN : Nat) (cC : Nat) (R : Value → Heap → Prop) (h : Heap) : Prop :=
 CallsH P 16 #[] h fun v h_ =>
 ∃ (t : Bool), v = (.bool t) ∧ BIf (!t) (R (.bool false) h_) (J5_0 P R h l cA cN cC h_)
theorem vc5 (P : Program) (l : Int) (cA : Option Addr) (cN : Nat) (cC : Nat) (R : Value → Heap → Prop) (h : Heap) : fnC P ret5 code5 [(.int .i64 l), (.slice cA cN cC)] h R = VC5 P l cA cN cC R h := by kernel_rfl
theorem run5 (l : Int) (cA : Option Addr) (cN : Nat) (cC : Nat) (R : Value → Heap → Prop) (h : Heap) (hv : VC5 Try.prog l cA cN cC R h) : CallsH Try.prog 5 #[(.int .i64 l), (.slice cA cN cC)] h R := calls_of_fnC (Checked.mixed Try.checked) Try.func5 comp5 (Nat.le_of_ble_eq_true rfl) (by rw [vc5]; exact hv)

/-! 6: trestle/trestlelaw01.LitsSubsumes -/
def code6 : SCode := (.seq (.region false [⟨(some 4), .mv (.const (.bool false)), none⟩]) (.seq (.region false [⟨(some 17), .mv (.tmp 0), none⟩,
  ⟨(some 18), .call 17 [(.tmp 17)] (.val (.one (.slice))), none⟩,
  ⟨(some 19), .mv (.tmp 1), none⟩,
  ⟨(some 20), .call 17 [(.tmp 19)] (.val (.one (.slice))), none⟩,
  ⟨(some 5), .mv (.tmp 18), none⟩,
  ⟨(some 6), .mv (.tmp 20), none⟩]) (.seq (.region false [⟨(some 22), .mv (.tmp 5), none⟩,
  ⟨(some 23), .mv (.tmp 6), none⟩,
  ⟨(some 24), .call 26 [(.tmp 22), (.tmp 23)] (.tup [.one (.bool), .one (.int .i64)]), none⟩,
  ⟨(some 21), .mv (.tmp 24), none⟩,
  ⟨(some 25), .extr (.tmp 21) 0, none⟩,
  ⟨(some 26), .extr (.tmp 21) 1, none⟩,
  ⟨(some 7), .mv (.tmp 25), none⟩,
  ⟨(some 8), .mv (.tmp 26), none⟩]) (.seq (.region false [⟨(some 28), .mv (.tmp 0), none⟩,
  ⟨(some 29), .mv (.tmp 1), none⟩,
  ⟨(some 30), .call 27 [(.tmp 28), (.tmp 29)] (.tup [.one (.bool), .one (.int .i64)]), none⟩,
  ⟨(some 27), .mv (.tmp 30), none⟩,
  ⟨(some 31), .extr (.tmp 27) 0, none⟩,
  ⟨(some 32), .extr (.tmp 27) 1, none⟩,
  ⟨(some 9), .mv (.tmp 31), none⟩,
  ⟨(some 10), .mv (.tmp 32), none⟩]) (.seq (.region false [⟨(some 34), .mv (.tmp 5), none⟩,
  ⟨(some 35), .mv (.tmp 6), none⟩,
  ⟨(some 36), .call 28 [(.tmp 34), (.tmp 35)] (.tup [.one (.slice), .one (.bool), .one (.int .i64)]), none⟩,
  ⟨(some 33), .mv (.tmp 36), none⟩,
  ⟨(some 37), .extr (.tmp 33) 0, none⟩,
  ⟨(some 38), .extr (.tmp 33) 1, none⟩,
  ⟨(some 39), .extr (.tmp 33) 2, none⟩,
  ⟨(some 11), .mv (.tmp 37), none⟩,
  ⟨(some 12), .mv (.tmp 38), none⟩,
  ⟨(some 13), .mv (.tmp 39), none⟩]) (.seq (.region false [⟨(some 41), .mv (.tmp 0), none⟩,
  ⟨(some 42), .mv (.tmp 1), none⟩,
  ⟨(some 43), .call 29 [(.tmp 41), (.tmp 42)] (.tup [.one (.slice), .one (.bool), .one (.int .i64)]), none⟩,
  ⟨(some 40), .mv (.tmp 43), none⟩,
  ⟨(some 44), .extr (.tmp 40) 0, none⟩,
  ⟨(some 45), .extr (.tmp 40) 1, none⟩,
  ⟨(some 46), .extr (.tmp 40) 2, none⟩,
  ⟨(some 14), .mv (.tmp 44), none⟩,
  ⟨(some 15), .mv (.tmp 45), none⟩,
  ⟨(some 16), .mv (.tmp 46), none⟩]) (.seq (.seq (.region false [⟨(some 47), .mv (.tmp 7), none⟩,
  ⟨(some 48), .mv (.tmp 9), none⟩,
  ⟨(some 49), .bcmp true (.tmp 47) (.tmp 48), none⟩,
  ⟨(some 50), .mv (.tmp 49), none⟩,
  ⟨(some 51), .mv (.tmp 8), (some (50, false))⟩,
  ⟨(some 52), .mv (.tmp 10), (some (50, false))⟩,
  ⟨(some 53), .icmp .neq .i64 (.tmp 51) (.tmp 52), (some (50, false))⟩,
  ⟨(some 54), .pick (.tmp 50) (.const (.bool true)) (.tmp 53), none⟩,
  ⟨(some 55), .mv (.tmp 54), none⟩,
  ⟨(some 56), .mv (.tmp 11), (some (55, false))⟩,
  ⟨(some 57), .mv (.tmp 14), (some (55, false))⟩,
  ⟨(some 58), .call 22 [(.tmp 56), (.tmp 57)] (.val (.one (.bool))), (some (55, false))⟩,
  ⟨(some 59), .not (.tmp 58), (some (55, false))⟩,
  ⟨(some 60), .pick (.tmp 55) (.const (.bool true)) (.tmp 59), none⟩,
  ⟨(some 61), .mv (.tmp 60), none⟩,
  ⟨(some 62), .mv (.tmp 12), (some (61, false))⟩,
  ⟨(some 63), .mv (.tmp 15), (some (61, false))⟩,
  ⟨(some 64), .bcmp true (.tmp 62) (.tmp 63), (some (61, false))⟩,
  ⟨(some 65), .pick (.tmp 61) (.const (.bool true)) (.tmp 64), none⟩,
  ⟨(some 66), .mv (.tmp 65), none⟩,
  ⟨(some 67), .mv (.tmp 13), (some (66, false))⟩,
  ⟨(some 68), .mv (.tmp 16), (some (66, false))⟩,
  ⟨(some 69), .icmp .neq .i64 (.tmp 67) (.tmp 68), (some (66, false))⟩,
  ⟨(some 70), .pick (.tmp 66) (.const (.bool true)) (.tmp 69), none⟩]) (.cond (.tmp 70) (.seq (.region false [⟨(some 4), .mv (.const (.bool false)), none⟩]) .ret) .skip)) (.seq (.region false [⟨(some 71), .mv (.tmp 11), none⟩,
  ⟨(some 72), .call 23 [(.tmp 71), (.const (.int .i64 (-7)))] (.tup []), none⟩]) (.seq (.region false [⟨(some 73), .mv (.tmp 5), none⟩,
  ⟨(some 74), .mv (.tmp 0), none⟩,
  ⟨(some 75), .call 24 [(.tmp 73), (.tmp 74)] (.val (.one (.bool))), none⟩,
  ⟨(some 76), .mv (.tmp 75), none⟩,
  ⟨(some 77), .mv (.tmp 6), (some (76, true))⟩,
  ⟨(some 78), .mv (.tmp 1), (some (76, true))⟩,
  ⟨(some 79), .call 24 [(.tmp 77), (.tmp 78)] (.val (.one (.bool))), (some (76, true))⟩,
  ⟨(some 80), .pick (.tmp 76) (.tmp 79) (.const (.bool false)), none⟩,
  ⟨(some 81), .mv (.tmp 80), none⟩,
  ⟨(some 82), .call 16 [] (.val (.one (.bool))), (some (81, true))⟩,
  ⟨(some 83), .pick (.tmp 81) (.tmp 82) (.const (.bool false)), none⟩,
  ⟨(some 4), .mv (.tmp 83), none⟩]) .ret)))))))))
def loops6 : List (List (Nat × Shp)) := []
def ret6 : List RV := [.tmp 4]
theorem comp6 : compF Try.prog Try.f6 loops6 = some (84, ret6, code6) := by kernel_rfl
def J6_0  (P : Program) (R : Value → Heap → Prop) (aA : (Option Addr)) (aN : Nat) (aC : Nat) (bA : (Option Addr)) (bN : Nat) (bC : Nat) (A : (Option Addr)) (N : Nat) (C : Nat) (A1 : (Option Addr)) (N1 : Nat) (C1 : Nat) (A2 : (Option Addr)) (N2 : Nat) (C2 : Nat) (h_7 : Heap) : Prop :=
 CallsH P 23 #[(.slice A2 N2 C2), (.int .i64 (-7))] h_7 fun v7 h_8 =>
 v7 = (.tuple #[]) ∧ CallsH P 24 #[(.slice A N C), (.slice aA aN aC)] h_8 fun v8 h_9 =>
 ∃ (t9 : Bool), v8 = (.bool t9) ∧ BIf t9 (CallsH P 24 #[(.slice A1 N1 C1), (.slice bA bN bC)] h_9 fun v9 h_10 =>
 ∃ (t10 : Bool), v9 = (.bool t10) ∧ BIf t10 (CallsH P 16 #[] h_10 fun v10 h_11 =>
 ∃ (t11 : Bool), v10 = (.bool t11) ∧ R (.bool t11) h_11) (R (.bool false) h_10)) (R (.bool false) h_9)
def VC6 (P : Program) (aA : Option Addr) (aN : Nat) (aC : Nat) (bA : Option Addr) (bN : Nat) (bC : Nat) (R : Value → Heap → Prop) (h : Heap) : Prop :=
 CallsH P 17 #[(.slice aA aN aC)] h fun v h_ =>
 ∃ (A : Option Addr), ∃ (N : Nat), ∃ (C : Nat), v = (.slice A N C) ∧ CallsH P 17 #[(.slice bA bN bC)] h_ fun v1 h_1 =>
 ∃ (A1 : Option Addr), ∃ (N1 : Nat), ∃ (C1 : Nat), v1 = (.slice A1 N1 C1) ∧ CallsH P 26 #[(.slice A N C), (.slice A1 N1 C1)] h_1 fun v2 h_2 =>
 ∃ (t : Bool), ∃ (t1 : Int), v2 = (.tuple #[(.bool t), (.int .i64 t1)]) ∧ CallsH P 27 #[(.slice aA aN aC), (.slice bA bN bC)] h_2 fun v3 h_3 =>
 ∃ (t2 : Bool), ∃ (t3 : Int), v3 = (.tuple #[(.bool t2), (.int .i64 t3)]) ∧ CallsH P 28 #[(.slice A N C), (.slice A1 N1 C1)] h_3 fun v4 h_4 =>
 ∃ (A2 : Option Addr), ∃ (N2 : Nat), ∃ (C2 : Nat), ∃ (t4 : Bool), ∃ (t5 : Int), v4 = (.tuple #[(.slice A2 N2 C2), (.bool t4), (.int .i64 t5)]) ∧ CallsH P 29 #[(.slice aA aN aC), (.slice bA bN bC)] h_4 fun v5 h_5 =>
 ∃ (A3 : Option Addr), ∃ (N3 : Nat), ∃ (C3 : Nat), ∃ (t6 : Bool), ∃ (t7 : Int), v5 = (.tuple #[(.slice A3 N3 C3), (.bool t6), (.int .i64 t7)]) ∧ PIf ((t : Bool) = t2)
 (PIf ((t1 : Int) = t3)
 (CallsH P 22 #[(.slice A2 N2 C2), (.slice A3 N3 C3)] h_5 fun v6 h_6 =>
 ∃ (t8 : Bool), v6 = (.bool t8) ∧ BIf (!t8) (R (.bool false) h_6) (PIf ((t4 : Bool) = t6)
 (PIf ((t5 : Int) = t7)
 (J6_0 P R aA aN aC bA bN bC A N C A1 N1 C1 A2 N2 C2 h_6)
 (R (.bool false) h_6))
 (R (.bool false) h_6)))
 (R (.bool false) h_5))
 (R (.bool false) h_5)
theorem vc6 (P : Program) (aA : Option Addr) (aN : Nat) (aC : Nat) (bA : Option Addr) (bN : Nat) (bC : Nat) (R : Value → Heap → Prop) (h : Heap) : fnC P ret6 code6 [(.slice aA aN aC), (.slice bA bN bC)] h R = VC6 P aA aN aC bA bN bC R h := by kernel_rfl
theorem run6 (aA : Option Addr) (aN : Nat) (aC : Nat) (bA : Option Addr) (bN : Nat) (bC : Nat) (R : Value → Heap → Prop) (h : Heap) (hv : VC6 Try.prog aA aN aC bA bN bC R h) : CallsH Try.prog 6 #[(.slice aA aN aC), (.slice bA bN bC)] h R := calls_of_fnC (Checked.mixed Try.checked) Try.func6 comp6 (Nat.le_of_ble_eq_true rfl) (by rw [vc6]; exact hv)

/-! 7: trestle/trestlelaw01.LitsRests -/
def code7 : SCode := (.seq (.region false [⟨(some 4), .mv (.const (.bool false)), none⟩]) (.seq (.region false [⟨(some 13), .mv (.tmp 0), none⟩,
  ⟨(some 14), .call 17 [(.tmp 13)] (.val (.one (.slice))), none⟩,
  ⟨(some 15), .mv (.tmp 1), none⟩,
  ⟨(some 16), .call 30 [(.tmp 15)] (.val (.one (.slice))), none⟩,
  ⟨(some 5), .mv (.tmp 14), none⟩,
  ⟨(some 6), .mv (.tmp 16), none⟩]) (.seq (.region false [⟨(some 18), .mv (.tmp 5), none⟩,
  ⟨(some 19), .mv (.tmp 6), none⟩,
  ⟨(some 20), .call 31 [(.tmp 18), (.tmp 19)] (.tup [.one (.slice), .one (.bool), .one (.int .i64)]), none⟩,
  ⟨(some 17), .mv (.tmp 20), none⟩,
  ⟨(some 21), .extr (.tmp 17) 0, none⟩,
  ⟨(some 22), .extr (.tmp 17) 1, none⟩,
  ⟨(some 23), .extr (.tmp 17) 2, none⟩,
  ⟨(some 7), .mv (.tmp 21), none⟩,
  ⟨(some 8), .mv (.tmp 22), none⟩,
  ⟨(some 9), .mv (.tmp 23), none⟩]) (.seq (.region false [⟨(some 25), .mv (.tmp 0), none⟩,
  ⟨(some 26), .mv (.tmp 1), none⟩,
  ⟨(some 27), .call 32 [(.tmp 25), (.tmp 26)] (.tup [.one (.slice), .one (.bool), .one (.int .i64)]), none⟩,
  ⟨(some 24), .mv (.tmp 27), none⟩,
  ⟨(some 28), .extr (.tmp 24) 0, none⟩,
  ⟨(some 29), .extr (.tmp 24) 1, none⟩,
  ⟨(some 30), .extr (.tmp 24) 2, none⟩,
  ⟨(some 10), .mv (.tmp 28), none⟩,
  ⟨(some 11), .mv (.tmp 29), none⟩,
  ⟨(some 12), .mv (.tmp 30), none⟩]) (.seq (.seq (.region false [⟨(some 31), .mv (.tmp 7), none⟩,
  ⟨(some 32), .mv (.tmp 10), none⟩,
  ⟨(some 33), .call 22 [(.tmp 31), (.tmp 32)] (.val (.one (.bool))), none⟩,
  ⟨(some 34), .not (.tmp 33), none⟩,
  ⟨(some 35), .mv (.tmp 34), none⟩,
  ⟨(some 36), .mv (.tmp 8), (some (35, false))⟩,
  ⟨(some 37), .mv (.tmp 11), (some (35, false))⟩,
  ⟨(some 38), .bcmp true (.tmp 36) (.tmp 37), (some (35, false))⟩,
  ⟨(some 39), .pick (.tmp 35) (.const (.bool true)) (.tmp 38), none⟩,
  ⟨(some 40), .mv (.tmp 39), none⟩,
  ⟨(some 41), .mv (.tmp 9), (some (40, false))⟩,
  ⟨(some 42), .mv (.tmp 12), (some (40, false))⟩,
  ⟨(some 43), .icmp .neq .i64 (.tmp 41) (.tmp 42), (some (40, false))⟩,
  ⟨(some 44), .pick (.tmp 40) (.const (.bool true)) (.tmp 43), none⟩]) (.cond (.tmp 44) (.seq (.region false [⟨(some 4), .mv (.const (.bool false)), none⟩]) .ret) .skip)) (.seq (.region false [⟨(some 45), .mv (.tmp 7), none⟩,
  ⟨(some 46), .call 23 [(.tmp 45), (.const (.int .i64 (-7)))] (.tup []), none⟩]) (.seq (.region false [⟨(some 47), .mv (.tmp 5), none⟩,
  ⟨(some 48), .mv (.tmp 0), none⟩,
  ⟨(some 49), .call 24 [(.tmp 47), (.tmp 48)] (.val (.one (.bool))), none⟩,
  ⟨(some 50), .mv (.tmp 49), none⟩,
  ⟨(some 51), .mv (.tmp 6), (some (50, true))⟩,
  ⟨(some 52), .mv (.tmp 1), (some (50, true))⟩,
  ⟨(some 53), .call 24 [(.tmp 51), (.tmp 52)] (.val (.one (.bool))), (some (50, true))⟩,
  ⟨(some 54), .pick (.tmp 50) (.tmp 53) (.const (.bool false)), none⟩,
  ⟨(some 55), .mv (.tmp 54), none⟩,
  ⟨(some 56), .call 16 [] (.val (.one (.bool))), (some (55, true))⟩,
  ⟨(some 57), .pick (.tmp 55) (.tmp 56) (.const (.bool false)), none⟩,
  ⟨(some 4), .mv (.tmp 57), none⟩]) .ret)))))))
def loops7 : List (List (Nat × Shp)) := []
def ret7 : List RV := [.tmp 4]
theorem comp7 : compF Try.prog Try.f7 loops7 = some (58, ret7, code7) := by kernel_rfl
def J7_0  (P : Program) (R : Value → Heap → Prop) (cA : (Option Addr)) (cN : Nat) (cC : Nat) (assignedA : (Option Addr)) (assignedN : Nat) (assignedC : Nat) (A : (Option Addr)) (N : Nat) (C : Nat) (A1 : (Option Addr)) (N1 : Nat) (C1 : Nat) (A2 : (Option Addr)) (N2 : Nat) (C2 : Nat) (h_5 : Heap) : Prop :=
 CallsH P 23 #[(.slice A2 N2 C2), (.int .i64 (-7))] h_5 fun v5 h_6 =>
 v5 = (.tuple #[]) ∧ CallsH P 24 #[(.slice A N C), (.slice cA cN cC)] h_6 fun v6 h_7 =>
 ∃ (t5 : Bool), v6 = (.bool t5) ∧ BIf t5 (CallsH P 24 #[(.slice A1 N1 C1), (.slice assignedA assignedN assignedC)] h_7 fun v7 h_8 =>
 ∃ (t6 : Bool), v7 = (.bool t6) ∧ BIf t6 (CallsH P 16 #[] h_8 fun v8 h_9 =>
 ∃ (t7 : Bool), v8 = (.bool t7) ∧ R (.bool t7) h_9) (R (.bool false) h_8)) (R (.bool false) h_7)
def VC7 (P : Program) (cA : Option Addr) (cN : Nat) (cC : Nat) (assignedA : Option Addr) (assignedN : Nat) (assignedC : Nat) (R : Value → Heap → Prop) (h : Heap) : Prop :=
 CallsH P 17 #[(.slice cA cN cC)] h fun v h_ =>
 ∃ (A : Option Addr), ∃ (N : Nat), ∃ (C : Nat), v = (.slice A N C) ∧ CallsH P 30 #[(.slice assignedA assignedN assignedC)] h_ fun v1 h_1 =>
 ∃ (A1 : Option Addr), ∃ (N1 : Nat), ∃ (C1 : Nat), v1 = (.slice A1 N1 C1) ∧ CallsH P 31 #[(.slice A N C), (.slice A1 N1 C1)] h_1 fun v2 h_2 =>
 ∃ (A2 : Option Addr), ∃ (N2 : Nat), ∃ (C2 : Nat), ∃ (t : Bool), ∃ (t1 : Int), v2 = (.tuple #[(.slice A2 N2 C2), (.bool t), (.int .i64 t1)]) ∧ CallsH P 32 #[(.slice cA cN cC), (.slice assignedA assignedN assignedC)] h_2 fun v3 h_3 =>
 ∃ (A3 : Option Addr), ∃ (N3 : Nat), ∃ (C3 : Nat), ∃ (t2 : Bool), ∃ (t3 : Int), v3 = (.tuple #[(.slice A3 N3 C3), (.bool t2), (.int .i64 t3)]) ∧ CallsH P 22 #[(.slice A2 N2 C2), (.slice A3 N3 C3)] h_3 fun v4 h_4 =>
 ∃ (t4 : Bool), v4 = (.bool t4) ∧ BIf (!t4) (R (.bool false) h_4) (PIf ((t : Bool) = t2)
 (PIf ((t1 : Int) = t3)
 (J7_0 P R cA cN cC assignedA assignedN assignedC A N C A1 N1 C1 A2 N2 C2 h_4)
 (R (.bool false) h_4))
 (R (.bool false) h_4))
theorem vc7 (P : Program) (cA : Option Addr) (cN : Nat) (cC : Nat) (assignedA : Option Addr) (assignedN : Nat) (assignedC : Nat) (R : Value → Heap → Prop) (h : Heap) : fnC P ret7 code7 [(.slice cA cN cC), (.slice assignedA assignedN assignedC)] h R = VC7 P cA cN cC assignedA assignedN assignedC R h := by kernel_rfl
theorem run7 (cA : Option Addr) (cN : Nat) (cC : Nat) (assignedA : Option Addr) (assignedN : Nat) (assignedC : Nat) (R : Value → Heap → Prop) (h : Heap) (hv : VC7 Try.prog cA cN cC assignedA assignedN assignedC R h) : CallsH Try.prog 7 #[(.slice cA cN cC), (.slice assignedA assignedN assignedC)] h R := calls_of_fnC (Checked.mixed Try.checked) Try.func7 comp7 (Nat.le_of_ble_eq_true rfl) (by rw [vc7]; exact hv)

/-! 8: trestle/trestlelaw01.LitsLeft -/
def code8 : SCode := (.seq (.region false [⟨(some 6), .mv (.const (.bool false)), none⟩]) (.seq (.seq (.region false [⟨(some 14), .call 16 [] (.val (.one (.bool))), none⟩,
  ⟨(some 15), .not (.tmp 14), none⟩]) (.cond (.tmp 15) (.seq (.region false [⟨(some 6), .mv (.const (.bool false)), none⟩]) .ret) .skip)) (.seq (.seq (.region false [⟨(some 16), .mv (.tmp 0), none⟩,
  ⟨(some 17), .mv (.tmp 1), none⟩,
  ⟨(some 18), .call 33 [(.tmp 16), (.tmp 17)] (.val (.one (.bool))), none⟩,
  ⟨(some 19), .not (.tmp 18), none⟩,
  ⟨(some 20), .mv (.tmp 19), none⟩,
  ⟨(some 21), .mv (.tmp 1), (some (20, false))⟩,
  ⟨(some 22), .len (.tmp 21), (some (20, false))⟩,
  ⟨(some 23), .icmp .gtr .i64 (.tmp 22) (.const (.int .i64 100)), (some (20, false))⟩,
  ⟨(some 24), .pick (.tmp 20) (.const (.bool true)) (.tmp 23), none⟩]) (.cond (.tmp 24) (.seq (.region false [⟨(some 6), .mv (.const (.bool true)), none⟩]) .ret) .skip)) (.seq (.region false [⟨(some 7), .mv (.const (.slice none 0 0)), none⟩]) (.seq (.seq (.region false [⟨(some 25), .mv (.tmp 2), none⟩,
  ⟨(some 26), .len (.tmp 25), none⟩,
  ⟨(some 27), .mv (.const (.int .i64 0)), none⟩]) (.block 0 (.loop [(7, .slice), (27, .int .i64)] [28, 29, 30, 9, 31, 32, 33, 34, 35, 36, 37, 38, 39, 40, 41, 42, 43, 44, 45, 10, 46, 47, 48, 49, 50, 51, 52, 53, 54, 7, 55, 56, 57, 58, 59, 60, 7, 61, 27] (.seq (.region false [⟨(some 28), .icmp .lss .i64 (.tmp 27) (.tmp 26), none⟩]) (.seq (.cond (.tmp 28) .skip (.exit 0)) (.seq (.block 1 (.seq (.region false [⟨(some 29), .idxA 1 (.tmp 25) (.tmp 27), none⟩,
  ⟨(some 30), .ld (.int .i64) (.tmp 29), none⟩,
  ⟨(some 9), .mv (.tmp 30), none⟩]) (.seq (.seq (.region false [⟨(some 31), .mv (.tmp 1), none⟩,
  ⟨(some 32), .len (.tmp 31), none⟩,
  ⟨(some 33), .icmp .eql .i64 (.tmp 32) (.const (.int .i64 0)), none⟩,
  ⟨(some 34), .mv (.tmp 33), none⟩,
  ⟨(some 35), .mv (.tmp 7), (some (34, false))⟩,
  ⟨(some 36), .len (.tmp 35), (some (34, false))⟩,
  ⟨(some 37), .icmp .gtr .i64 (.tmp 36) (.const (.int .i64 100)), (some (34, false))⟩,
  ⟨(some 38), .pick (.tmp 34) (.const (.bool true)) (.tmp 37), none⟩]) (.cond (.tmp 38) (.exit 0) .skip)) (.seq (.region false [⟨(some 39), .mv (.tmp 9), none⟩,
  ⟨(some 40), .conv .u64 (.tmp 39), none⟩,
  ⟨(some 41), .mv (.tmp 1), none⟩,
  ⟨(some 42), .len (.tmp 41), none⟩,
  ⟨(some 43), .conv .u64 (.tmp 42), none⟩,
  ⟨(some 44), .divv .rem .u64 (.tmp 40) (.tmp 43), none⟩,
  ⟨(some 45), .conv .i64 (.tmp 44), none⟩,
  ⟨(some 10), .mv (.tmp 45), none⟩]) (.seq (.region false [⟨(some 46), .mv (.tmp 1), none⟩,
  ⟨(some 47), .mv (.tmp 10), none⟩,
  ⟨(some 48), .idxA 1 (.tmp 46) (.tmp 47), none⟩,
  ⟨(some 49), .ld (.bool) (.tmp 48), none⟩]) (.cond (.tmp 49) (.region false [⟨(some 50), .mv (.tmp 7), none⟩,
  ⟨(some 51), .mv (.tmp 10), none⟩,
  ⟨(some 52), .arith .add .i64 (.tmp 51) (.const (.int .i64 1)), none⟩,
  ⟨(some 53), .lit 3 1 #[(.int .i64 0)] [(0, 1, (.tmp 52))], none⟩,
  ⟨(some 54), .app 3 8 1 #[(.int .i64 0)] (.tmp 50) (.tmp 53), none⟩,
  ⟨(some 7), .mv (.tmp 54), none⟩]) (.region false [⟨(some 55), .mv (.tmp 7), none⟩,
  ⟨(some 56), .mv (.tmp 10), none⟩,
  ⟨(some 57), .neg .i64 (.tmp 56), none⟩,
  ⟨(some 58), .arith .sub .i64 (.tmp 57) (.const (.int .i64 1)), none⟩,
  ⟨(some 59), .lit 3 1 #[(.int .i64 0)] [(0, 1, (.tmp 58))], none⟩,
  ⟨(some 60), .app 3 8 1 #[(.int .i64 0)] (.tmp 55) (.tmp 59), none⟩,
  ⟨(some 7), .mv (.tmp 60), none⟩]))))))) (.region false [⟨(some 61), .arith .add .i64 (.tmp 27) (.const (.int .i64 1)), none⟩,
  ⟨(some 27), .mv (.tmp 61), none⟩]))))))) (.seq (.region false [⟨(some 63), .mv (.tmp 0), none⟩,
  ⟨(some 64), .mv (.tmp 7), none⟩,
  ⟨(some 65), .call 31 [(.tmp 63), (.tmp 64)] (.tup [.one (.slice), .one (.bool), .one (.int .i64)]), none⟩,
  ⟨(some 62), .mv (.tmp 65), none⟩,
  ⟨(some 66), .extr (.tmp 62) 0, none⟩,
  ⟨(some 67), .extr (.tmp 62) 1, none⟩,
  ⟨(some 68), .extr (.tmp 62) 2, none⟩,
  ⟨(some 11), .mv (.tmp 66), none⟩,
  ⟨(some 12), .mv (.tmp 67), none⟩,
  ⟨(some 13), .mv (.tmp 68), none⟩]) (.seq (.seq (.region false [⟨(some 69), .mv (.tmp 13), none⟩,
  ⟨(some 70), .icmp .neq .i64 (.tmp 69) (.const (.int .i64 0)), none⟩]) (.cond (.tmp 70) (.seq (.region false [⟨(some 71), .mv (.tmp 13), none⟩,
  ⟨(some 72), .icmp .eql .i64 (.tmp 71) (.const (.int .i64 10)), none⟩,
  ⟨(some 73), .mv (.tmp 72), none⟩,
  ⟨(some 74), .mv (.tmp 11), (some (73, true))⟩,
  ⟨(some 75), .len (.tmp 74), (some (73, true))⟩,
  ⟨(some 76), .icmp .eql .i64 (.tmp 75) (.const (.int .i64 0)), (some (73, true))⟩,
  ⟨(some 77), .pick (.tmp 73) (.tmp 76) (.const (.bool false)), none⟩,
  ⟨(some 6), .mv (.tmp 77), none⟩]) .ret) .skip)) (.seq (.seq (.region false [⟨(some 78), .mv (.tmp 12), none⟩]) (.cond (.tmp 78) (.seq (.region false [⟨(some 79), .mv (.tmp 0), none⟩,
  ⟨(some 80), .mv (.tmp 1), none⟩,
  ⟨(some 81), .call 34 [(.tmp 79), (.tmp 80)] (.val (.one (.bool))), none⟩,
  ⟨(some 82), .mv (.tmp 81), none⟩,
  ⟨(some 83), .mv (.tmp 11), (some (82, true))⟩,
  ⟨(some 84), .len (.tmp 83), (some (82, true))⟩,
  ⟨(some 85), .icmp .eql .i64 (.tmp 84) (.const (.int .i64 0)), (some (82, true))⟩,
  ⟨(some 86), .pick (.tmp 82) (.tmp 85) (.const (.bool false)), none⟩,
  ⟨(some 6), .mv (.tmp 86), none⟩]) .ret) .skip)) (.seq (.region false [⟨(some 87), .mv (.tmp 11), none⟩,
  ⟨(some 88), .mv (.tmp 1), none⟩,
  ⟨(some 89), .call 34 [(.tmp 87), (.tmp 88)] (.val (.one (.bool))), none⟩,
  ⟨(some 90), .mv (.tmp 0), none⟩,
  ⟨(some 91), .mv (.tmp 1), none⟩,
  ⟨(some 92), .call 34 [(.tmp 90), (.tmp 91)] (.val (.one (.bool))), none⟩,
  ⟨(some 93), .bcmp false (.tmp 89) (.tmp 92), none⟩,
  ⟨(some 94), .mv (.tmp 93), none⟩,
  ⟨(some 95), .mv (.tmp 11), (some (94, true))⟩,
  ⟨(some 96), .len (.tmp 95), (some (94, true))⟩,
  ⟨(some 97), .mv (.tmp 0), (some (94, true))⟩,
  ⟨(some 98), .len (.tmp 97), (some (94, true))⟩,
  ⟨(some 99), .icmp .leq .i64 (.tmp 96) (.tmp 98), (some (94, true))⟩,
  ⟨(some 100), .pick (.tmp 94) (.tmp 99) (.const (.bool false)), none⟩,
  ⟨(some 6), .mv (.tmp 100), none⟩]) .ret)))))))))
def loops8 : List (List (Nat × Shp)) := [[(7, .slice), (27, .int .i64)]]
def ret8 : List RV := [.tmp 6]
theorem comp8 : compF Try.prog Try.f8 loops8 = some (101, ret8, code8) := by kernel_rfl
def J8_6  (P : Program) (R : Value → Heap → Prop) (cA : (Option Addr)) (cN : Nat) (cC : Nat) (modelA : (Option Addr)) (modelN : Nat) (modelC : Nat) (A : (Option Addr)) (N : Nat) (C : Nat) (h_10 : Heap) : Prop :=
 CallsH P 34 #[(.slice A N C), (.slice modelA modelN modelC)] h_10 fun v4 h_11 =>
 ∃ (t7 : Bool), v4 = (.bool t7) ∧ CallsH P 34 #[(.slice cA cN cC), (.slice modelA modelN modelC)] h_11 fun v5 h_12 =>
 ∃ (t8 : Bool), v5 = (.bool t8) ∧ PIf ((t7 : Bool) = t8)
 (PIf ((((N : Nat) : Int) : Int) ≤ ((cN : Nat) : Int))
 (R (.bool true) h_12)
 (R (.bool false) h_12))
 (R (.bool false) h_12)
def J8_5  (P : Program) (R : Value → Heap → Prop) (cA : (Option Addr)) (cN : Nat) (cC : Nat) (modelA : (Option Addr)) (modelN : Nat) (modelC : Nat) (A : (Option Addr)) (N : Nat) (C : Nat) (t4 : Bool) (h_8 : Heap) : Prop :=
 BIf t4 (CallsH P 34 #[(.slice cA cN cC), (.slice modelA modelN modelC)] h_8 fun v3 h_9 =>
 ∃ (t6 : Bool), v3 = (.bool t6) ∧ BIf t6 (PIf ((((N : Nat) : Int) : Int) = 0)
 (R (.bool true) h_9)
 (R (.bool false) h_9)) (R (.bool false) h_9)) (J8_6 P R cA cN cC modelA modelN modelC A N C h_8)
def J8_2  (P : Program) (R : Value → Heap → Prop) (cA : (Option Addr)) (cN : Nat) (cC : Nat) (modelA : (Option Addr)) (modelN : Nat) (modelC : Nat) (assignedA1 : Option Addr) (assignedN1 : Nat) (assignedC1 : Nat) (h_6 : Heap) : Prop :=
 CallsH P 31 #[(.slice cA cN cC), (.slice assignedA1 assignedN1 assignedC1)] h_6 fun v2 h_7 =>
 ∃ (A : Option Addr), ∃ (N : Nat), ∃ (C : Nat), ∃ (t4 : Bool), ∃ (t5 : Int), v2 = (.tuple #[(.slice A N C), (.bool t4), (.int .i64 t5)]) ∧ PIf ((t5 : Int) = 0)
 (J8_5 P R cA cN cC modelA modelN modelC A N C t4 h_7)
 (PIf ((t5 : Int) = 10)
 (PIf ((((N : Nat) : Int) : Int) = 0)
 (R (.bool true) h_7)
 (R (.bool false) h_7))
 (R (.bool false) h_7))
def J8_4  (modelA : (Option Addr)) (modelN : Nat) (assignedA : (Option Addr)) (assignedN : Nat) (assignedC : Nat) (t2 : Int) (next_ : ((Option Addr × Nat × Nat) × Int → Heap → Prop)) (t3 : Int) (h_13 : Heap) : Prop :=
 ((IntKind.wrap .u64 ((modelN : Nat) : Int)) : Int) ≠ 0 ∧ 0 ≤ ((IntKind.wrap .i64 (Int.tmod (IntKind.wrap .u64 t3) (IntKind.wrap .u64 ((modelN : Nat) : Int)))) : Int) ∧ ((IntKind.wrap .i64 (Int.tmod (IntKind.wrap .u64 t3) (IntKind.wrap .u64 ((modelN : Nat) : Int)))) : Int) < (modelN : Nat) ∧ AtP modelA fun ad1 => ∃ (t9 : Bool), cellH h_13 (Addr.add ad1 (Int.toNat (IntKind.wrap .i64 (Int.tmod (IntKind.wrap .u64 t3) (IntKind.wrap .u64 ((modelN : Nat) : Int)))) * 1)) = some (.bool t9) ∧ BIf t9 (let h_14 : Heap := (h_13).push (.cells #[(.int .i64 (IntKind.wrap .i64 ((IntKind.wrap .i64 (Int.tmod (IntKind.wrap .u64 t3) (IntKind.wrap .u64 ((modelN : Nat) : Int)))) + 1)))] 3); ∃ ys : List Value, ReadL h_14 (some (Addr.mk (h_13).size 0 none)) ys ∧ ys.length = 1 * 1 ∧ AppS h_14 assignedA assignedN assignedC 3 8 1 #[(.int .i64 0)] ys 1 fun apA apN apC h_15 => next_ ((apA, apN, apC), (IntKind.wrap .i64 (t2 + 1))) h_15) (let h_16 : Heap := (h_13).push (.cells #[(.int .i64 (IntKind.wrap .i64 ((IntKind.wrap .i64 (0 - (IntKind.wrap .i64 (Int.tmod (IntKind.wrap .u64 t3) (IntKind.wrap .u64 ((modelN : Nat) : Int)))))) - 1)))] 3); ∃ ys1 : List Value, ReadL h_16 (some (Addr.mk (h_13).size 0 none)) ys1 ∧ ys1.length = 1 * 1 ∧ AppS h_16 assignedA assignedN assignedC 3 8 1 #[(.int .i64 0)] ys1 1 fun apA1 apN1 apC1 h_17 => next_ ((apA1, apN1, apC1), (IntKind.wrap .i64 (t2 + 1))) h_17)
def J8_3  (P : Program) (R : Value → Heap → Prop) (cA : (Option Addr)) (cN : Nat) (cC : Nat) (modelA : (Option Addr)) (modelN : Nat) (modelC : Nat) (pickA : (Option Addr)) (pickN : Nat) (assignedA : (Option Addr)) (assignedN : Nat) (assignedC : Nat) (t2 : Int) (next_ : ((Option Addr × Nat × Nat) × Int → Heap → Prop)) (h_5 : Heap) : Prop :=
 0 ≤ (t2 : Int) ∧ (t2 : Int) < (pickN : Nat) ∧ AtP pickA fun ad => ∃ (t3 : Int), cellH h_5 (Addr.add ad (Int.toNat t2 * 1)) = some (.int .i64 t3) ∧ PIf ((((modelN : Nat) : Int) : Int) = 0)
 (J8_2 P R cA cN cC modelA modelN modelC (assignedA) (assignedN) (assignedC) h_5)
 (PIf ((100 : Int) < ((assignedN : Nat) : Int))
 (J8_2 P R cA cN cC modelA modelN modelC (assignedA) (assignedN) (assignedC) h_5)
 (J8_4 modelA modelN assignedA assignedN assignedC t2 next_ t3 h_5))
def B8_8 (P : Program) (R : Value → Heap → Prop) (cA : (Option Addr)) (cN : Nat) (cC : Nat) (modelA : (Option Addr)) (modelN : Nat) (modelC : Nat) (pickA : (Option Addr)) (pickN : Nat) (assignedA : Option Addr) (assignedN : Nat) (assignedC : Nat) (t2 : Int) (h_4 : Heap) (next_ : (Option Addr × Nat × Nat) × Int → Heap → Prop) : Prop :=
 PIf ((t2 : Int) < ((pickN : Nat) : Int))
 (J8_3 P R cA cN cC modelA modelN modelC pickA pickN assignedA assignedN assignedC t2 next_ h_4)
 (J8_2 P R cA cN cC modelA modelN modelC (assignedA) (assignedN) (assignedC) h_4)
def J8_1  (P : Program) (R : Value → Heap → Prop) (h : Heap) (cA : (Option Addr)) (cN : Nat) (cC : Nat) (modelA : (Option Addr)) (modelN : Nat) (modelC : Nat) (pickA : (Option Addr)) (pickN : Nat) (h_3 : Heap) : Prop :=
 LoopT (σ := (Option Addr × Nat × Nat) × Int) (fun st h next => B8_8 P R cA cN cC modelA modelN modelC pickA pickN (st.1.1) (st.1.2.1) (st.1.2.2) (st.2) h next) ((none, 0, 0), 0) h_3
def J8_0  (P : Program) (R : Value → Heap → Prop) (h : Heap) (cA : (Option Addr)) (cN : Nat) (cC : Nat) (modelA : (Option Addr)) (modelN : Nat) (modelC : Nat) (pickA : (Option Addr)) (pickN : Nat) (h_1 : Heap) : Prop :=
 CallsH P 33 #[(.slice cA cN cC), (.slice modelA modelN modelC)] h_1 fun v1 h_2 =>
 ∃ (t1 : Bool), v1 = (.bool t1) ∧ BIf (!t1) (R (.bool true) h_2) (PIf ((100 : Int) < ((modelN : Nat) : Int))
 (R (.bool true) h_2)
 (J8_1 P R h cA cN cC modelA modelN modelC pickA pickN h_2))
def VC8 (P : Program) (cA : Option Addr) (cN : Nat) (cC : Nat) (modelA : Option Addr) (modelN : Nat) (modelC : Nat) (pickA : Option Addr) (pickN : Nat) (pickC : Nat) (R : Value → Heap → Prop) (h : Heap) : Prop :=
 CallsH P 16 #[] h fun v h_ =>
 ∃ (t : Bool), v = (.bool t) ∧ BIf (!t) (R (.bool false) h_) (J8_0 P R h cA cN cC modelA modelN modelC pickA pickN h_)
theorem vc8 (P : Program) (cA : Option Addr) (cN : Nat) (cC : Nat) (modelA : Option Addr) (modelN : Nat) (modelC : Nat) (pickA : Option Addr) (pickN : Nat) (pickC : Nat) (R : Value → Heap → Prop) (h : Heap) : fnC P ret8 code8 [(.slice cA cN cC), (.slice modelA modelN modelC), (.slice pickA pickN pickC)] h R = VC8 P cA cN cC modelA modelN modelC pickA pickN pickC R h := by kernel_rfl
theorem run8 (cA : Option Addr) (cN : Nat) (cC : Nat) (modelA : Option Addr) (modelN : Nat) (modelC : Nat) (pickA : Option Addr) (pickN : Nat) (pickC : Nat) (R : Value → Heap → Prop) (h : Heap) (hv : VC8 Try.prog cA cN cC modelA modelN modelC pickA pickN pickC R h) : CallsH Try.prog 8 #[(.slice cA cN cC), (.slice modelA modelN modelC), (.slice pickA pickN pickC)] h R := calls_of_fnC (Checked.mixed Try.checked) Try.func8 comp8 (Nat.le_of_ble_eq_true rfl) (by rw [vc8]; exact hv)

/-! 9: trestle/lits.Not -/
def code9 : SCode := (.seq (.region false [⟨(some 2), .mv (.const (.int .i64 0)), none⟩,
  ⟨(some 3), .mv (.const (.int .i64 0)), none⟩]) (.seq (.seq (.region false [⟨(some 4), .mv (.tmp 0), none⟩,
  ⟨(some 5), .call 35 [(.tmp 4)] (.val (.one (.bool))), none⟩,
  ⟨(some 6), .not (.tmp 5), none⟩]) (.cond (.tmp 6) (.seq (.region false [⟨(some 2), .mv (.const (.int .i64 0)), none⟩,
  ⟨(some 3), .mv (.const (.int .i64 1)), none⟩]) .ret) .skip)) (.seq (.region false [⟨(some 7), .mv (.tmp 0), none⟩,
  ⟨(some 8), .bits .xor .i64 (.tmp 7) (.const (.int .i64 1)), none⟩,
  ⟨(some 2), .mv (.tmp 8), none⟩,
  ⟨(some 3), .mv (.const (.int .i64 0)), none⟩]) .ret)))
def loops9 : List (List (Nat × Shp)) := []
def ret9 : List RV := [.tmp 2, .tmp 3]
theorem comp9 : compF Try.prog Try.f9 loops9 = some (9, ret9, code9) := by kernel_rfl
def VC9 (P : Program) (l : Int) (R : Value → Heap → Prop) (h : Heap) : Prop :=
 CallsH P 35 #[(.int .i64 l)] h fun v h_ =>
 ∃ (t : Bool), v = (.bool t) ∧ BIf (!t) (R (.tuple #[(.int .i64 0), (.int .i64 1)]) h_) (R (.tuple #[(.int .i64 (bop .xor .i64 l 1)), (.int .i64 0)]) h_)
theorem vc9 (P : Program) (l : Int) (R : Value → Heap → Prop) (h : Heap) : fnC P ret9 code9 [(.int .i64 l)] h R = VC9 P l R h := by kernel_rfl
theorem run9 (l : Int) (R : Value → Heap → Prop) (h : Heap) (hv : VC9 Try.prog l R h) : CallsH Try.prog 9 #[(.int .i64 l)] h R := calls_of_fnC (Checked.mixed Try.checked) Try.func9 comp9 (Nat.le_of_ble_eq_true rfl) (by rw [vc9]; exact hv)

/-! 10: trestle/trestleref01.Not -/
def code10 : SCode := (.seq (.region false [⟨(some 2), .mv (.const (.int .i64 0)), none⟩,
  ⟨(some 3), .mv (.const (.int .i64 0)), none⟩]) (.seq (.seq (.region false [⟨(some 4), .mv (.tmp 0), none⟩,
  ⟨(some 5), .call 36 [(.tmp 4)] (.val (.one (.bool))), none⟩,
  ⟨(some 6), .not (.tmp 5), none⟩]) (.cond (.tmp 6) (.seq (.region false [⟨(some 2), .mv (.const (.int .i64 0)), none⟩,
  ⟨(some 3), .mv (.const (.int .i64 1)), none⟩]) .ret) .skip)) (.seq (.seq (.region false [⟨(some 7), .mv (.tmp 0), none⟩,
  ⟨(some 8), .divc .rem .i64 (.tmp 7) 2, none⟩,
  ⟨(some 9), .icmp .eql .i64 (.tmp 8) (.const (.int .i64 0)), none⟩]) (.cond (.tmp 9) (.seq (.region false [⟨(some 10), .mv (.tmp 0), none⟩,
  ⟨(some 11), .arith .add .i64 (.tmp 10) (.const (.int .i64 1)), none⟩,
  ⟨(some 2), .mv (.tmp 11), none⟩,
  ⟨(some 3), .mv (.const (.int .i64 0)), none⟩]) .ret) .skip)) (.seq (.region false [⟨(some 12), .mv (.tmp 0), none⟩,
  ⟨(some 13), .arith .sub .i64 (.tmp 12) (.const (.int .i64 1)), none⟩,
  ⟨(some 2), .mv (.tmp 13), none⟩,
  ⟨(some 3), .mv (.const (.int .i64 0)), none⟩]) .ret))))
def loops10 : List (List (Nat × Shp)) := []
def ret10 : List RV := [.tmp 2, .tmp 3]
theorem comp10 : compF Try.prog Try.f10 loops10 = some (14, ret10, code10) := by kernel_rfl
def J10_0  (R : Value → Heap → Prop) (l : Int) (h_1 : Heap) : Prop :=
 PIf (((Int.tmod l 2) : Int) = 0)
 (R (.tuple #[(.int .i64 (IntKind.wrap .i64 (l + 1))), (.int .i64 0)]) h_1)
 (R (.tuple #[(.int .i64 (IntKind.wrap .i64 (l - 1))), (.int .i64 0)]) h_1)
def VC10 (P : Program) (l : Int) (R : Value → Heap → Prop) (h : Heap) : Prop :=
 CallsH P 36 #[(.int .i64 l)] h fun v h_ =>
 ∃ (t : Bool), v = (.bool t) ∧ BIf (!t) (R (.tuple #[(.int .i64 0), (.int .i64 1)]) h_) (J10_0 R l h_)
theorem vc10 (P : Program) (l : Int) (R : Value → Heap → Prop) (h : Heap) : fnC P ret10 code10 [(.int .i64 l)] h R = VC10 P l R h := by kernel_rfl
theorem run10 (l : Int) (R : Value → Heap → Prop) (h : Heap) (hv : VC10 Try.prog l R h) : CallsH Try.prog 10 #[(.int .i64 l)] h R := calls_of_fnC (Checked.mixed Try.checked) Try.func10 comp10 (Nat.le_of_ble_eq_true rfl) (by rw [vc10]; exact hv)

/-! 11: trestle/lits.To -/
def code11 : SCode := (.seq (.region false [⟨(some 2), .mv (.const (.int .i64 0)), none⟩,
  ⟨(some 3), .mv (.const (.int .i64 0)), none⟩]) (.seq (.seq (.region false [⟨(some 5), .mv (.tmp 0), none⟩,
  ⟨(some 6), .call 35 [(.tmp 5)] (.val (.one (.bool))), none⟩,
  ⟨(some 7), .not (.tmp 6), none⟩]) (.cond (.tmp 7) (.seq (.region false [⟨(some 2), .mv (.const (.int .i64 0)), none⟩,
  ⟨(some 3), .mv (.const (.int .i64 1)), none⟩]) .ret) .skip)) (.seq (.region false [⟨(some 8), .mv (.tmp 0), none⟩,
  ⟨(some 9), .shc .shr .i64 (.tmp 8) 1, none⟩,
  ⟨(some 10), .arith .add .i64 (.tmp 9) (.const (.int .i64 1)), none⟩,
  ⟨(some 4), .mv (.tmp 10), none⟩]) (.seq (.seq (.region false [⟨(some 11), .mv (.tmp 0), none⟩,
  ⟨(some 12), .bits .and .i64 (.tmp 11) (.const (.int .i64 1)), none⟩,
  ⟨(some 13), .icmp .eql .i64 (.tmp 12) (.const (.int .i64 1)), none⟩]) (.cond (.tmp 13) (.region false [⟨(some 14), .mv (.tmp 4), none⟩,
  ⟨(some 15), .neg .i64 (.tmp 14), none⟩,
  ⟨(some 4), .mv (.tmp 15), none⟩]) .skip)) (.seq (.region false [⟨(some 16), .mv (.tmp 4), none⟩,
  ⟨(some 2), .mv (.tmp 16), none⟩,
  ⟨(some 3), .mv (.const (.int .i64 0)), none⟩]) .ret)))))
def loops11 : List (List (Nat × Shp)) := []
def ret11 : List RV := [.tmp 2, .tmp 3]
theorem comp11 : compF Try.prog Try.f11 loops11 = some (17, ret11, code11) := by kernel_rfl
def J11_0  (R : Value → Heap → Prop) (l : Int) (h_1 : Heap) : Prop :=
 PIf (((bop .and .i64 l 1) : Int) = 1)
 (R (.tuple #[(.int .i64 (IntKind.wrap .i64 (0 - (IntKind.wrap .i64 ((l / ((2 ^ 1 : Nat) : Int)) + 1))))), (.int .i64 0)]) h_1)
 (R (.tuple #[(.int .i64 (IntKind.wrap .i64 ((l / ((2 ^ 1 : Nat) : Int)) + 1))), (.int .i64 0)]) h_1)
def VC11 (P : Program) (l : Int) (R : Value → Heap → Prop) (h : Heap) : Prop :=
 CallsH P 35 #[(.int .i64 l)] h fun v h_ =>
 ∃ (t : Bool), v = (.bool t) ∧ BIf (!t) (R (.tuple #[(.int .i64 0), (.int .i64 1)]) h_) (J11_0 R l h_)
theorem vc11 (P : Program) (l : Int) (R : Value → Heap → Prop) (h : Heap) : fnC P ret11 code11 [(.int .i64 l)] h R = VC11 P l R h := by kernel_rfl
theorem run11 (l : Int) (R : Value → Heap → Prop) (h : Heap) (hv : VC11 Try.prog l R h) : CallsH Try.prog 11 #[(.int .i64 l)] h R := calls_of_fnC (Checked.mixed Try.checked) Try.func11 comp11 (Nat.le_of_ble_eq_true rfl) (by rw [vc11]; exact hv)

/-! 12: trestle/trestleref01.To -/
def code12 : SCode := (.seq (.region false [⟨(some 2), .mv (.const (.int .i64 0)), none⟩,
  ⟨(some 3), .mv (.const (.int .i64 0)), none⟩]) (.seq (.seq (.region false [⟨(some 4), .mv (.tmp 0), none⟩,
  ⟨(some 5), .call 36 [(.tmp 4)] (.val (.one (.bool))), none⟩,
  ⟨(some 6), .not (.tmp 5), none⟩]) (.cond (.tmp 6) (.seq (.region false [⟨(some 2), .mv (.const (.int .i64 0)), none⟩,
  ⟨(some 3), .mv (.const (.int .i64 1)), none⟩]) .ret) .skip)) (.seq (.region false [⟨(some 7), .mv (.tmp 0), none⟩,
  ⟨(some 8), .call 37 [(.tmp 7)] (.val (.one (.int .i64))), none⟩,
  ⟨(some 2), .mv (.tmp 8), none⟩,
  ⟨(some 3), .mv (.const (.int .i64 0)), none⟩]) .ret)))
def loops12 : List (List (Nat × Shp)) := []
def ret12 : List RV := [.tmp 2, .tmp 3]
theorem comp12 : compF Try.prog Try.f12 loops12 = some (9, ret12, code12) := by kernel_rfl
def VC12 (P : Program) (l : Int) (R : Value → Heap → Prop) (h : Heap) : Prop :=
 CallsH P 36 #[(.int .i64 l)] h fun v h_ =>
 ∃ (t : Bool), v = (.bool t) ∧ BIf (!t) (R (.tuple #[(.int .i64 0), (.int .i64 1)]) h_) (CallsH P 37 #[(.int .i64 l)] h_ fun v1 h_1 =>
 ∃ (t1 : Int), v1 = (.int .i64 t1) ∧ R (.tuple #[(.int .i64 t1), (.int .i64 0)]) h_1)
theorem vc12 (P : Program) (l : Int) (R : Value → Heap → Prop) (h : Heap) : fnC P ret12 code12 [(.int .i64 l)] h R = VC12 P l R h := by kernel_rfl
theorem run12 (l : Int) (R : Value → Heap → Prop) (h : Heap) (hv : VC12 Try.prog l R h) : CallsH Try.prog 12 #[(.int .i64 l)] h R := calls_of_fnC (Checked.mixed Try.checked) Try.func12 comp12 (Nat.le_of_ble_eq_true rfl) (by rw [vc12]; exact hv)

/-! 13: trestle/lits.From -/
def code13 : SCode := (.seq (.region false [⟨(some 2), .mv (.const (.int .i64 0)), none⟩,
  ⟨(some 3), .mv (.const (.int .i64 0)), none⟩]) (.seq (.seq (.region false [⟨(some 5), .mv (.tmp 0), none⟩,
  ⟨(some 6), .call 38 [(.tmp 5)] (.val (.one (.bool))), none⟩,
  ⟨(some 7), .not (.tmp 6), none⟩,
  ⟨(some 8), .mv (.tmp 7), none⟩,
  ⟨(some 9), .mv (.tmp 0), (some (8, false))⟩,
  ⟨(some 10), .call 39 [(.tmp 9)] (.val (.one (.int .i64))), (some (8, false))⟩,
  ⟨(some 11), .icmp .gtr .i64 (.tmp 10) (.const (.int .i64 16385)), (some (8, false))⟩,
  ⟨(some 12), .pick (.tmp 8) (.const (.bool true)) (.tmp 11), none⟩]) (.cond (.tmp 12) (.seq (.region false [⟨(some 2), .mv (.const (.int .i64 0)), none⟩,
  ⟨(some 3), .mv (.const (.int .i64 1)), none⟩]) .ret) .skip)) (.seq (.region false [⟨(some 13), .mv (.tmp 0), none⟩,
  ⟨(some 14), .call 39 [(.tmp 13)] (.val (.one (.int .i64))), none⟩,
  ⟨(some 15), .arith .sub .i64 (.tmp 14) (.const (.int .i64 1)), none⟩,
  ⟨(some 16), .shc .shl .i64 (.tmp 15) 1, none⟩,
  ⟨(some 4), .mv (.tmp 16), none⟩]) (.seq (.seq (.region false [⟨(some 17), .mv (.tmp 0), none⟩,
  ⟨(some 18), .icmp .lss .i64 (.tmp 17) (.const (.int .i64 0)), none⟩]) (.cond (.tmp 18) (.region false [⟨(some 19), .mv (.tmp 4), none⟩,
  ⟨(some 20), .bits .or .i64 (.tmp 19) (.const (.int .i64 1)), none⟩,
  ⟨(some 4), .mv (.tmp 20), none⟩]) .skip)) (.seq (.region false [⟨(some 21), .mv (.tmp 4), none⟩,
  ⟨(some 2), .mv (.tmp 21), none⟩,
  ⟨(some 3), .mv (.const (.int .i64 0)), none⟩]) .ret)))))
def loops13 : List (List (Nat × Shp)) := []
def ret13 : List RV := [.tmp 2, .tmp 3]
theorem comp13 : compF Try.prog Try.f13 loops13 = some (22, ret13, code13) := by kernel_rfl
def J13_0  (P : Program) (R : Value → Heap → Prop) (x : Int) (h_2 : Heap) : Prop :=
 CallsH P 39 #[(.int .i64 x)] h_2 fun v2 h_3 =>
 ∃ (t2 : Int), v2 = (.int .i64 t2) ∧ PIf ((x : Int) < 0)
 (R (.tuple #[(.int .i64 (bop .or .i64 (IntKind.wrap .i64 ((IntKind.wrap .i64 (t2 - 1)) * ((2 ^ 1 : Nat) : Int))) 1)), (.int .i64 0)]) h_3)
 (R (.tuple #[(.int .i64 (IntKind.wrap .i64 ((IntKind.wrap .i64 (t2 - 1)) * ((2 ^ 1 : Nat) : Int)))), (.int .i64 0)]) h_3)
def VC13 (P : Program) (x : Int) (R : Value → Heap → Prop) (h : Heap) : Prop :=
 CallsH P 38 #[(.int .i64 x)] h fun v h_ =>
 ∃ (t : Bool), v = (.bool t) ∧ BIf (!t) (R (.tuple #[(.int .i64 0), (.int .i64 1)]) h_) (CallsH P 39 #[(.int .i64 x)] h_ fun v1 h_1 =>
 ∃ (t1 : Int), v1 = (.int .i64 t1) ∧ PIf ((16385 : Int) < t1)
 (R (.tuple #[(.int .i64 0), (.int .i64 1)]) h_1)
 (J13_0 P R x h_1))
theorem vc13 (P : Program) (x : Int) (R : Value → Heap → Prop) (h : Heap) : fnC P ret13 code13 [(.int .i64 x)] h R = VC13 P x R h := by kernel_rfl
theorem run13 (x : Int) (R : Value → Heap → Prop) (h : Heap) (hv : VC13 Try.prog x R h) : CallsH Try.prog 13 #[(.int .i64 x)] h R := calls_of_fnC (Checked.mixed Try.checked) Try.func13 comp13 (Nat.le_of_ble_eq_true rfl) (by rw [vc13]; exact hv)

/-! 14: trestle/trestleref01.From -/
def code14 : SCode := (.seq (.region false [⟨(some 2), .mv (.const (.int .i64 0)), none⟩,
  ⟨(some 3), .mv (.const (.int .i64 0)), none⟩]) (.seq (.seq (.region false [⟨(some 4), .mv (.tmp 0), none⟩,
  ⟨(some 5), .call 40 [(.tmp 4)] (.val (.one (.bool))), none⟩,
  ⟨(some 6), .not (.tmp 5), none⟩,
  ⟨(some 7), .mv (.tmp 6), none⟩,
  ⟨(some 8), .mv (.tmp 0), (some (7, false))⟩,
  ⟨(some 9), .call 41 [(.tmp 8)] (.val (.one (.int .i64))), (some (7, false))⟩,
  ⟨(some 10), .icmp .gtr .i64 (.tmp 9) (.const (.int .i64 16385)), (some (7, false))⟩,
  ⟨(some 11), .pick (.tmp 7) (.const (.bool true)) (.tmp 10), none⟩]) (.cond (.tmp 11) (.seq (.region false [⟨(some 2), .mv (.const (.int .i64 0)), none⟩,
  ⟨(some 3), .mv (.const (.int .i64 1)), none⟩]) .ret) .skip)) (.seq (.seq (.region false [⟨(some 12), .mv (.tmp 0), none⟩,
  ⟨(some 13), .icmp .lss .i64 (.tmp 12) (.const (.int .i64 0)), none⟩]) (.cond (.tmp 13) (.seq (.region false [⟨(some 14), .mv (.tmp 0), none⟩,
  ⟨(some 15), .neg .i64 (.tmp 14), none⟩,
  ⟨(some 16), .arith .sub .i64 (.tmp 15) (.const (.int .i64 1)), none⟩,
  ⟨(some 17), .arith .mul .i64 (.const (.int .i64 2)) (.tmp 16), none⟩,
  ⟨(some 18), .arith .add .i64 (.tmp 17) (.const (.int .i64 1)), none⟩,
  ⟨(some 2), .mv (.tmp 18), none⟩,
  ⟨(some 3), .mv (.const (.int .i64 0)), none⟩]) .ret) .skip)) (.seq (.region false [⟨(some 19), .mv (.tmp 0), none⟩,
  ⟨(some 20), .arith .sub .i64 (.tmp 19) (.const (.int .i64 1)), none⟩,
  ⟨(some 21), .arith .mul .i64 (.const (.int .i64 2)) (.tmp 20), none⟩,
  ⟨(some 2), .mv (.tmp 21), none⟩,
  ⟨(some 3), .mv (.const (.int .i64 0)), none⟩]) .ret))))
def loops14 : List (List (Nat × Shp)) := []
def ret14 : List RV := [.tmp 2, .tmp 3]
theorem comp14 : compF Try.prog Try.f14 loops14 = some (22, ret14, code14) := by kernel_rfl
def J14_0  (R : Value → Heap → Prop) (x : Int) (h_2 : Heap) : Prop :=
 PIf ((x : Int) < 0)
 (R (.tuple #[(.int .i64 (IntKind.wrap .i64 ((IntKind.wrap .i64 (2 * (IntKind.wrap .i64 ((IntKind.wrap .i64 (0 - x)) - 1)))) + 1))), (.int .i64 0)]) h_2)
 (R (.tuple #[(.int .i64 (IntKind.wrap .i64 (2 * (IntKind.wrap .i64 (x - 1))))), (.int .i64 0)]) h_2)
def VC14 (P : Program) (x : Int) (R : Value → Heap → Prop) (h : Heap) : Prop :=
 CallsH P 40 #[(.int .i64 x)] h fun v h_ =>
 ∃ (t : Bool), v = (.bool t) ∧ BIf (!t) (R (.tuple #[(.int .i64 0), (.int .i64 1)]) h_) (CallsH P 41 #[(.int .i64 x)] h_ fun v1 h_1 =>
 ∃ (t1 : Int), v1 = (.int .i64 t1) ∧ PIf ((16385 : Int) < t1)
 (R (.tuple #[(.int .i64 0), (.int .i64 1)]) h_1)
 (J14_0 R x h_1))
theorem vc14 (P : Program) (x : Int) (R : Value → Heap → Prop) (h : Heap) : fnC P ret14 code14 [(.int .i64 x)] h R = VC14 P x R h := by kernel_rfl
theorem run14 (x : Int) (R : Value → Heap → Prop) (h : Heap) (hv : VC14 Try.prog x R h) : CallsH Try.prog 14 #[(.int .i64 x)] h R := calls_of_fnC (Checked.mixed Try.checked) Try.func14 comp14 (Nat.le_of_ble_eq_true rfl) (by rw [vc14]; exact hv)

/-! 15: trestle/trestlelaw01.names -/
def code15 : SCode := (.seq (.region false [⟨(some 0), .mv (.const (.bool false)), none⟩]) (.seq (.region false [⟨(some 1), .mv (.const (.bool true)), none⟩]) (.seq (.region false [⟨(some 2), .mv (.const (.bool true)), none⟩]) (.seq (.region false [⟨(some 3), .mv (.tmp 1), none⟩,
  ⟨(some 4), .mv (.tmp 3), none⟩,
  ⟨(some 5), .mv (.tmp 2), (some (4, true))⟩,
  ⟨(some 6), .pick (.tmp 4) (.tmp 5) (.const (.bool false)), none⟩,
  ⟨(some 7), .mv (.tmp 6), none⟩,
  ⟨(some 8), .pick (.tmp 7) (.const (.bool true)) (.const (.bool false)), none⟩,
  ⟨(some 9), .mv (.tmp 8), none⟩,
  ⟨(some 10), .pick (.tmp 9) (.const (.bool true)) (.const (.bool false)), none⟩,
  ⟨(some 11), .mv (.tmp 10), none⟩,
  ⟨(some 12), .pick (.tmp 11) (.const (.bool true)) (.const (.bool false)), none⟩,
  ⟨(some 13), .mv (.tmp 12), none⟩,
  ⟨(some 14), .pick (.tmp 13) (.const (.bool true)) (.const (.bool false)), none⟩,
  ⟨(some 15), .mv (.tmp 14), none⟩,
  ⟨(some 16), .pick (.tmp 15) (.const (.bool true)) (.const (.bool false)), none⟩,
  ⟨(some 0), .mv (.tmp 16), none⟩]) .ret))))
def loops15 : List (List (Nat × Shp)) := []
def ret15 : List RV := [.tmp 0]
theorem comp15 : compF Try.prog Try.f15 loops15 = some (17, ret15, code15) := by kernel_rfl
def VC15 (P : Program) (R : Value → Heap → Prop) (h : Heap) : Prop :=
 R (.bool true) h
theorem vc15 (P : Program) (R : Value → Heap → Prop) (h : Heap) : fnC P ret15 code15 [] h R = VC15 P R h := by kernel_rfl
theorem run15 (R : Value → Heap → Prop) (h : Heap) (hv : VC15 Try.prog R h) : CallsH Try.prog 15 #[] h R := calls_of_fnC (Checked.mixed Try.checked) Try.func15 comp15 (Nat.le_of_ble_eq_true rfl) (by rw [vc15]; exact hv)

/-! 16: trestle/trestlelaw01.works -/
def code16 : SCode := (.seq (.region false [⟨(some 0), .mv (.const (.bool false)), none⟩]) (.seq (.region false [⟨(some 8), .call 11 [(.const (.int .i64 5))] (.tup [.one (.int .i64), .one (.int .i64)]), none⟩,
  ⟨(some 7), .mv (.tmp 8), none⟩,
  ⟨(some 9), .extr (.tmp 7) 0, none⟩,
  ⟨(some 10), .extr (.tmp 7) 1, none⟩,
  ⟨(some 1), .mv (.tmp 9), none⟩,
  ⟨(some 2), .mv (.tmp 10), none⟩]) (.seq (.region false [⟨(some 12), .lit 3 2 #[(.int .i64 0)] [(0, 1, (.const (.int .i64 1))), (1, 1, (.const (.int .i64 2)))], none⟩,
  ⟨(some 13), .lit 3 2 #[(.int .i64 0)] [(0, 1, (.const (.int .i64 (-1)))), (1, 1, (.const (.int .i64 3)))], none⟩,
  ⟨(some 14), .call 42 [(.tmp 12), (.tmp 13), (.const (.int .i64 1))] (.tup [.one (.slice), .one (.int .i64)]), none⟩,
  ⟨(some 11), .mv (.tmp 14), none⟩,
  ⟨(some 15), .extr (.tmp 11) 0, none⟩,
  ⟨(some 16), .extr (.tmp 11) 1, none⟩,
  ⟨(some 3), .mv (.tmp 15), none⟩,
  ⟨(some 4), .mv (.tmp 16), none⟩]) (.seq (.region false [⟨(some 18), .lit 3 2 #[(.int .i64 0)] [(0, 1, (.const (.int .i64 1))), (1, 1, (.const (.int .i64 (-1))))], none⟩,
  ⟨(some 19), .call 18 [(.tmp 18)] (.tup [.one (.slice), .one (.int .i64)]), none⟩,
  ⟨(some 17), .mv (.tmp 19), none⟩,
  ⟨(some 20), .extr (.tmp 17) 0, none⟩,
  ⟨(some 21), .extr (.tmp 17) 1, none⟩,
  ⟨(some 5), .mv (.tmp 20), none⟩,
  ⟨(some 6), .mv (.tmp 21), none⟩]) (.seq (.region false [⟨(some 22), .mv (.tmp 1), none⟩,
  ⟨(some 23), .icmp .eql .i64 (.tmp 22) (.const (.int .i64 (-3))), none⟩,
  ⟨(some 24), .mv (.tmp 23), none⟩,
  ⟨(some 25), .mv (.tmp 2), (some (24, true))⟩,
  ⟨(some 26), .icmp .eql .i64 (.tmp 25) (.const (.int .i64 0)), (some (24, true))⟩,
  ⟨(some 27), .pick (.tmp 24) (.tmp 26) (.const (.bool false)), none⟩,
  ⟨(some 28), .mv (.tmp 27), none⟩,
  ⟨(some 29), .mv (.tmp 4), (some (28, true))⟩,
  ⟨(some 30), .icmp .eql .i64 (.tmp 29) (.const (.int .i64 0)), (some (28, true))⟩,
  ⟨(some 31), .pick (.tmp 28) (.tmp 30) (.const (.bool false)), none⟩,
  ⟨(some 32), .mv (.tmp 31), none⟩,
  ⟨(some 33), .mv (.tmp 3), (some (32, true))⟩,
  ⟨(some 34), .len (.tmp 33), (some (32, true))⟩,
  ⟨(some 35), .icmp .eql .i64 (.tmp 34) (.const (.int .i64 2)), (some (32, true))⟩,
  ⟨(some 36), .pick (.tmp 32) (.tmp 35) (.const (.bool false)), none⟩,
  ⟨(some 37), .mv (.tmp 36), none⟩,
  ⟨(some 38), .mv (.tmp 3), (some (37, true))⟩,
  ⟨(some 39), .idxA 1 (.tmp 38) (.const (.int .i64 0)), (some (37, true))⟩,
  ⟨(some 40), .ld (.int .i64) (.tmp 39), (some (37, true))⟩,
  ⟨(some 41), .icmp .eql .i64 (.tmp 40) (.const (.int .i64 2)), (some (37, true))⟩,
  ⟨(some 42), .pick (.tmp 37) (.tmp 41) (.const (.bool false)), none⟩,
  ⟨(some 43), .mv (.tmp 42), none⟩,
  ⟨(some 44), .mv (.tmp 3), (some (43, true))⟩,
  ⟨(some 45), .idxA 1 (.tmp 44) (.const (.int .i64 1)), (some (43, true))⟩,
  ⟨(some 46), .ld (.int .i64) (.tmp 45), (some (43, true))⟩,
  ⟨(some 47), .icmp .eql .i64 (.tmp 46) (.const (.int .i64 3)), (some (43, true))⟩,
  ⟨(some 48), .pick (.tmp 43) (.tmp 47) (.const (.bool false)), none⟩,
  ⟨(some 49), .mv (.tmp 48), none⟩,
  ⟨(some 50), .mv (.tmp 6), (some (49, true))⟩,
  ⟨(some 51), .icmp .eql .i64 (.tmp 50) (.const (.int .i64 10)), (some (49, true))⟩,
  ⟨(some 52), .pick (.tmp 49) (.tmp 51) (.const (.bool false)), none⟩,
  ⟨(some 0), .mv (.tmp 52), none⟩]) .ret)))))
def loops16 : List (List (Nat × Shp)) := []
def ret16 : List RV := [.tmp 0]
theorem comp16 : compF Try.prog Try.f16 loops16 = some (53, ret16, code16) := by kernel_rfl
def VC16 (P : Program) (R : Value → Heap → Prop) (h : Heap) : Prop :=
 CallsH P 11 #[(.int .i64 5)] h fun v h_ =>
 ∃ (t : Int), ∃ (t1 : Int), v = (.tuple #[(.int .i64 t), (.int .i64 t1)]) ∧ let h_1 : Heap := (h_).push (.cells #[(.int .i64 1), (.int .i64 2)] 3); let h_2 : Heap := (h_1).push (.cells #[(.int .i64 (-1)), (.int .i64 3)] 3); CallsH P 42 #[(.slice (some (Addr.mk (h_).size 0 none)) 2 2), (.slice (some (Addr.mk (h_1).size 0 none)) 2 2), (.int .i64 1)] h_2 fun v1 h_3 =>
 ∃ (A : Option Addr), ∃ (N : Nat), ∃ (C : Nat), ∃ (t2 : Int), v1 = (.tuple #[(.slice A N C), (.int .i64 t2)]) ∧ let h_4 : Heap := (h_3).push (.cells #[(.int .i64 1), (.int .i64 (-1))] 3); CallsH P 18 #[(.slice (some (Addr.mk (h_3).size 0 none)) 2 2)] h_4 fun v2 h_5 =>
 ∃ (A1 : Option Addr), ∃ (N1 : Nat), ∃ (C1 : Nat), ∃ (t3 : Int), v2 = (.tuple #[(.slice A1 N1 C1), (.int .i64 t3)]) ∧ PIf ((t : Int) = (-3))
 (PIf ((t1 : Int) = 0)
 (PIf ((t2 : Int) = 0)
 (PIf ((((N : Nat) : Int) : Int) = 2)
 (0 ≤ (0 : Int) ∧ (0 : Int) < (N : Nat) ∧ AtP A fun ad => ∃ (t4 : Int), cellH h_5 (Addr.add ad (Int.toNat 0 * 1)) = some (.int .i64 t4) ∧ PIf ((t4 : Int) = 2)
 (0 ≤ (1 : Int) ∧ (1 : Int) < (N : Nat) ∧ AtP A fun ad1 => ∃ (t5 : Int), cellH h_5 (Addr.add ad1 (Int.toNat 1 * 1)) = some (.int .i64 t5) ∧ PIf ((t5 : Int) = 3)
 (PIf ((t3 : Int) = 10)
 (R (.bool true) h_5)
 (R (.bool false) h_5))
 (R (.bool false) h_5))
 (R (.bool false) h_5))
 (R (.bool false) h_5))
 (R (.bool false) h_5))
 (R (.bool false) h_5))
 (R (.bool false) h_5)
theorem vc16 (P : Program) (R : Value → Heap → Prop) (h : Heap) : fnC P ret16 code16 [] h R = VC16 P R h := by kernel_rfl
theorem run16 (R : Value → Heap → Prop) (h : Heap) (hv : VC16 Try.prog R h) : CallsH Try.prog 16 #[] h R := calls_of_fnC (Checked.mixed Try.checked) Try.func16 comp16 (Nat.le_of_ble_eq_true rfl) (by rw [vc16]; exact hv)

/-! 17: trestle/trestlelaw01.lent -/
def code17 : SCode := (.seq (.region false [⟨(some 2), .mv (.const (.slice none 0 0)), none⟩]) (.seq (.region false [⟨(some 3), .mv (.tmp 0), none⟩,
  ⟨(some 4), .call 30 [(.tmp 3)] (.val (.one (.slice))), none⟩,
  ⟨(some 2), .mv (.tmp 4), none⟩]) .ret))
def loops17 : List (List (Nat × Shp)) := []
def ret17 : List RV := [.tmp 2]
theorem comp17 : compF Try.prog Try.f17 loops17 = some (5, ret17, code17) := by kernel_rfl
def VC17 (P : Program) (cA : Option Addr) (cN : Nat) (cC : Nat) (R : Value → Heap → Prop) (h : Heap) : Prop :=
 CallsH P 30 #[(.slice cA cN cC)] h fun v h_ =>
 ∃ (A : Option Addr), ∃ (N : Nat), ∃ (C : Nat), v = (.slice A N C) ∧ R (.slice A N C) h_
theorem vc17 (P : Program) (cA : Option Addr) (cN : Nat) (cC : Nat) (R : Value → Heap → Prop) (h : Heap) : fnC P ret17 code17 [(.slice cA cN cC)] h R = VC17 P cA cN cC R h := by kernel_rfl
theorem run17 (cA : Option Addr) (cN : Nat) (cC : Nat) (R : Value → Heap → Prop) (h : Heap) (hv : VC17 Try.prog cA cN cC R h) : CallsH Try.prog 17 #[(.slice cA cN cC)] h R := calls_of_fnC (Checked.mixed Try.checked) Try.func17 comp17 (Nat.le_of_ble_eq_true rfl) (by rw [vc17]; exact hv)

/-! 18: trestle/lits.Normal -/
def code18 : SCode := (.seq (.region false [⟨(some 2), .mv (.const (.slice none 0 0)), none⟩,
  ⟨(some 3), .mv (.const (.int .i64 0)), none⟩]) (.seq (.seq (.region false [⟨(some 7), .mv (.tmp 0), none⟩,
  ⟨(some 8), .call 43 [(.tmp 7)] (.val (.one (.int .i64))), none⟩,
  ⟨(some 4), .mv (.tmp 8), none⟩]) (.seq (.region false [⟨(some 9), .mv (.tmp 4), none⟩,
  ⟨(some 10), .icmp .neq .i64 (.tmp 9) (.const (.int .i64 0)), none⟩]) (.cond (.tmp 10) (.seq (.region false [⟨(some 11), .mv (.tmp 4), none⟩,
  ⟨(some 2), .mv (.const (.slice none 0 0)), none⟩,
  ⟨(some 3), .mv (.tmp 11), none⟩]) .ret) .skip))) (.seq (.region false [⟨(some 13), .mv (.tmp 0), none⟩,
  ⟨(some 14), .call 44 [(.tmp 13)] (.tup [.one (.slice), .one (.bool)]), none⟩,
  ⟨(some 12), .mv (.tmp 14), none⟩,
  ⟨(some 15), .extr (.tmp 12) 0, none⟩,
  ⟨(some 16), .extr (.tmp 12) 1, none⟩,
  ⟨(some 5), .mv (.tmp 15), none⟩,
  ⟨(some 6), .mv (.tmp 16), none⟩]) (.seq (.seq (.region false [⟨(some 17), .mv (.tmp 6), none⟩,
  ⟨(some 18), .not (.tmp 17), none⟩]) (.cond (.tmp 18) (.seq (.region false [⟨(some 2), .mv (.const (.slice none 0 0)), none⟩,
  ⟨(some 3), .mv (.const (.int .i64 10)), none⟩]) .ret) .skip)) (.seq (.region false [⟨(some 19), .mv (.tmp 5), none⟩,
  ⟨(some 2), .mv (.tmp 19), none⟩,
  ⟨(some 3), .mv (.const (.int .i64 0)), none⟩]) .ret)))))
def loops18 : List (List (Nat × Shp)) := []
def ret18 : List RV := [.tmp 2, .tmp 3]
theorem comp18 : compF Try.prog Try.f18 loops18 = some (20, ret18, code18) := by kernel_rfl
def J18_0  (P : Program) (R : Value → Heap → Prop) (cA : (Option Addr)) (cN : Nat) (cC : Nat) (h_1 : Heap) : Prop :=
 CallsH P 44 #[(.slice cA cN cC)] h_1 fun v1 h_2 =>
 ∃ (A : Option Addr), ∃ (N : Nat), ∃ (C : Nat), ∃ (t1 : Bool), v1 = (.tuple #[(.slice A N C), (.bool t1)]) ∧ BIf (!t1) (R (.tuple #[(.slice none 0 0), (.int .i64 10)]) h_2) (R (.tuple #[(.slice A N C), (.int .i64 0)]) h_2)
def VC18 (P : Program) (cA : Option Addr) (cN : Nat) (cC : Nat) (R : Value → Heap → Prop) (h : Heap) : Prop :=
 CallsH P 43 #[(.slice cA cN cC)] h fun v h_ =>
 ∃ (t : Int), v = (.int .i64 t) ∧ PIf ((t : Int) = 0)
 (J18_0 P R cA cN cC h_)
 (R (.tuple #[(.slice none 0 0), (.int .i64 t)]) h_)
theorem vc18 (P : Program) (cA : Option Addr) (cN : Nat) (cC : Nat) (R : Value → Heap → Prop) (h : Heap) : fnC P ret18 code18 [(.slice cA cN cC)] h R = VC18 P cA cN cC R h := by kernel_rfl
theorem run18 (cA : Option Addr) (cN : Nat) (cC : Nat) (R : Value → Heap → Prop) (h : Heap) (hv : VC18 Try.prog cA cN cC R h) : CallsH Try.prog 18 #[(.slice cA cN cC)] h R := calls_of_fnC (Checked.mixed Try.checked) Try.func18 comp18 (Nat.le_of_ble_eq_true rfl) (by rw [vc18]; exact hv)

/-! 19: trestle/trestleref01.Normal -/
def code19 : SCode := (.seq (.region false [⟨(some 2), .mv (.const (.slice none 0 0)), none⟩,
  ⟨(some 3), .mv (.const (.int .i64 0)), none⟩]) (.seq (.seq (.region false [⟨(some 7), .mv (.tmp 0), none⟩,
  ⟨(some 8), .call 45 [(.tmp 7)] (.val (.one (.int .i64))), none⟩,
  ⟨(some 4), .mv (.tmp 8), none⟩]) (.seq (.region false [⟨(some 9), .mv (.tmp 4), none⟩,
  ⟨(some 10), .icmp .neq .i64 (.tmp 9) (.const (.int .i64 0)), none⟩]) (.cond (.tmp 10) (.seq (.region false [⟨(some 11), .mv (.tmp 4), none⟩,
  ⟨(some 2), .mv (.const (.slice none 0 0)), none⟩,
  ⟨(some 3), .mv (.tmp 11), none⟩]) .ret) .skip))) (.seq (.region false [⟨(some 13), .mv (.tmp 0), none⟩,
  ⟨(some 14), .call 46 [(.tmp 13)] (.tup [.one (.slice), .one (.bool)]), none⟩,
  ⟨(some 12), .mv (.tmp 14), none⟩,
  ⟨(some 15), .extr (.tmp 12) 0, none⟩,
  ⟨(some 16), .extr (.tmp 12) 1, none⟩,
  ⟨(some 5), .mv (.tmp 15), none⟩,
  ⟨(some 6), .mv (.tmp 16), none⟩]) (.seq (.seq (.region false [⟨(some 17), .mv (.tmp 6), none⟩,
  ⟨(some 18), .not (.tmp 17), none⟩]) (.cond (.tmp 18) (.seq (.region false [⟨(some 2), .mv (.const (.slice none 0 0)), none⟩,
  ⟨(some 3), .mv (.const (.int .i64 10)), none⟩]) .ret) .skip)) (.seq (.region false [⟨(some 19), .mv (.tmp 5), none⟩,
  ⟨(some 2), .mv (.tmp 19), none⟩,
  ⟨(some 3), .mv (.const (.int .i64 0)), none⟩]) .ret)))))
def loops19 : List (List (Nat × Shp)) := []
def ret19 : List RV := [.tmp 2, .tmp 3]
theorem comp19 : compF Try.prog Try.f19 loops19 = some (20, ret19, code19) := by kernel_rfl
def J19_0  (P : Program) (R : Value → Heap → Prop) (cA : (Option Addr)) (cN : Nat) (cC : Nat) (h_1 : Heap) : Prop :=
 CallsH P 46 #[(.slice cA cN cC)] h_1 fun v1 h_2 =>
 ∃ (A : Option Addr), ∃ (N : Nat), ∃ (C : Nat), ∃ (t1 : Bool), v1 = (.tuple #[(.slice A N C), (.bool t1)]) ∧ BIf (!t1) (R (.tuple #[(.slice none 0 0), (.int .i64 10)]) h_2) (R (.tuple #[(.slice A N C), (.int .i64 0)]) h_2)
def VC19 (P : Program) (cA : Option Addr) (cN : Nat) (cC : Nat) (R : Value → Heap → Prop) (h : Heap) : Prop :=
 CallsH P 45 #[(.slice cA cN cC)] h fun v h_ =>
 ∃ (t : Int), v = (.int .i64 t) ∧ PIf ((t : Int) = 0)
 (J19_0 P R cA cN cC h_)
 (R (.tuple #[(.slice none 0 0), (.int .i64 t)]) h_)
theorem vc19 (P : Program) (cA : Option Addr) (cN : Nat) (cC : Nat) (R : Value → Heap → Prop) (h : Heap) : fnC P ret19 code19 [(.slice cA cN cC)] h R = VC19 P cA cN cC R h := by kernel_rfl
theorem run19 (cA : Option Addr) (cN : Nat) (cC : Nat) (R : Value → Heap → Prop) (h : Heap) (hv : VC19 Try.prog cA cN cC R h) : CallsH Try.prog 19 #[(.slice cA cN cC)] h R := calls_of_fnC (Checked.mixed Try.checked) Try.func19 comp19 (Nat.le_of_ble_eq_true rfl) (by rw [vc19]; exact hv)

/-! 20: trestle/lits.Value -/
def code20 : SCode := (.seq (.region false [⟨(some 4), .mv (.const (.bool false)), none⟩,
  ⟨(some 5), .mv (.const (.int .i64 0)), none⟩]) (.seq (.seq (.region false [⟨(some 10), .mv (.tmp 0), none⟩,
  ⟨(some 11), .call 43 [(.tmp 10)] (.val (.one (.int .i64))), none⟩,
  ⟨(some 6), .mv (.tmp 11), none⟩]) (.seq (.region false [⟨(some 12), .mv (.tmp 6), none⟩,
  ⟨(some 13), .icmp .neq .i64 (.tmp 12) (.const (.int .i64 0)), none⟩]) (.cond (.tmp 13) (.seq (.region false [⟨(some 14), .mv (.tmp 6), none⟩,
  ⟨(some 4), .mv (.const (.bool false)), none⟩,
  ⟨(some 5), .mv (.tmp 14), none⟩]) .ret) .skip))) (.seq (.seq (.region false [⟨(some 15), .mv (.tmp 1), none⟩,
  ⟨(some 16), .len (.tmp 15), none⟩,
  ⟨(some 17), .icmp .gtr .i64 (.tmp 16) (.const (.int .i64 262144)), none⟩]) (.cond (.tmp 17) (.seq (.region false [⟨(some 4), .mv (.const (.bool false)), none⟩,
  ⟨(some 5), .mv (.const (.int .i64 2)), none⟩]) .ret) .skip)) (.seq (.region false [⟨(some 7), .mv (.const (.bool false)), none⟩]) (.seq (.seq (.region false [⟨(some 18), .mv (.tmp 0), none⟩,
  ⟨(some 19), .len (.tmp 18), none⟩,
  ⟨(some 20), .mv (.const (.int .i64 0)), none⟩]) (.block 0 (.loop [(7, .bool), (20, .int .i64)] [21, 22, 23, 9, 24, 25, 26, 27, 28, 4, 5, 29, 30, 31, 32, 33, 34, 35, 36, 37, 38, 39, 40, 7, 41, 20] (.seq (.region false [⟨(some 21), .icmp .lss .i64 (.tmp 20) (.tmp 19), none⟩]) (.seq (.cond (.tmp 21) .skip (.exit 0)) (.seq (.block 1 (.seq (.region false [⟨(some 22), .idxA 1 (.tmp 18) (.tmp 20), none⟩,
  ⟨(some 23), .ld (.int .i64) (.tmp 22), none⟩,
  ⟨(some 9), .mv (.tmp 23), none⟩]) (.seq (.seq (.region false [⟨(some 24), .mv (.tmp 9), none⟩,
  ⟨(some 25), .call 39 [(.tmp 24)] (.val (.one (.int .i64))), none⟩,
  ⟨(some 26), .mv (.tmp 1), none⟩,
  ⟨(some 27), .len (.tmp 26), none⟩,
  ⟨(some 28), .icmp .gtr .i64 (.tmp 25) (.tmp 27), none⟩]) (.cond (.tmp 28) (.seq (.region false [⟨(some 4), .mv (.const (.bool false)), none⟩,
  ⟨(some 5), .mv (.const (.int .i64 5)), none⟩]) .ret) .skip)) (.region false [⟨(some 29), .mv (.tmp 7), none⟩,
  ⟨(some 30), .mv (.tmp 29), none⟩,
  ⟨(some 31), .mv (.tmp 1), (some (30, false))⟩,
  ⟨(some 32), .mv (.tmp 9), (some (30, false))⟩,
  ⟨(some 33), .call 39 [(.tmp 32)] (.val (.one (.int .i64))), (some (30, false))⟩,
  ⟨(some 34), .arith .sub .i64 (.tmp 33) (.const (.int .i64 1)), (some (30, false))⟩,
  ⟨(some 35), .idxA 1 (.tmp 31) (.tmp 34), (some (30, false))⟩,
  ⟨(some 36), .ld (.bool) (.tmp 35), (some (30, false))⟩,
  ⟨(some 37), .mv (.tmp 9), (some (30, false))⟩,
  ⟨(some 38), .icmp .gtr .i64 (.tmp 37) (.const (.int .i64 0)), (some (30, false))⟩,
  ⟨(some 39), .bcmp false (.tmp 36) (.tmp 38), (some (30, false))⟩,
  ⟨(some 40), .pick (.tmp 30) (.const (.bool true)) (.tmp 39), none⟩,
  ⟨(some 7), .mv (.tmp 40), none⟩])))) (.region false [⟨(some 41), .arith .add .i64 (.tmp 20) (.const (.int .i64 1)), none⟩,
  ⟨(some 20), .mv (.tmp 41), none⟩]))))))) (.seq (.region false [⟨(some 42), .mv (.tmp 7), none⟩,
  ⟨(some 4), .mv (.tmp 42), none⟩,
  ⟨(some 5), .mv (.const (.int .i64 0)), none⟩]) .ret))))))
def loops20 : List (List (Nat × Shp)) := [[(7, .bool), (20, .int .i64)]]
def ret20 : List RV := [.tmp 4, .tmp 5]
theorem comp20 : compF Try.prog Try.f20 loops20 = some (43, ret20, code20) := by kernel_rfl
def J20_4  (P : Program) (modelA : (Option Addr)) (modelN : Nat) (value : Bool) (t1 : Int) (next_ : (Bool × Int → Heap → Prop)) (t2 : Int) (h_6 : Heap) : Prop :=
 BIf value (next_ (true, (IntKind.wrap .i64 (t1 + 1))) h_6) (CallsH P 39 #[(.int .i64 t2)] h_6 fun v2 h_7 =>
 ∃ (t4 : Int), v2 = (.int .i64 t4) ∧ 0 ≤ ((IntKind.wrap .i64 (t4 - 1)) : Int) ∧ ((IntKind.wrap .i64 (t4 - 1)) : Int) < (modelN : Nat) ∧ AtP modelA fun ad1 => ∃ (t5 : Bool), cellH h_7 (Addr.add ad1 (Int.toNat (IntKind.wrap .i64 (t4 - 1)) * 1)) = some (.bool t5) ∧ PIf ((0 : Int) < t2)
 (PIf ((t5 : Bool) = true)
 (next_ (true, (IntKind.wrap .i64 (t1 + 1))) h_7)
 (next_ (false, (IntKind.wrap .i64 (t1 + 1))) h_7))
 (PIf ((t5 : Bool) = false)
 (next_ (true, (IntKind.wrap .i64 (t1 + 1))) h_7)
 (next_ (false, (IntKind.wrap .i64 (t1 + 1))) h_7)))
def J20_3  (P : Program) (R : Value → Heap → Prop) (cA : (Option Addr)) (cN : Nat) (modelA : (Option Addr)) (modelN : Nat) (value : Bool) (t1 : Int) (next_ : (Bool × Int → Heap → Prop)) (h_4 : Heap) : Prop :=
 0 ≤ (t1 : Int) ∧ (t1 : Int) < (cN : Nat) ∧ AtP cA fun ad => ∃ (t2 : Int), cellH h_4 (Addr.add ad (Int.toNat t1 * 1)) = some (.int .i64 t2) ∧ CallsH P 39 #[(.int .i64 t2)] h_4 fun v1 h_5 =>
 ∃ (t3 : Int), v1 = (.int .i64 t3) ∧ PIf ((((modelN : Nat) : Int) : Int) < t3)
 (R (.tuple #[(.bool false), (.int .i64 5)]) h_5)
 (J20_4 P modelA modelN value t1 next_ t2 h_5)
def J20_2  (R : Value → Heap → Prop) (value1 : Bool) (h_8 : Heap) : Prop :=
 R (.tuple #[(.bool value1), (.int .i64 0)]) h_8
def B20_6 (P : Program) (R : Value → Heap → Prop) (cA : (Option Addr)) (cN : Nat) (modelA : (Option Addr)) (modelN : Nat) (value : Bool) (t1 : Int) (h_3 : Heap) (next_ : Bool × Int → Heap → Prop) : Prop :=
 PIf ((t1 : Int) < ((cN : Nat) : Int))
 (J20_3 P R cA cN modelA modelN value t1 next_ h_3)
 (J20_2 R (value) h_3)
def J20_1  (P : Program) (R : Value → Heap → Prop) (h : Heap) (cA : (Option Addr)) (cN : Nat) (modelA : (Option Addr)) (modelN : Nat) (h_2 : Heap) : Prop :=
 LoopT (σ := Bool × Int) (fun st h next => B20_6 P R cA cN modelA modelN (st.1) (st.2) h next) (false, 0) h_2
def J20_0  (P : Program) (R : Value → Heap → Prop) (h : Heap) (cA : (Option Addr)) (cN : Nat) (modelA : (Option Addr)) (modelN : Nat) (h_1 : Heap) : Prop :=
 PIf ((262144 : Int) < ((modelN : Nat) : Int))
 (R (.tuple #[(.bool false), (.int .i64 2)]) h_1)
 (J20_1 P R h cA cN modelA modelN h_1)
def VC20 (P : Program) (cA : Option Addr) (cN : Nat) (cC : Nat) (modelA : Option Addr) (modelN : Nat) (modelC : Nat) (R : Value → Heap → Prop) (h : Heap) : Prop :=
 CallsH P 43 #[(.slice cA cN cC)] h fun v h_ =>
 ∃ (t : Int), v = (.int .i64 t) ∧ PIf ((t : Int) = 0)
 (J20_0 P R h cA cN modelA modelN h_)
 (R (.tuple #[(.bool false), (.int .i64 t)]) h_)
theorem vc20 (P : Program) (cA : Option Addr) (cN : Nat) (cC : Nat) (modelA : Option Addr) (modelN : Nat) (modelC : Nat) (R : Value → Heap → Prop) (h : Heap) : fnC P ret20 code20 [(.slice cA cN cC), (.slice modelA modelN modelC)] h R = VC20 P cA cN cC modelA modelN modelC R h := by kernel_rfl
theorem run20 (cA : Option Addr) (cN : Nat) (cC : Nat) (modelA : Option Addr) (modelN : Nat) (modelC : Nat) (R : Value → Heap → Prop) (h : Heap) (hv : VC20 Try.prog cA cN cC modelA modelN modelC R h) : CallsH Try.prog 20 #[(.slice cA cN cC), (.slice modelA modelN modelC)] h R := calls_of_fnC (Checked.mixed Try.checked) Try.func20 comp20 (Nat.le_of_ble_eq_true rfl) (by rw [vc20]; exact hv)

/-! 21: trestle/trestleref01.Value -/
def code21 : SCode := (.seq (.region false [⟨(some 4), .mv (.const (.bool false)), none⟩,
  ⟨(some 5), .mv (.const (.int .i64 0)), none⟩]) (.seq (.seq (.region false [⟨(some 8), .mv (.tmp 0), none⟩,
  ⟨(some 9), .call 45 [(.tmp 8)] (.val (.one (.int .i64))), none⟩,
  ⟨(some 6), .mv (.tmp 9), none⟩]) (.seq (.region false [⟨(some 10), .mv (.tmp 6), none⟩,
  ⟨(some 11), .icmp .neq .i64 (.tmp 10) (.const (.int .i64 0)), none⟩]) (.cond (.tmp 11) (.seq (.region false [⟨(some 12), .mv (.tmp 6), none⟩,
  ⟨(some 4), .mv (.const (.bool false)), none⟩,
  ⟨(some 5), .mv (.tmp 12), none⟩]) .ret) .skip))) (.seq (.seq (.region false [⟨(some 13), .mv (.tmp 1), none⟩,
  ⟨(some 14), .len (.tmp 13), none⟩,
  ⟨(some 15), .icmp .gtr .i64 (.tmp 14) (.const (.int .i64 262144)), none⟩]) (.cond (.tmp 15) (.seq (.region false [⟨(some 4), .mv (.const (.bool false)), none⟩,
  ⟨(some 5), .mv (.const (.int .i64 2)), none⟩]) .ret) .skip)) (.seq (.seq (.region false [⟨(some 7), .mv (.const (.int .i64 0)), none⟩]) (.block 0 (.loop [(7, .int .i64)] [16, 17, 18, 19, 22, 23, 24, 25, 26, 27, 28, 29, 4, 5, 20, 21, 7] (.seq (.seq (.region false [⟨(some 16), .mv (.tmp 7), none⟩,
  ⟨(some 17), .mv (.tmp 0), none⟩,
  ⟨(some 18), .len (.tmp 17), none⟩,
  ⟨(some 19), .icmp .lss .i64 (.tmp 16) (.tmp 18), none⟩]) (.cond (.tmp 19) .skip (.exit 0))) (.seq (.block 1 (.seq (.region false [⟨(some 22), .mv (.tmp 0), none⟩,
  ⟨(some 23), .mv (.tmp 7), none⟩,
  ⟨(some 24), .idxA 1 (.tmp 22) (.tmp 23), none⟩,
  ⟨(some 25), .ld (.int .i64) (.tmp 24), none⟩,
  ⟨(some 26), .call 41 [(.tmp 25)] (.val (.one (.int .i64))), none⟩,
  ⟨(some 27), .mv (.tmp 1), none⟩,
  ⟨(some 28), .len (.tmp 27), none⟩,
  ⟨(some 29), .icmp .gtr .i64 (.tmp 26) (.tmp 28), none⟩]) (.cond (.tmp 29) (.seq (.region false [⟨(some 4), .mv (.const (.bool false)), none⟩,
  ⟨(some 5), .mv (.const (.int .i64 5)), none⟩]) .ret) .skip))) (.region false [⟨(some 20), .mv (.tmp 7), none⟩,
  ⟨(some 21), .arith .add .i64 (.tmp 20) (.const (.int .i64 1)), none⟩,
  ⟨(some 7), .mv (.tmp 21), none⟩])))))) (.seq (.region false [⟨(some 30), .mv (.tmp 0), none⟩,
  ⟨(some 31), .mv (.tmp 1), none⟩,
  ⟨(some 32), .call 47 [(.tmp 30), (.tmp 31)] (.val (.one (.bool))), none⟩,
  ⟨(some 4), .mv (.tmp 32), none⟩,
  ⟨(some 5), .mv (.const (.int .i64 0)), none⟩]) .ret)))))
def loops21 : List (List (Nat × Shp)) := [[(7, .int .i64)]]
def ret21 : List RV := [.tmp 4, .tmp 5]
theorem comp21 : compF Try.prog Try.f21 loops21 = some (33, ret21, code21) := by kernel_rfl
def J21_3  (P : Program) (R : Value → Heap → Prop) (cA : (Option Addr)) (cN : Nat) (modelN : Nat) (i : Int) (next_ : (Int → Heap → Prop)) (h_4 : Heap) : Prop :=
 0 ≤ (i : Int) ∧ (i : Int) < (cN : Nat) ∧ AtP cA fun ad => ∃ (t1 : Int), cellH h_4 (Addr.add ad (Int.toNat i * 1)) = some (.int .i64 t1) ∧ CallsH P 41 #[(.int .i64 t1)] h_4 fun v1 h_5 =>
 ∃ (t2 : Int), v1 = (.int .i64 t2) ∧ PIf ((((modelN : Nat) : Int) : Int) < t2)
 (R (.tuple #[(.bool false), (.int .i64 5)]) h_5)
 (next_ ((IntKind.wrap .i64 (i + 1))) h_5)
def J21_2  (P : Program) (R : Value → Heap → Prop) (cA : (Option Addr)) (cN : Nat) (cC : Nat) (modelA : (Option Addr)) (modelN : Nat) (modelC : Nat) (h_6 : Heap) : Prop :=
 CallsH P 47 #[(.slice cA cN cC), (.slice modelA modelN modelC)] h_6 fun v2 h_7 =>
 ∃ (t3 : Bool), v2 = (.bool t3) ∧ R (.tuple #[(.bool t3), (.int .i64 0)]) h_7
def B21_4 (P : Program) (R : Value → Heap → Prop) (cA : (Option Addr)) (cN : Nat) (cC : Nat) (modelA : (Option Addr)) (modelN : Nat) (modelC : Nat) (i : Int) (h_3 : Heap) (next_ : Int → Heap → Prop) : Prop :=
 PIf ((i : Int) < ((cN : Nat) : Int))
 (J21_3 P R cA cN modelN i next_ h_3)
 (J21_2 P R cA cN cC modelA modelN modelC h_3)
def J21_1  (P : Program) (R : Value → Heap → Prop) (h : Heap) (cA : (Option Addr)) (cN : Nat) (cC : Nat) (modelA : (Option Addr)) (modelN : Nat) (modelC : Nat) (h_2 : Heap) : Prop :=
 LoopT (σ := Int) (fun st h next => B21_4 P R cA cN cC modelA modelN modelC (st) h next) (0) h_2
def J21_0  (P : Program) (R : Value → Heap → Prop) (h : Heap) (cA : (Option Addr)) (cN : Nat) (cC : Nat) (modelA : (Option Addr)) (modelN : Nat) (modelC : Nat) (h_1 : Heap) : Prop :=
 PIf ((262144 : Int) < ((modelN : Nat) : Int))
 (R (.tuple #[(.bool false), (.int .i64 2)]) h_1)
 (J21_1 P R h cA cN cC modelA modelN modelC h_1)
def VC21 (P : Program) (cA : Option Addr) (cN : Nat) (cC : Nat) (modelA : Option Addr) (modelN : Nat) (modelC : Nat) (R : Value → Heap → Prop) (h : Heap) : Prop :=
 CallsH P 45 #[(.slice cA cN cC)] h fun v h_ =>
 ∃ (t : Int), v = (.int .i64 t) ∧ PIf ((t : Int) = 0)
 (J21_0 P R h cA cN cC modelA modelN modelC h_)
 (R (.tuple #[(.bool false), (.int .i64 t)]) h_)
theorem vc21 (P : Program) (cA : Option Addr) (cN : Nat) (cC : Nat) (modelA : Option Addr) (modelN : Nat) (modelC : Nat) (R : Value → Heap → Prop) (h : Heap) : fnC P ret21 code21 [(.slice cA cN cC), (.slice modelA modelN modelC)] h R = VC21 P cA cN cC modelA modelN modelC R h := by kernel_rfl
theorem run21 (cA : Option Addr) (cN : Nat) (cC : Nat) (modelA : Option Addr) (modelN : Nat) (modelC : Nat) (R : Value → Heap → Prop) (h : Heap) (hv : VC21 Try.prog cA cN cC modelA modelN modelC R h) : CallsH Try.prog 21 #[(.slice cA cN cC), (.slice modelA modelN modelC)] h R := calls_of_fnC (Checked.mixed Try.checked) Try.func21 comp21 (Nat.le_of_ble_eq_true rfl) (by rw [vc21]; exact hv)

/-! 22: trestle/trestlebook.SameClause -/
def code22 : SCode := (.seq (.region false [⟨(some 4), .mv (.const (.bool false)), none⟩]) (.seq (.region false [⟨(some 5), .mv (.tmp 0), none⟩,
  ⟨(some 6), .mv (.tmp 1), none⟩,
  ⟨(some 7), .call 48 [(.tmp 5), (.tmp 6)] (.val (.one (.bool))), none⟩,
  ⟨(some 4), .mv (.tmp 7), none⟩]) .ret))
def loops22 : List (List (Nat × Shp)) := []
def ret22 : List RV := [.tmp 4]
theorem comp22 : compF Try.prog Try.f22 loops22 = some (8, ret22, code22) := by kernel_rfl
def VC22 (P : Program) (aA : Option Addr) (aN : Nat) (aC : Nat) (bA : Option Addr) (bN : Nat) (bC : Nat) (R : Value → Heap → Prop) (h : Heap) : Prop :=
 CallsH P 48 #[(.slice aA aN aC), (.slice bA bN bC)] h fun v h_ =>
 ∃ (t : Bool), v = (.bool t) ∧ R (.bool t) h_
theorem vc22 (P : Program) (aA : Option Addr) (aN : Nat) (aC : Nat) (bA : Option Addr) (bN : Nat) (bC : Nat) (R : Value → Heap → Prop) (h : Heap) : fnC P ret22 code22 [(.slice aA aN aC), (.slice bA bN bC)] h R = VC22 P aA aN aC bA bN bC R h := by kernel_rfl
theorem run22 (aA : Option Addr) (aN : Nat) (aC : Nat) (bA : Option Addr) (bN : Nat) (bC : Nat) (R : Value → Heap → Prop) (h : Heap) (hv : VC22 Try.prog aA aN aC bA bN bC R h) : CallsH Try.prog 22 #[(.slice aA aN aC), (.slice bA bN bC)] h R := calls_of_fnC (Checked.mixed Try.checked) Try.func22 comp22 (Nat.le_of_ble_eq_true rfl) (by rw [vc22]; exact hv)

/-! 23: trestle/trestlebook.SpoilInts -/
def code23 : SCode := (.seq (.seq (.region false [⟨(some 4), .mv (.const (.int .i64 0)), none⟩]) (.block 0 (.loop [(4, .int .i64)] [5, 6, 7, 8, 11, 12, 13, 14, 9, 10, 4] (.seq (.seq (.region false [⟨(some 5), .mv (.tmp 4), none⟩,
  ⟨(some 6), .mv (.tmp 0), none⟩,
  ⟨(some 7), .len (.tmp 6), none⟩,
  ⟨(some 8), .icmp .lss .i64 (.tmp 5) (.tmp 7), none⟩]) (.cond (.tmp 8) .skip (.exit 0))) (.seq (.block 1 (.region false [⟨(some 11), .mv (.tmp 0), none⟩,
  ⟨(some 12), .mv (.tmp 4), none⟩,
  ⟨(some 13), .mv (.tmp 1), none⟩,
  ⟨(some 14), .idxA 1 (.tmp 11) (.tmp 12), none⟩,
  ⟨none, .st 1 (.tmp 14) (.tmp 13), none⟩])) (.region false [⟨(some 9), .mv (.tmp 4), none⟩,
  ⟨(some 10), .arith .add .i64 (.tmp 9) (.const (.int .i64 1)), none⟩,
  ⟨(some 4), .mv (.tmp 10), none⟩])))))) (.seq (.region false [⟨(some 15), .mv (.tmp 0), none⟩,
  ⟨(some 16), .len (.tmp 15), none⟩,
  ⟨(some 17), .mv (.tmp 0), none⟩,
  ⟨(some 18), .cap (.tmp 17), none⟩,
  ⟨(some 19), .icmp .lss .i64 (.tmp 16) (.tmp 18), none⟩]) (.cond (.tmp 19) (.region false [⟨(some 20), .mv (.tmp 0), none⟩,
  ⟨(some 21), .mv (.tmp 0), none⟩,
  ⟨(some 22), .len (.tmp 21), none⟩,
  ⟨(some 23), .arith .add .i64 (.tmp 22) (.const (.int .i64 1)), none⟩,
  ⟨(some 24), .slc 1 (.tmp 20) none (some (.tmp 23)), none⟩,
  ⟨(some 25), .mv (.tmp 0), none⟩,
  ⟨(some 26), .len (.tmp 25), none⟩,
  ⟨(some 27), .mv (.tmp 1), none⟩,
  ⟨(some 28), .idxA 1 (.tmp 24) (.tmp 26), none⟩,
  ⟨none, .st 1 (.tmp 28) (.tmp 27), none⟩]) .skip)))
def loops23 : List (List (Nat × Shp)) := [[(4, .int .i64)]]
def ret23 : List RV := []
theorem comp23 : compF Try.prog Try.f23 loops23 = some (29, ret23, code23) := by kernel_rfl
def J23_0  (R : Value → Heap → Prop) (lA : (Option Addr)) (lN : Nat) (lC : Nat) (mark : Int) (h_2 : Heap) : Prop :=
 PIf ((((lN : Nat) : Int) : Int) < ((lC : Nat) : Int))
 (0 ≤ (0 : Int) ∧ (0 : Int) ≤ (IntKind.wrap .i64 (((lN : Nat) : Int) + 1)) ∧ ((IntKind.wrap .i64 (((lN : Nat) : Int) + 1)) : Int) ≤ (lC : Nat) ∧ 0 ≤ (((lN : Nat) : Int) : Int) ∧ (((lN : Nat) : Int) : Int) < ((Int.toNat (IntKind.wrap .i64 (((lN : Nat) : Int) + 1)) - Int.toNat 0) : Nat) ∧ AtP (cutA 1 lA lC (Int.toNat 0)) fun ad1 => StoreH h_2 (Addr.add ad1 (Int.toNat ((lN : Nat) : Int) * 1)) [(.int .i64 mark)] fun h_3 => R (.tuple #[]) h_3)
 (R (.tuple #[]) h_2)
def B23_1 (R : Value → Heap → Prop) (lA : (Option Addr)) (lN : Nat) (lC : Nat) (mark : Int) (i : Int) (h_ : Heap) (next_ : Int → Heap → Prop) : Prop :=
 PIf ((i : Int) < ((lN : Nat) : Int))
 (0 ≤ (i : Int) ∧ (i : Int) < (lN : Nat) ∧ AtP lA fun ad => StoreH h_ (Addr.add ad (Int.toNat i * 1)) [(.int .i64 mark)] fun h_1 => next_ ((IntKind.wrap .i64 (i + 1))) h_1)
 (J23_0 R lA lN lC mark h_)
def VC23 (P : Program) (lA : Option Addr) (lN : Nat) (lC : Nat) (mark : Int) (R : Value → Heap → Prop) (h : Heap) : Prop :=
 LoopT (σ := Int) (fun st h next => B23_1 R lA lN lC mark (st) h next) (0) h
theorem vc23 (P : Program) (lA : Option Addr) (lN : Nat) (lC : Nat) (mark : Int) (R : Value → Heap → Prop) (h : Heap) : fnC P ret23 code23 [(.slice lA lN lC), (.int .i64 mark)] h R = VC23 P lA lN lC mark R h := by kernel_rfl
theorem run23 (lA : Option Addr) (lN : Nat) (lC : Nat) (mark : Int) (R : Value → Heap → Prop) (h : Heap) (hv : VC23 Try.prog lA lN lC mark R h) : CallsH Try.prog 23 #[(.slice lA lN lC), (.int .i64 mark)] h R := calls_of_fnC (Checked.mixed Try.checked) Try.func23 comp23 (Nat.le_of_ble_eq_true rfl) (by rw [vc23]; exact hv)

/-! 24: trestle/trestlebook.KeptInts -/
def code24 : SCode := (.seq (.region false [⟨(some 4), .mv (.const (.bool false)), none⟩]) (.seq (.region false [⟨(some 5), .mv (.tmp 0), none⟩,
  ⟨(some 6), .mv (.tmp 1), none⟩,
  ⟨(some 7), .call 48 [(.tmp 5), (.tmp 6)] (.val (.one (.bool))), none⟩,
  ⟨(some 8), .mv (.tmp 7), none⟩,
  ⟨(some 9), .mv (.tmp 0), (some (8, true))⟩,
  ⟨(some 10), .mv (.tmp 1), (some (8, true))⟩,
  ⟨(some 11), .len (.tmp 10), (some (8, true))⟩,
  ⟨(some 12), .arith .add .i64 (.tmp 11) (.const (.int .i64 1)), (some (8, true))⟩,
  ⟨(some 13), .slc 1 (.tmp 9) none (some (.tmp 12)), (some (8, true))⟩,
  ⟨(some 14), .mv (.tmp 1), (some (8, true))⟩,
  ⟨(some 15), .len (.tmp 14), (some (8, true))⟩,
  ⟨(some 16), .idxA 1 (.tmp 13) (.tmp 15), (some (8, true))⟩,
  ⟨(some 17), .ld (.int .i64) (.tmp 16), (some (8, true))⟩,
  ⟨(some 18), .icmp .eql .i64 (.tmp 17) (.const (.int .i64 (-77))), (some (8, true))⟩,
  ⟨(some 19), .pick (.tmp 8) (.tmp 18) (.const (.bool false)), none⟩,
  ⟨(some 4), .mv (.tmp 19), none⟩]) .ret))
def loops24 : List (List (Nat × Shp)) := []
def ret24 : List RV := [.tmp 4]
theorem comp24 : compF Try.prog Try.f24 loops24 = some (20, ret24, code24) := by kernel_rfl
def VC24 (P : Program) (lA : Option Addr) (lN : Nat) (lC : Nat) (wasA : Option Addr) (wasN : Nat) (wasC : Nat) (R : Value → Heap → Prop) (h : Heap) : Prop :=
 CallsH P 48 #[(.slice lA lN lC), (.slice wasA wasN wasC)] h fun v h_ =>
 ∃ (t : Bool), v = (.bool t) ∧ BIf t (0 ≤ (0 : Int) ∧ (0 : Int) ≤ (IntKind.wrap .i64 (((wasN : Nat) : Int) + 1)) ∧ ((IntKind.wrap .i64 (((wasN : Nat) : Int) + 1)) : Int) ≤ (lC : Nat) ∧ 0 ≤ (((wasN : Nat) : Int) : Int) ∧ (((wasN : Nat) : Int) : Int) < ((Int.toNat (IntKind.wrap .i64 (((wasN : Nat) : Int) + 1)) - Int.toNat 0) : Nat) ∧ AtP (cutA 1 lA lC (Int.toNat 0)) fun ad => ∃ (t1 : Int), cellH h_ (Addr.add ad (Int.toNat ((wasN : Nat) : Int) * 1)) = some (.int .i64 t1) ∧ PIf ((t1 : Int) = (-77))
 (R (.bool true) h_)
 (R (.bool false) h_)) (R (.bool false) h_)
theorem vc24 (P : Program) (lA : Option Addr) (lN : Nat) (lC : Nat) (wasA : Option Addr) (wasN : Nat) (wasC : Nat) (R : Value → Heap → Prop) (h : Heap) : fnC P ret24 code24 [(.slice lA lN lC), (.slice wasA wasN wasC)] h R = VC24 P lA lN lC wasA wasN wasC R h := by kernel_rfl
theorem run24 (lA : Option Addr) (lN : Nat) (lC : Nat) (wasA : Option Addr) (wasN : Nat) (wasC : Nat) (R : Value → Heap → Prop) (h : Heap) (hv : VC24 Try.prog lA lN lC wasA wasN wasC R h) : CallsH Try.prog 24 #[(.slice lA lN lC), (.slice wasA wasN wasC)] h R := calls_of_fnC (Checked.mixed Try.checked) Try.func24 comp24 (Nat.le_of_ble_eq_true rfl) (by rw [vc24]; exact hv)

/-! 25: trestle/trestlebook.SameBools -/
def code25 : SCode := (.seq (.region false [⟨(some 4), .mv (.const (.bool false)), none⟩]) (.seq (.seq (.region false [⟨(some 6), .mv (.tmp 0), none⟩,
  ⟨(some 7), .len (.tmp 6), none⟩,
  ⟨(some 8), .mv (.tmp 1), none⟩,
  ⟨(some 9), .len (.tmp 8), none⟩,
  ⟨(some 10), .icmp .neq .i64 (.tmp 7) (.tmp 9), none⟩]) (.cond (.tmp 10) (.seq (.region false [⟨(some 4), .mv (.const (.bool false)), none⟩]) .ret) .skip)) (.seq (.seq (.region false [⟨(some 5), .mv (.const (.int .i64 0)), none⟩]) (.block 0 (.loop [(5, .int .i64)] [11, 12, 13, 14, 17, 18, 19, 20, 21, 22, 23, 24, 25, 4, 15, 16, 5] (.seq (.seq (.region false [⟨(some 11), .mv (.tmp 5), none⟩,
  ⟨(some 12), .mv (.tmp 0), none⟩,
  ⟨(some 13), .len (.tmp 12), none⟩,
  ⟨(some 14), .icmp .lss .i64 (.tmp 11) (.tmp 13), none⟩]) (.cond (.tmp 14) .skip (.exit 0))) (.seq (.block 1 (.seq (.region false [⟨(some 17), .mv (.tmp 0), none⟩,
  ⟨(some 18), .mv (.tmp 5), none⟩,
  ⟨(some 19), .idxA 1 (.tmp 17) (.tmp 18), none⟩,
  ⟨(some 20), .ld (.bool) (.tmp 19), none⟩,
  ⟨(some 21), .mv (.tmp 1), none⟩,
  ⟨(some 22), .mv (.tmp 5), none⟩,
  ⟨(some 23), .idxA 1 (.tmp 21) (.tmp 22), none⟩,
  ⟨(some 24), .ld (.bool) (.tmp 23), none⟩,
  ⟨(some 25), .bcmp true (.tmp 20) (.tmp 24), none⟩]) (.cond (.tmp 25) (.seq (.region false [⟨(some 4), .mv (.const (.bool false)), none⟩]) .ret) .skip))) (.region false [⟨(some 15), .mv (.tmp 5), none⟩,
  ⟨(some 16), .arith .add .i64 (.tmp 15) (.const (.int .i64 1)), none⟩,
  ⟨(some 5), .mv (.tmp 16), none⟩])))))) (.seq (.region false [⟨(some 4), .mv (.const (.bool true)), none⟩]) .ret))))
def loops25 : List (List (Nat × Shp)) := [[(5, .int .i64)]]
def ret25 : List RV := [.tmp 4]
theorem comp25 : compF Try.prog Try.f25 loops25 = some (26, ret25, code25) := by kernel_rfl
def J25_2  (R : Value → Heap → Prop) (aA : (Option Addr)) (aN : Nat) (bA : (Option Addr)) (bN : Nat) (i : Int) (next_ : (Int → Heap → Prop)) (h_2 : Heap) : Prop :=
 0 ≤ (i : Int) ∧ (i : Int) < (aN : Nat) ∧ AtP aA fun ad => ∃ (t : Bool), cellH h_2 (Addr.add ad (Int.toNat i * 1)) = some (.bool t) ∧ 0 ≤ (i : Int) ∧ (i : Int) < (bN : Nat) ∧ AtP bA fun ad1 => ∃ (t1 : Bool), cellH h_2 (Addr.add ad1 (Int.toNat i * 1)) = some (.bool t1) ∧ PIf ((t : Bool) = t1)
 (next_ ((IntKind.wrap .i64 (i + 1))) h_2)
 (R (.bool false) h_2)
def J25_1  (R : Value → Heap → Prop) (h_3 : Heap) : Prop :=
 R (.bool true) h_3
def B25_3 (R : Value → Heap → Prop) (aA : (Option Addr)) (aN : Nat) (bA : (Option Addr)) (bN : Nat) (i : Int) (h_1 : Heap) (next_ : Int → Heap → Prop) : Prop :=
 PIf ((i : Int) < ((aN : Nat) : Int))
 (J25_2 R aA aN bA bN i next_ h_1)
 (J25_1 R h_1)
def J25_0  (R : Value → Heap → Prop) (h : Heap) (aA : (Option Addr)) (aN : Nat) (bA : (Option Addr)) (bN : Nat) (h_ : Heap) : Prop :=
 LoopT (σ := Int) (fun st h next => B25_3 R aA aN bA bN (st) h next) (0) h_
def VC25 (P : Program) (aA : Option Addr) (aN : Nat) (aC : Nat) (bA : Option Addr) (bN : Nat) (bC : Nat) (R : Value → Heap → Prop) (h : Heap) : Prop :=
 PIf ((((aN : Nat) : Int) : Int) = ((bN : Nat) : Int))
 (J25_0 R h aA aN bA bN h)
 (R (.bool false) h)
theorem vc25 (P : Program) (aA : Option Addr) (aN : Nat) (aC : Nat) (bA : Option Addr) (bN : Nat) (bC : Nat) (R : Value → Heap → Prop) (h : Heap) : fnC P ret25 code25 [(.slice aA aN aC), (.slice bA bN bC)] h R = VC25 P aA aN aC bA bN bC R h := by kernel_rfl
theorem run25 (aA : Option Addr) (aN : Nat) (aC : Nat) (bA : Option Addr) (bN : Nat) (bC : Nat) (R : Value → Heap → Prop) (h : Heap) (hv : VC25 Try.prog aA aN aC bA bN bC R h) : CallsH Try.prog 25 #[(.slice aA aN aC), (.slice bA bN bC)] h R := calls_of_fnC (Checked.mixed Try.checked) Try.func25 comp25 (Nat.le_of_ble_eq_true rfl) (by rw [vc25]; exact hv)

/-! 26: trestle/lits.Subsumes -/
def code26 : SCode := (.seq (.region false [⟨(some 4), .mv (.const (.bool false)), none⟩,
  ⟨(some 5), .mv (.const (.int .i64 0)), none⟩]) (.seq (.region false [⟨(some 10), .mv (.tmp 0), none⟩,
  ⟨(some 11), .mv (.tmp 1), none⟩,
  ⟨(some 12), .call 49 [(.tmp 10), (.tmp 11)] (.tup [.one (.slice), .one (.slice), .one (.int .i64)]), none⟩,
  ⟨(some 9), .mv (.tmp 12), none⟩,
  ⟨(some 13), .extr (.tmp 9) 0, none⟩,
  ⟨(some 14), .extr (.tmp 9) 1, none⟩,
  ⟨(some 15), .extr (.tmp 9) 2, none⟩,
  ⟨(some 6), .mv (.tmp 13), none⟩,
  ⟨(some 7), .mv (.tmp 14), none⟩,
  ⟨(some 8), .mv (.tmp 15), none⟩]) (.seq (.seq (.region false [⟨(some 16), .mv (.tmp 8), none⟩,
  ⟨(some 17), .icmp .neq .i64 (.tmp 16) (.const (.int .i64 0)), none⟩]) (.cond (.tmp 17) (.seq (.region false [⟨(some 18), .mv (.tmp 8), none⟩,
  ⟨(some 4), .mv (.const (.bool false)), none⟩,
  ⟨(some 5), .mv (.tmp 18), none⟩]) .ret) .skip)) (.seq (.region false [⟨(some 19), .mv (.tmp 6), none⟩,
  ⟨(some 20), .mv (.tmp 7), none⟩,
  ⟨(some 21), .call 50 [(.tmp 19), (.tmp 20)] (.val (.one (.slice))), none⟩,
  ⟨(some 22), .len (.tmp 21), none⟩,
  ⟨(some 23), .icmp .eql .i64 (.tmp 22) (.const (.int .i64 0)), none⟩,
  ⟨(some 4), .mv (.tmp 23), none⟩,
  ⟨(some 5), .mv (.const (.int .i64 0)), none⟩]) .ret))))
def loops26 : List (List (Nat × Shp)) := []
def ret26 : List RV := [.tmp 4, .tmp 5]
theorem comp26 : compF Try.prog Try.f26 loops26 = some (24, ret26, code26) := by kernel_rfl
def VC26 (P : Program) (aA : Option Addr) (aN : Nat) (aC : Nat) (bA : Option Addr) (bN : Nat) (bC : Nat) (R : Value → Heap → Prop) (h : Heap) : Prop :=
 CallsH P 49 #[(.slice aA aN aC), (.slice bA bN bC)] h fun v h_ =>
 ∃ (A : Option Addr), ∃ (N : Nat), ∃ (C : Nat), ∃ (A1 : Option Addr), ∃ (N1 : Nat), ∃ (C1 : Nat), ∃ (t : Int), v = (.tuple #[(.slice A N C), (.slice A1 N1 C1), (.int .i64 t)]) ∧ PIf ((t : Int) = 0)
 (CallsH P 50 #[(.slice A N C), (.slice A1 N1 C1)] h_ fun v1 h_1 =>
 ∃ (A2 : Option Addr), ∃ (N2 : Nat), ∃ (C2 : Nat), v1 = (.slice A2 N2 C2) ∧ PIf ((((N2 : Nat) : Int) : Int) = 0)
 (R (.tuple #[(.bool true), (.int .i64 0)]) h_1)
 (R (.tuple #[(.bool false), (.int .i64 0)]) h_1))
 (R (.tuple #[(.bool false), (.int .i64 t)]) h_)
theorem vc26 (P : Program) (aA : Option Addr) (aN : Nat) (aC : Nat) (bA : Option Addr) (bN : Nat) (bC : Nat) (R : Value → Heap → Prop) (h : Heap) : fnC P ret26 code26 [(.slice aA aN aC), (.slice bA bN bC)] h R = VC26 P aA aN aC bA bN bC R h := by kernel_rfl
theorem run26 (aA : Option Addr) (aN : Nat) (aC : Nat) (bA : Option Addr) (bN : Nat) (bC : Nat) (R : Value → Heap → Prop) (h : Heap) (hv : VC26 Try.prog aA aN aC bA bN bC R h) : CallsH Try.prog 26 #[(.slice aA aN aC), (.slice bA bN bC)] h R := calls_of_fnC (Checked.mixed Try.checked) Try.func26 comp26 (Nat.le_of_ble_eq_true rfl) (by rw [vc26]; exact hv)

/-! 27: trestle/trestleref01.Subsumes -/
def code27 : SCode := (.seq (.region false [⟨(some 4), .mv (.const (.bool false)), none⟩,
  ⟨(some 5), .mv (.const (.int .i64 0)), none⟩]) (.seq (.region false [⟨(some 11), .mv (.tmp 0), none⟩,
  ⟨(some 12), .mv (.tmp 1), none⟩,
  ⟨(some 13), .call 51 [(.tmp 11), (.tmp 12)] (.tup [.one (.slice), .one (.slice), .one (.int .i64)]), none⟩,
  ⟨(some 10), .mv (.tmp 13), none⟩,
  ⟨(some 14), .extr (.tmp 10) 0, none⟩,
  ⟨(some 15), .extr (.tmp 10) 1, none⟩,
  ⟨(some 16), .extr (.tmp 10) 2, none⟩,
  ⟨(some 6), .mv (.tmp 14), none⟩,
  ⟨(some 7), .mv (.tmp 15), none⟩,
  ⟨(some 8), .mv (.tmp 16), none⟩]) (.seq (.seq (.region false [⟨(some 17), .mv (.tmp 8), none⟩,
  ⟨(some 18), .icmp .neq .i64 (.tmp 17) (.const (.int .i64 0)), none⟩]) (.cond (.tmp 18) (.seq (.region false [⟨(some 19), .mv (.tmp 8), none⟩,
  ⟨(some 4), .mv (.const (.bool false)), none⟩,
  ⟨(some 5), .mv (.tmp 19), none⟩]) .ret) .skip)) (.seq (.seq (.region false [⟨(some 9), .mv (.const (.int .i64 0)), none⟩]) (.block 0 (.loop [(9, .int .i64)] [20, 21, 22, 23, 26, 27, 28, 29, 30, 31, 32, 4, 5, 24, 25, 9] (.seq (.seq (.region false [⟨(some 20), .mv (.tmp 9), none⟩,
  ⟨(some 21), .mv (.tmp 6), none⟩,
  ⟨(some 22), .len (.tmp 21), none⟩,
  ⟨(some 23), .icmp .lss .i64 (.tmp 20) (.tmp 22), none⟩]) (.cond (.tmp 23) .skip (.exit 0))) (.seq (.block 1 (.seq (.region false [⟨(some 26), .mv (.tmp 7), none⟩,
  ⟨(some 27), .mv (.tmp 6), none⟩,
  ⟨(some 28), .mv (.tmp 9), none⟩,
  ⟨(some 29), .idxA 1 (.tmp 27) (.tmp 28), none⟩,
  ⟨(some 30), .ld (.int .i64) (.tmp 29), none⟩,
  ⟨(some 31), .call 52 [(.tmp 26), (.tmp 30)] (.val (.one (.bool))), none⟩,
  ⟨(some 32), .not (.tmp 31), none⟩]) (.cond (.tmp 32) (.seq (.region false [⟨(some 4), .mv (.const (.bool false)), none⟩,
  ⟨(some 5), .mv (.const (.int .i64 0)), none⟩]) .ret) .skip))) (.region false [⟨(some 24), .mv (.tmp 9), none⟩,
  ⟨(some 25), .arith .add .i64 (.tmp 24) (.const (.int .i64 1)), none⟩,
  ⟨(some 9), .mv (.tmp 25), none⟩])))))) (.seq (.region false [⟨(some 4), .mv (.const (.bool true)), none⟩,
  ⟨(some 5), .mv (.const (.int .i64 0)), none⟩]) .ret)))))
def loops27 : List (List (Nat × Shp)) := [[(9, .int .i64)]]
def ret27 : List RV := [.tmp 4, .tmp 5]
theorem comp27 : compF Try.prog Try.f27 loops27 = some (33, ret27, code27) := by kernel_rfl
def J27_2  (P : Program) (R : Value → Heap → Prop) (A : (Option Addr)) (N : Nat) (A1 : (Option Addr)) (N1 : Nat) (C1 : Nat) (i : Int) (next_ : (Int → Heap → Prop)) (h_3 : Heap) : Prop :=
 0 ≤ (i : Int) ∧ (i : Int) < (N : Nat) ∧ AtP A fun ad => ∃ (t1 : Int), cellH h_3 (Addr.add ad (Int.toNat i * 1)) = some (.int .i64 t1) ∧ CallsH P 52 #[(.slice A1 N1 C1), (.int .i64 t1)] h_3 fun v1 h_4 =>
 ∃ (t2 : Bool), v1 = (.bool t2) ∧ BIf (!t2) (R (.tuple #[(.bool false), (.int .i64 0)]) h_4) (next_ ((IntKind.wrap .i64 (i + 1))) h_4)
def J27_1  (R : Value → Heap → Prop) (h_5 : Heap) : Prop :=
 R (.tuple #[(.bool true), (.int .i64 0)]) h_5
def B27_3 (P : Program) (R : Value → Heap → Prop) (A : (Option Addr)) (N : Nat) (A1 : (Option Addr)) (N1 : Nat) (C1 : Nat) (i : Int) (h_2 : Heap) (next_ : Int → Heap → Prop) : Prop :=
 PIf ((i : Int) < ((N : Nat) : Int))
 (J27_2 P R A N A1 N1 C1 i next_ h_2)
 (J27_1 R h_2)
def J27_0  (P : Program) (R : Value → Heap → Prop) (h : Heap) (A : (Option Addr)) (N : Nat) (A1 : (Option Addr)) (N1 : Nat) (C1 : Nat) (h_1 : Heap) : Prop :=
 LoopT (σ := Int) (fun st h next => B27_3 P R A N A1 N1 C1 (st) h next) (0) h_1
def VC27 (P : Program) (aA : Option Addr) (aN : Nat) (aC : Nat) (bA : Option Addr) (bN : Nat) (bC : Nat) (R : Value → Heap → Prop) (h : Heap) : Prop :=
 CallsH P 51 #[(.slice aA aN aC), (.slice bA bN bC)] h fun v h_ =>
 ∃ (A : Option Addr), ∃ (N : Nat), ∃ (C : Nat), ∃ (A1 : Option Addr), ∃ (N1 : Nat), ∃ (C1 : Nat), ∃ (t : Int), v = (.tuple #[(.slice A N C), (.slice A1 N1 C1), (.int .i64 t)]) ∧ PIf ((t : Int) = 0)
 (J27_0 P R h A N A1 N1 C1 h_)
 (R (.tuple #[(.bool false), (.int .i64 t)]) h_)
theorem vc27 (P : Program) (aA : Option Addr) (aN : Nat) (aC : Nat) (bA : Option Addr) (bN : Nat) (bC : Nat) (R : Value → Heap → Prop) (h : Heap) : fnC P ret27 code27 [(.slice aA aN aC), (.slice bA bN bC)] h R = VC27 P aA aN aC bA bN bC R h := by kernel_rfl
theorem run27 (aA : Option Addr) (aN : Nat) (aC : Nat) (bA : Option Addr) (bN : Nat) (bC : Nat) (R : Value → Heap → Prop) (h : Heap) (hv : VC27 Try.prog aA aN aC bA bN bC R h) : CallsH Try.prog 27 #[(.slice aA aN aC), (.slice bA bN bC)] h R := calls_of_fnC (Checked.mixed Try.checked) Try.func27 comp27 (Nat.le_of_ble_eq_true rfl) (by rw [vc27]; exact hv)

/-! 28: trestle/lits.Strengthen -/
def code28 : SCode := (.seq (.region false [⟨(some 4), .mv (.const (.slice none 0 0)), none⟩,
  ⟨(some 5), .mv (.const (.bool false)), none⟩,
  ⟨(some 6), .mv (.const (.int .i64 0)), none⟩]) (.seq (.region false [⟨(some 14), .mv (.tmp 0), none⟩,
  ⟨(some 15), .mv (.tmp 1), none⟩,
  ⟨(some 16), .call 49 [(.tmp 14), (.tmp 15)] (.tup [.one (.slice), .one (.slice), .one (.int .i64)]), none⟩,
  ⟨(some 13), .mv (.tmp 16), none⟩,
  ⟨(some 17), .extr (.tmp 13) 0, none⟩,
  ⟨(some 18), .extr (.tmp 13) 1, none⟩,
  ⟨(some 19), .extr (.tmp 13) 2, none⟩,
  ⟨(some 7), .mv (.tmp 17), none⟩,
  ⟨(some 8), .mv (.tmp 18), none⟩,
  ⟨(some 9), .mv (.tmp 19), none⟩]) (.seq (.seq (.region false [⟨(some 20), .mv (.tmp 9), none⟩,
  ⟨(some 21), .icmp .neq .i64 (.tmp 20) (.const (.int .i64 0)), none⟩]) (.cond (.tmp 21) (.seq (.region false [⟨(some 22), .mv (.tmp 9), none⟩,
  ⟨(some 4), .mv (.const (.slice none 0 0)), none⟩,
  ⟨(some 5), .mv (.const (.bool false)), none⟩,
  ⟨(some 6), .mv (.tmp 22), none⟩]) .ret) .skip)) (.seq (.region false [⟨(some 23), .mv (.tmp 7), none⟩,
  ⟨(some 24), .mv (.tmp 8), none⟩,
  ⟨(some 25), .call 50 [(.tmp 23), (.tmp 24)] (.val (.one (.slice))), none⟩,
  ⟨(some 10), .mv (.tmp 25), none⟩]) (.seq (.seq (.region false [⟨(some 26), .mv (.tmp 10), none⟩,
  ⟨(some 27), .len (.tmp 26), none⟩,
  ⟨(some 28), .icmp .neq .i64 (.tmp 27) (.const (.int .i64 1)), none⟩]) (.cond (.tmp 28) (.seq (.region false [⟨(some 4), .mv (.const (.slice none 0 0)), none⟩,
  ⟨(some 5), .mv (.const (.bool false)), none⟩,
  ⟨(some 6), .mv (.const (.int .i64 0)), none⟩]) .ret) .skip)) (.seq (.seq (.region false [⟨(some 30), .mv (.tmp 8), none⟩,
  ⟨(some 31), .mv (.tmp 10), none⟩,
  ⟨(some 32), .idxA 1 (.tmp 31) (.const (.int .i64 0)), none⟩,
  ⟨(some 33), .ld (.int .i64) (.tmp 32), none⟩,
  ⟨(some 34), .neg .i64 (.tmp 33), none⟩,
  ⟨(some 35), .call 53 [(.tmp 30), (.tmp 34)] (.tup [.one (.int .i64), .one (.bool)]), none⟩,
  ⟨(some 29), .mv (.tmp 35), none⟩,
  ⟨(some 36), .extr (.tmp 29) 0, none⟩,
  ⟨(some 37), .extr (.tmp 29) 1, none⟩,
  ⟨(some 11), .mv (.tmp 36), none⟩,
  ⟨(some 12), .mv (.tmp 37), none⟩]) (.seq (.region false [⟨(some 38), .mv (.tmp 12), none⟩,
  ⟨(some 39), .not (.tmp 38), none⟩]) (.cond (.tmp 39) (.seq (.region false [⟨(some 4), .mv (.const (.slice none 0 0)), none⟩,
  ⟨(some 5), .mv (.const (.bool false)), none⟩,
  ⟨(some 6), .mv (.const (.int .i64 0)), none⟩]) .ret) .skip))) (.seq (.region false [⟨(some 40), .mv (.tmp 8), none⟩,
  ⟨(some 41), .mv (.tmp 10), none⟩,
  ⟨(some 42), .idxA 1 (.tmp 41) (.const (.int .i64 0)), none⟩,
  ⟨(some 43), .ld (.int .i64) (.tmp 42), none⟩,
  ⟨(some 44), .neg .i64 (.tmp 43), none⟩,
  ⟨(some 45), .call 54 [(.tmp 40), (.tmp 44)] (.val (.one (.slice))), none⟩,
  ⟨(some 4), .mv (.tmp 45), none⟩,
  ⟨(some 5), .mv (.const (.bool true)), none⟩,
  ⟨(some 6), .mv (.const (.int .i64 0)), none⟩]) .ret)))))))
def loops28 : List (List (Nat × Shp)) := []
def ret28 : List RV := [.tmp 4, .tmp 5, .tmp 6]
theorem comp28 : compF Try.prog Try.f28 loops28 = some (46, ret28, code28) := by kernel_rfl
def J28_2  (P : Program) (R : Value → Heap → Prop) (A1 : (Option Addr)) (N1 : Nat) (C1 : Nat) (A2 : (Option Addr)) (N2 : Nat) (h_5 : Heap) : Prop :=
 0 ≤ (0 : Int) ∧ (0 : Int) < (N2 : Nat) ∧ AtP A2 fun ad1 => ∃ (t4 : Int), cellH h_5 (Addr.add ad1 (Int.toNat 0 * 1)) = some (.int .i64 t4) ∧ CallsH P 54 #[(.slice A1 N1 C1), (.int .i64 (IntKind.wrap .i64 (0 - t4)))] h_5 fun v3 h_6 =>
 ∃ (A3 : Option Addr), ∃ (N3 : Nat), ∃ (C3 : Nat), v3 = (.slice A3 N3 C3) ∧ R (.tuple #[(.slice A3 N3 C3), (.bool true), (.int .i64 0)]) h_6
def J28_1  (P : Program) (R : Value → Heap → Prop) (A1 : (Option Addr)) (N1 : Nat) (C1 : Nat) (A2 : (Option Addr)) (N2 : Nat) (h_3 : Heap) : Prop :=
 0 ≤ (0 : Int) ∧ (0 : Int) < (N2 : Nat) ∧ AtP A2 fun ad => ∃ (t1 : Int), cellH h_3 (Addr.add ad (Int.toNat 0 * 1)) = some (.int .i64 t1) ∧ CallsH P 53 #[(.slice A1 N1 C1), (.int .i64 (IntKind.wrap .i64 (0 - t1)))] h_3 fun v2 h_4 =>
 ∃ (t2 : Int), ∃ (t3 : Bool), v2 = (.tuple #[(.int .i64 t2), (.bool t3)]) ∧ BIf (!t3) (R (.tuple #[(.slice none 0 0), (.bool false), (.int .i64 0)]) h_4) (J28_2 P R A1 N1 C1 A2 N2 h_4)
def J28_0  (P : Program) (R : Value → Heap → Prop) (A : (Option Addr)) (N : Nat) (C : Nat) (A1 : (Option Addr)) (N1 : Nat) (C1 : Nat) (h_1 : Heap) : Prop :=
 CallsH P 50 #[(.slice A N C), (.slice A1 N1 C1)] h_1 fun v1 h_2 =>
 ∃ (A2 : Option Addr), ∃ (N2 : Nat), ∃ (C2 : Nat), v1 = (.slice A2 N2 C2) ∧ PIf ((((N2 : Nat) : Int) : Int) = 1)
 (J28_1 P R A1 N1 C1 A2 N2 h_2)
 (R (.tuple #[(.slice none 0 0), (.bool false), (.int .i64 0)]) h_2)
def VC28 (P : Program) (aA : Option Addr) (aN : Nat) (aC : Nat) (bA : Option Addr) (bN : Nat) (bC : Nat) (R : Value → Heap → Prop) (h : Heap) : Prop :=
 CallsH P 49 #[(.slice aA aN aC), (.slice bA bN bC)] h fun v h_ =>
 ∃ (A : Option Addr), ∃ (N : Nat), ∃ (C : Nat), ∃ (A1 : Option Addr), ∃ (N1 : Nat), ∃ (C1 : Nat), ∃ (t : Int), v = (.tuple #[(.slice A N C), (.slice A1 N1 C1), (.int .i64 t)]) ∧ PIf ((t : Int) = 0)
 (J28_0 P R A N C A1 N1 C1 h_)
 (R (.tuple #[(.slice none 0 0), (.bool false), (.int .i64 t)]) h_)
theorem vc28 (P : Program) (aA : Option Addr) (aN : Nat) (aC : Nat) (bA : Option Addr) (bN : Nat) (bC : Nat) (R : Value → Heap → Prop) (h : Heap) : fnC P ret28 code28 [(.slice aA aN aC), (.slice bA bN bC)] h R = VC28 P aA aN aC bA bN bC R h := by kernel_rfl
theorem run28 (aA : Option Addr) (aN : Nat) (aC : Nat) (bA : Option Addr) (bN : Nat) (bC : Nat) (R : Value → Heap → Prop) (h : Heap) (hv : VC28 Try.prog aA aN aC bA bN bC R h) : CallsH Try.prog 28 #[(.slice aA aN aC), (.slice bA bN bC)] h R := calls_of_fnC (Checked.mixed Try.checked) Try.func28 comp28 (Nat.le_of_ble_eq_true rfl) (by rw [vc28]; exact hv)

/-! 29: trestle/trestleref01.Strengthen -/
def code29 : SCode := (.seq (.region false [⟨(some 4), .mv (.const (.slice none 0 0)), none⟩,
  ⟨(some 5), .mv (.const (.bool false)), none⟩,
  ⟨(some 6), .mv (.const (.int .i64 0)), none⟩]) (.seq (.region false [⟨(some 14), .mv (.tmp 0), none⟩,
  ⟨(some 15), .mv (.tmp 1), none⟩,
  ⟨(some 16), .call 51 [(.tmp 14), (.tmp 15)] (.tup [.one (.slice), .one (.slice), .one (.int .i64)]), none⟩,
  ⟨(some 13), .mv (.tmp 16), none⟩,
  ⟨(some 17), .extr (.tmp 13) 0, none⟩,
  ⟨(some 18), .extr (.tmp 13) 1, none⟩,
  ⟨(some 19), .extr (.tmp 13) 2, none⟩,
  ⟨(some 7), .mv (.tmp 17), none⟩,
  ⟨(some 8), .mv (.tmp 18), none⟩,
  ⟨(some 9), .mv (.tmp 19), none⟩]) (.seq (.seq (.region false [⟨(some 20), .mv (.tmp 9), none⟩,
  ⟨(some 21), .icmp .neq .i64 (.tmp 20) (.const (.int .i64 0)), none⟩]) (.cond (.tmp 21) (.seq (.region false [⟨(some 22), .mv (.tmp 9), none⟩,
  ⟨(some 4), .mv (.const (.slice none 0 0)), none⟩,
  ⟨(some 5), .mv (.const (.bool false)), none⟩,
  ⟨(some 6), .mv (.tmp 22), none⟩]) .ret) .skip)) (.seq (.region false [⟨(some 10), .mv (.const (.int .i64 0)), none⟩,
  ⟨(some 11), .mv (.const (.int .i64 0)), none⟩]) (.seq (.seq (.region false [⟨(some 12), .mv (.const (.int .i64 0)), none⟩]) (.block 0 (.loop [(10, .int .i64), (11, .int .i64), (12, .int .i64)] [23, 24, 25, 26, 29, 30, 31, 32, 33, 34, 35, 36, 37, 38, 39, 10, 40, 41, 11, 27, 28, 12] (.seq (.seq (.region false [⟨(some 23), .mv (.tmp 12), none⟩,
  ⟨(some 24), .mv (.tmp 7), none⟩,
  ⟨(some 25), .len (.tmp 24), none⟩,
  ⟨(some 26), .icmp .lss .i64 (.tmp 23) (.tmp 25), none⟩]) (.cond (.tmp 26) .skip (.exit 0))) (.seq (.block 1 (.seq (.region false [⟨(some 29), .mv (.tmp 8), none⟩,
  ⟨(some 30), .mv (.tmp 7), none⟩,
  ⟨(some 31), .mv (.tmp 12), none⟩,
  ⟨(some 32), .idxA 1 (.tmp 30) (.tmp 31), none⟩,
  ⟨(some 33), .ld (.int .i64) (.tmp 32), none⟩,
  ⟨(some 34), .call 52 [(.tmp 29), (.tmp 33)] (.val (.one (.bool))), none⟩,
  ⟨(some 35), .not (.tmp 34), none⟩]) (.cond (.tmp 35) (.seq (.region false [⟨(some 36), .mv (.tmp 7), none⟩,
  ⟨(some 37), .mv (.tmp 12), none⟩,
  ⟨(some 38), .idxA 1 (.tmp 36) (.tmp 37), none⟩,
  ⟨(some 39), .ld (.int .i64) (.tmp 38), none⟩,
  ⟨(some 10), .mv (.tmp 39), none⟩]) (.region false [⟨(some 40), .mv (.tmp 11), none⟩,
  ⟨(some 41), .arith .add .i64 (.tmp 40) (.const (.int .i64 1)), none⟩,
  ⟨(some 11), .mv (.tmp 41), none⟩])) .skip))) (.region false [⟨(some 27), .mv (.tmp 12), none⟩,
  ⟨(some 28), .arith .add .i64 (.tmp 27) (.const (.int .i64 1)), none⟩,
  ⟨(some 12), .mv (.tmp 28), none⟩])))))) (.seq (.seq (.region false [⟨(some 42), .mv (.tmp 11), none⟩,
  ⟨(some 43), .icmp .neq .i64 (.tmp 42) (.const (.int .i64 1)), none⟩,
  ⟨(some 44), .mv (.tmp 43), none⟩,
  ⟨(some 45), .mv (.tmp 8), (some (44, false))⟩,
  ⟨(some 46), .mv (.tmp 10), (some (44, false))⟩,
  ⟨(some 47), .neg .i64 (.tmp 46), (some (44, false))⟩,
  ⟨(some 48), .call 52 [(.tmp 45), (.tmp 47)] (.val (.one (.bool))), (some (44, false))⟩,
  ⟨(some 49), .not (.tmp 48), (some (44, false))⟩,
  ⟨(some 50), .pick (.tmp 44) (.const (.bool true)) (.tmp 49), none⟩]) (.cond (.tmp 50) (.seq (.region false [⟨(some 4), .mv (.const (.slice none 0 0)), none⟩,
  ⟨(some 5), .mv (.const (.bool false)), none⟩,
  ⟨(some 6), .mv (.const (.int .i64 0)), none⟩]) .ret) .skip)) (.seq (.region false [⟨(some 51), .mv (.tmp 8), none⟩,
  ⟨(some 52), .mv (.tmp 10), none⟩,
  ⟨(some 53), .neg .i64 (.tmp 52), none⟩,
  ⟨(some 54), .call 55 [(.tmp 51), (.tmp 53)] (.val (.one (.slice))), none⟩,
  ⟨(some 4), .mv (.tmp 54), none⟩,
  ⟨(some 5), .mv (.const (.bool true)), none⟩,
  ⟨(some 6), .mv (.const (.int .i64 0)), none⟩]) .ret)))))))
def loops29 : List (List (Nat × Shp)) := [[(10, .int .i64), (11, .int .i64), (12, .int .i64)]]
def ret29 : List RV := [.tmp 4, .tmp 5, .tmp 6]
theorem comp29 : compF Try.prog Try.f29 loops29 = some (55, ret29, code29) := by kernel_rfl
def J29_2  (P : Program) (A : (Option Addr)) (N : Nat) (A1 : (Option Addr)) (N1 : Nat) (C1 : Nat) (lack : Int) (many : Int) (i : Int) (next_ : (Int × Int × Int → Heap → Prop)) (h_3 : Heap) : Prop :=
 0 ≤ (i : Int) ∧ (i : Int) < (N : Nat) ∧ AtP A fun ad => ∃ (t1 : Int), cellH h_3 (Addr.add ad (Int.toNat i * 1)) = some (.int .i64 t1) ∧ CallsH P 52 #[(.slice A1 N1 C1), (.int .i64 t1)] h_3 fun v1 h_4 =>
 ∃ (t2 : Bool), v1 = (.bool t2) ∧ BIf (!t2) (0 ≤ (i : Int) ∧ (i : Int) < (N : Nat) ∧ AtP A fun ad1 => ∃ (t3 : Int), cellH h_4 (Addr.add ad1 (Int.toNat i * 1)) = some (.int .i64 t3) ∧ next_ (t3, (IntKind.wrap .i64 (many + 1)), (IntKind.wrap .i64 (i + 1))) h_4) (next_ (lack, many, (IntKind.wrap .i64 (i + 1))) h_4)
def J29_1  (P : Program) (R : Value → Heap → Prop) (A1 : (Option Addr)) (N1 : Nat) (C1 : Nat) (lack1 : Int) (many1 : Int) (h_5 : Heap) : Prop :=
 PIf ((many1 : Int) = 1)
 (CallsH P 52 #[(.slice A1 N1 C1), (.int .i64 (IntKind.wrap .i64 (0 - lack1)))] h_5 fun v2 h_6 =>
 ∃ (t4 : Bool), v2 = (.bool t4) ∧ BIf (!t4) (R (.tuple #[(.slice none 0 0), (.bool false), (.int .i64 0)]) h_6) (CallsH P 55 #[(.slice A1 N1 C1), (.int .i64 (IntKind.wrap .i64 (0 - lack1)))] h_6 fun v3 h_7 =>
 ∃ (A2 : Option Addr), ∃ (N2 : Nat), ∃ (C2 : Nat), v3 = (.slice A2 N2 C2) ∧ R (.tuple #[(.slice A2 N2 C2), (.bool true), (.int .i64 0)]) h_7))
 (R (.tuple #[(.slice none 0 0), (.bool false), (.int .i64 0)]) h_5)
def B29_3 (P : Program) (R : Value → Heap → Prop) (A : (Option Addr)) (N : Nat) (A1 : (Option Addr)) (N1 : Nat) (C1 : Nat) (lack : Int) (many : Int) (i : Int) (h_2 : Heap) (next_ : Int × Int × Int → Heap → Prop) : Prop :=
 PIf ((i : Int) < ((N : Nat) : Int))
 (J29_2 P A N A1 N1 C1 lack many i next_ h_2)
 (J29_1 P R A1 N1 C1 (lack) (many) h_2)
def J29_0  (P : Program) (R : Value → Heap → Prop) (h : Heap) (A : (Option Addr)) (N : Nat) (A1 : (Option Addr)) (N1 : Nat) (C1 : Nat) (h_1 : Heap) : Prop :=
 LoopT (σ := Int × Int × Int) (fun st h next => B29_3 P R A N A1 N1 C1 (st.1) (st.2.1) (st.2.2) h next) (0, 0, 0) h_1
def VC29 (P : Program) (aA : Option Addr) (aN : Nat) (aC : Nat) (bA : Option Addr) (bN : Nat) (bC : Nat) (R : Value → Heap → Prop) (h : Heap) : Prop :=
 CallsH P 51 #[(.slice aA aN aC), (.slice bA bN bC)] h fun v h_ =>
 ∃ (A : Option Addr), ∃ (N : Nat), ∃ (C : Nat), ∃ (A1 : Option Addr), ∃ (N1 : Nat), ∃ (C1 : Nat), ∃ (t : Int), v = (.tuple #[(.slice A N C), (.slice A1 N1 C1), (.int .i64 t)]) ∧ PIf ((t : Int) = 0)
 (J29_0 P R h A N A1 N1 C1 h_)
 (R (.tuple #[(.slice none 0 0), (.bool false), (.int .i64 t)]) h_)
theorem vc29 (P : Program) (aA : Option Addr) (aN : Nat) (aC : Nat) (bA : Option Addr) (bN : Nat) (bC : Nat) (R : Value → Heap → Prop) (h : Heap) : fnC P ret29 code29 [(.slice aA aN aC), (.slice bA bN bC)] h R = VC29 P aA aN aC bA bN bC R h := by kernel_rfl
theorem run29 (aA : Option Addr) (aN : Nat) (aC : Nat) (bA : Option Addr) (bN : Nat) (bC : Nat) (R : Value → Heap → Prop) (h : Heap) (hv : VC29 Try.prog aA aN aC bA bN bC R h) : CallsH Try.prog 29 #[(.slice aA aN aC), (.slice bA bN bC)] h R := calls_of_fnC (Checked.mixed Try.checked) Try.func29 comp29 (Nat.le_of_ble_eq_true rfl) (by rw [vc29]; exact hv)

/-! 30: trestle/trestlebook.LendInts -/
def code30 : SCode := (.seq (.region false [⟨(some 2), .mv (.const (.slice none 0 0)), none⟩]) (.seq (.region false [⟨(some 3), .mv (.tmp 0), none⟩,
  ⟨(some 4), .call 56 [(.tmp 3)] (.val (.one (.slice))), none⟩,
  ⟨(some 5), .lit 3 1 #[(.int .i64 0)] [(0, 1, (.const (.int .i64 (-77))))], none⟩,
  ⟨(some 6), .app 3 8 1 #[(.int .i64 0)] (.tmp 4) (.tmp 5), none⟩,
  ⟨(some 7), .mv (.tmp 0), none⟩,
  ⟨(some 8), .len (.tmp 7), none⟩,
  ⟨(some 9), .slc 1 (.tmp 6) none (some (.tmp 8)), none⟩,
  ⟨(some 2), .mv (.tmp 9), none⟩]) .ret))
def loops30 : List (List (Nat × Shp)) := []
def ret30 : List RV := [.tmp 2]
theorem comp30 : compF Try.prog Try.f30 loops30 = some (10, ret30, code30) := by kernel_rfl
def VC30 (P : Program) (lA : Option Addr) (lN : Nat) (lC : Nat) (R : Value → Heap → Prop) (h : Heap) : Prop :=
 CallsH P 56 #[(.slice lA lN lC)] h fun v h_ =>
 ∃ (A : Option Addr), ∃ (N : Nat), ∃ (C : Nat), v = (.slice A N C) ∧ let h_1 : Heap := (h_).push (.cells #[(.int .i64 (-77))] 3); ∃ ys : List Value, ReadL h_1 (some (Addr.mk (h_).size 0 none)) ys ∧ ys.length = 1 * 1 ∧ AppS h_1 A N C 3 8 1 #[(.int .i64 0)] ys 1 fun apA apN apC h_2 => 0 ≤ (0 : Int) ∧ (0 : Int) ≤ ((lN : Nat) : Int) ∧ (((lN : Nat) : Int) : Int) ≤ (apC : Nat) ∧ R (.slice (cutA 1 apA apC (Int.toNat 0)) (Int.toNat ((lN : Nat) : Int) - Int.toNat 0) (apC - Int.toNat 0)) h_2
theorem vc30 (P : Program) (lA : Option Addr) (lN : Nat) (lC : Nat) (R : Value → Heap → Prop) (h : Heap) : fnC P ret30 code30 [(.slice lA lN lC)] h R = VC30 P lA lN lC R h := by kernel_rfl
theorem run30 (lA : Option Addr) (lN : Nat) (lC : Nat) (R : Value → Heap → Prop) (h : Heap) (hv : VC30 Try.prog lA lN lC R h) : CallsH Try.prog 30 #[(.slice lA lN lC)] h R := calls_of_fnC (Checked.mixed Try.checked) Try.func30 comp30 (Nat.le_of_ble_eq_true rfl) (by rw [vc30]; exact hv)

/-! 31: trestle/lits.Rest -/
-- NOT TAKEN [] [(lits.go:126, mapUpdate), (lits.go:128, range), (lits.go:128, next), (lits.go:128, entry), (lits.go:129, lookup), (lits.go:139, lookup), (lits.go:142, lookup)]

/-! 32: trestle/trestleref01.Rest -/
def code32 : SCode := (.seq (.region false [⟨(some 4), .mv (.const (.slice none 0 0)), none⟩,
  ⟨(some 5), .mv (.const (.bool false)), none⟩,
  ⟨(some 6), .mv (.const (.int .i64 0)), none⟩]) (.seq (.region false [⟨(some 12), .mv (.tmp 0), none⟩,
  ⟨(some 13), .call 45 [(.tmp 12)] (.val (.one (.int .i64))), none⟩,
  ⟨(some 7), .mv (.tmp 13), none⟩]) (.seq (.seq (.region false [⟨(some 14), .mv (.tmp 7), none⟩,
  ⟨(some 15), .icmp .eql .i64 (.tmp 14) (.const (.int .i64 0)), none⟩]) (.cond (.tmp 15) (.region false [⟨(some 16), .mv (.tmp 1), none⟩,
  ⟨(some 17), .call 57 [(.tmp 16)] (.val (.one (.int .i64))), none⟩,
  ⟨(some 7), .mv (.tmp 17), none⟩]) .skip)) (.seq (.seq (.region false [⟨(some 18), .mv (.tmp 7), none⟩,
  ⟨(some 19), .icmp .neq .i64 (.tmp 18) (.const (.int .i64 0)), none⟩]) (.cond (.tmp 19) (.seq (.region false [⟨(some 20), .mv (.tmp 7), none⟩,
  ⟨(some 4), .mv (.const (.slice none 0 0)), none⟩,
  ⟨(some 5), .mv (.const (.bool false)), none⟩,
  ⟨(some 6), .mv (.tmp 20), none⟩]) .ret) .skip)) (.seq (.region false [⟨(some 22), .mv (.tmp 0), none⟩,
  ⟨(some 23), .call 46 [(.tmp 22)] (.tup [.one (.slice), .one (.bool)]), none⟩,
  ⟨(some 21), .mv (.tmp 23), none⟩,
  ⟨(some 24), .extr (.tmp 21) 0, none⟩,
  ⟨(some 25), .extr (.tmp 21) 1, none⟩,
  ⟨(some 8), .mv (.tmp 24), none⟩,
  ⟨(some 9), .mv (.tmp 25), none⟩]) (.seq (.seq (.region false [⟨(some 26), .mv (.tmp 9), none⟩,
  ⟨(some 27), .not (.tmp 26), none⟩]) (.cond (.tmp 27) (.seq (.region false [⟨(some 4), .mv (.const (.slice none 0 0)), none⟩,
  ⟨(some 5), .mv (.const (.bool false)), none⟩,
  ⟨(some 6), .mv (.const (.int .i64 10)), none⟩]) .ret) .skip)) (.seq (.region false [⟨(some 28), .lit 3 0 #[(.int .i64 0)] [], none⟩,
  ⟨(some 10), .mv (.tmp 28), none⟩]) (.seq (.seq (.region false [⟨(some 11), .mv (.const (.int .i64 0)), none⟩]) (.block 0 (.loop [(10, .slice), (11, .int .i64)] [29, 30, 31, 32, 35, 36, 37, 38, 39, 40, 4, 5, 6, 41, 42, 43, 44, 45, 46, 47, 48, 49, 50, 51, 52, 53, 54, 55, 10, 33, 34, 11] (.seq (.seq (.region false [⟨(some 29), .mv (.tmp 11), none⟩,
  ⟨(some 30), .mv (.tmp 8), none⟩,
  ⟨(some 31), .len (.tmp 30), none⟩,
  ⟨(some 32), .icmp .lss .i64 (.tmp 29) (.tmp 31), none⟩]) (.cond (.tmp 32) .skip (.exit 0))) (.seq (.block 1 (.seq (.seq (.region false [⟨(some 35), .mv (.tmp 1), none⟩,
  ⟨(some 36), .mv (.tmp 8), none⟩,
  ⟨(some 37), .mv (.tmp 11), none⟩,
  ⟨(some 38), .idxA 1 (.tmp 36) (.tmp 37), none⟩,
  ⟨(some 39), .ld (.int .i64) (.tmp 38), none⟩,
  ⟨(some 40), .call 52 [(.tmp 35), (.tmp 39)] (.val (.one (.bool))), none⟩]) (.cond (.tmp 40) (.seq (.region false [⟨(some 4), .mv (.const (.slice none 0 0)), none⟩,
  ⟨(some 5), .mv (.const (.bool true)), none⟩,
  ⟨(some 6), .mv (.const (.int .i64 0)), none⟩]) .ret) .skip)) (.seq (.region false [⟨(some 41), .mv (.tmp 1), none⟩,
  ⟨(some 42), .mv (.tmp 8), none⟩,
  ⟨(some 43), .mv (.tmp 11), none⟩,
  ⟨(some 44), .idxA 1 (.tmp 42) (.tmp 43), none⟩,
  ⟨(some 45), .ld (.int .i64) (.tmp 44), none⟩,
  ⟨(some 46), .neg .i64 (.tmp 45), none⟩,
  ⟨(some 47), .call 52 [(.tmp 41), (.tmp 46)] (.val (.one (.bool))), none⟩,
  ⟨(some 48), .not (.tmp 47), none⟩]) (.cond (.tmp 48) (.region false [⟨(some 49), .mv (.tmp 10), none⟩,
  ⟨(some 50), .mv (.tmp 8), none⟩,
  ⟨(some 51), .mv (.tmp 11), none⟩,
  ⟨(some 52), .idxA 1 (.tmp 50) (.tmp 51), none⟩,
  ⟨(some 53), .ld (.int .i64) (.tmp 52), none⟩,
  ⟨(some 54), .lit 3 1 #[(.int .i64 0)] [(0, 1, (.tmp 53))], none⟩,
  ⟨(some 55), .app 3 8 1 #[(.int .i64 0)] (.tmp 49) (.tmp 54), none⟩,
  ⟨(some 10), .mv (.tmp 55), none⟩]) .skip)))) (.region false [⟨(some 33), .mv (.tmp 11), none⟩,
  ⟨(some 34), .arith .add .i64 (.tmp 33) (.const (.int .i64 1)), none⟩,
  ⟨(some 11), .mv (.tmp 34), none⟩])))))) (.seq (.region false [⟨(some 56), .mv (.tmp 10), none⟩,
  ⟨(some 4), .mv (.tmp 56), none⟩,
  ⟨(some 5), .mv (.const (.bool false)), none⟩,
  ⟨(some 6), .mv (.const (.int .i64 0)), none⟩]) .ret)))))))))
def loops32 : List (List (Nat × Shp)) := [[(10, .slice), (11, .int .i64)]]
def ret32 : List RV := [.tmp 4, .tmp 5, .tmp 6]
theorem comp32 : compF Try.prog Try.f32 loops32 = some (57, ret32, code32) := by kernel_rfl
def J32_5  (P : Program) (assignedA : (Option Addr)) (assignedN : Nat) (assignedC : Nat) (A : (Option Addr)) (N : Nat) (outA : (Option Addr)) (outN : Nat) (outC : Nat) (i : Int) (next_ : ((Option Addr × Nat × Nat) × Int → Heap → Prop)) (h_10 : Heap) : Prop :=
 0 ≤ (i : Int) ∧ (i : Int) < (N : Nat) ∧ AtP A fun ad1 => ∃ (t5 : Int), cellH h_10 (Addr.add ad1 (Int.toNat i * 1)) = some (.int .i64 t5) ∧ CallsH P 52 #[(.slice assignedA assignedN assignedC), (.int .i64 (IntKind.wrap .i64 (0 - t5)))] h_10 fun v4 h_11 =>
 ∃ (t6 : Bool), v4 = (.bool t6) ∧ BIf (!t6) (0 ≤ (i : Int) ∧ (i : Int) < (N : Nat) ∧ AtP A fun ad2 => ∃ (t7 : Int), cellH h_11 (Addr.add ad2 (Int.toNat i * 1)) = some (.int .i64 t7) ∧ let h_12 : Heap := (h_11).push (.cells #[(.int .i64 t7)] 3); ∃ ys : List Value, ReadL h_12 (some (Addr.mk (h_11).size 0 none)) ys ∧ ys.length = 1 * 1 ∧ AppS h_12 outA outN outC 3 8 1 #[(.int .i64 0)] ys 1 fun apA apN apC h_13 => next_ ((apA, apN, apC), (IntKind.wrap .i64 (i + 1))) h_13) (next_ ((outA, outN, outC), (IntKind.wrap .i64 (i + 1))) h_11)
def J32_4  (P : Program) (R : Value → Heap → Prop) (assignedA : (Option Addr)) (assignedN : Nat) (assignedC : Nat) (A : (Option Addr)) (N : Nat) (outA : (Option Addr)) (outN : Nat) (outC : Nat) (i : Int) (next_ : ((Option Addr × Nat × Nat) × Int → Heap → Prop)) (h_8 : Heap) : Prop :=
 0 ≤ (i : Int) ∧ (i : Int) < (N : Nat) ∧ AtP A fun ad => ∃ (t3 : Int), cellH h_8 (Addr.add ad (Int.toNat i * 1)) = some (.int .i64 t3) ∧ CallsH P 52 #[(.slice assignedA assignedN assignedC), (.int .i64 t3)] h_8 fun v3 h_9 =>
 ∃ (t4 : Bool), v3 = (.bool t4) ∧ BIf t4 (R (.tuple #[(.slice none 0 0), (.bool true), (.int .i64 0)]) h_9) (J32_5 P assignedA assignedN assignedC A N outA outN outC i next_ h_9)
def J32_3  (R : Value → Heap → Prop) (outA1 : Option Addr) (outN1 : Nat) (outC1 : Nat) (h_14 : Heap) : Prop :=
 R (.tuple #[(.slice outA1 outN1 outC1), (.bool false), (.int .i64 0)]) h_14
def B32_6 (P : Program) (R : Value → Heap → Prop) (assignedA : (Option Addr)) (assignedN : Nat) (assignedC : Nat) (A : (Option Addr)) (N : Nat) (outA : Option Addr) (outN : Nat) (outC : Nat) (i : Int) (h_7 : Heap) (next_ : (Option Addr × Nat × Nat) × Int → Heap → Prop) : Prop :=
 PIf ((i : Int) < ((N : Nat) : Int))
 (J32_4 P R assignedA assignedN assignedC A N outA outN outC i next_ h_7)
 (J32_3 R (outA) (outN) (outC) h_7)
def J32_2  (P : Program) (R : Value → Heap → Prop) (h : Heap) (assignedA : (Option Addr)) (assignedN : Nat) (assignedC : Nat) (A : (Option Addr)) (N : Nat) (h_5 : Heap) : Prop :=
 let h_6 : Heap := (h_5).push (.cells #[] 3); LoopT (σ := (Option Addr × Nat × Nat) × Int) (fun st h next => B32_6 P R assignedA assignedN assignedC A N (st.1.1) (st.1.2.1) (st.1.2.2) (st.2) h next) (((some (Addr.mk (h_5).size 0 none)), 0, 0), 0) h_6
def J32_1  (P : Program) (R : Value → Heap → Prop) (h : Heap) (cA : (Option Addr)) (cN : Nat) (cC : Nat) (assignedA : (Option Addr)) (assignedN : Nat) (assignedC : Nat) (h_3 : Heap) : Prop :=
 CallsH P 46 #[(.slice cA cN cC)] h_3 fun v2 h_4 =>
 ∃ (A : Option Addr), ∃ (N : Nat), ∃ (C : Nat), ∃ (t2 : Bool), v2 = (.tuple #[(.slice A N C), (.bool t2)]) ∧ BIf (!t2) (R (.tuple #[(.slice none 0 0), (.bool false), (.int .i64 10)]) h_4) (J32_2 P R h assignedA assignedN assignedC A N h_4)
def J32_0  (P : Program) (R : Value → Heap → Prop) (h : Heap) (cA : (Option Addr)) (cN : Nat) (cC : Nat) (assignedA : (Option Addr)) (assignedN : Nat) (assignedC : Nat) (e : Int) (h_2 : Heap) : Prop :=
 PIf ((e : Int) = 0)
 (J32_1 P R h cA cN cC assignedA assignedN assignedC h_2)
 (R (.tuple #[(.slice none 0 0), (.bool false), (.int .i64 e)]) h_2)
def VC32 (P : Program) (cA : Option Addr) (cN : Nat) (cC : Nat) (assignedA : Option Addr) (assignedN : Nat) (assignedC : Nat) (R : Value → Heap → Prop) (h : Heap) : Prop :=
 CallsH P 45 #[(.slice cA cN cC)] h fun v h_ =>
 ∃ (t : Int), v = (.int .i64 t) ∧ PIf ((t : Int) = 0)
 (CallsH P 57 #[(.slice assignedA assignedN assignedC)] h_ fun v1 h_1 =>
 ∃ (t1 : Int), v1 = (.int .i64 t1) ∧ J32_0 P R h cA cN cC assignedA assignedN assignedC (t1) h_1)
 (J32_0 P R h cA cN cC assignedA assignedN assignedC (t) h_)
theorem vc32 (P : Program) (cA : Option Addr) (cN : Nat) (cC : Nat) (assignedA : Option Addr) (assignedN : Nat) (assignedC : Nat) (R : Value → Heap → Prop) (h : Heap) : fnC P ret32 code32 [(.slice cA cN cC), (.slice assignedA assignedN assignedC)] h R = VC32 P cA cN cC assignedA assignedN assignedC R h := by kernel_rfl
theorem run32 (cA : Option Addr) (cN : Nat) (cC : Nat) (assignedA : Option Addr) (assignedN : Nat) (assignedC : Nat) (R : Value → Heap → Prop) (h : Heap) (hv : VC32 Try.prog cA cN cC assignedA assignedN assignedC R h) : CallsH Try.prog 32 #[(.slice cA cN cC), (.slice assignedA assignedN assignedC)] h R := calls_of_fnC (Checked.mixed Try.checked) Try.func32 comp32 (Nat.le_of_ble_eq_true rfl) (by rw [vc32]; exact hv)

/-! 33: trestle/trestlelaw01.all -/
def code33 : SCode := (.seq (.region false [⟨(some 4), .mv (.const (.bool false)), none⟩]) (.seq (.region false [⟨(some 8), .mv (.tmp 0), none⟩,
  ⟨(some 9), .mv (.tmp 1), none⟩,
  ⟨(some 10), .call 20 [(.tmp 8), (.tmp 9)] (.tup [.one (.bool), .one (.int .i64)]), none⟩,
  ⟨(some 7), .mv (.tmp 10), none⟩,
  ⟨(some 11), .extr (.tmp 7) 0, none⟩,
  ⟨(some 12), .extr (.tmp 7) 1, none⟩,
  ⟨(some 5), .mv (.tmp 11), none⟩,
  ⟨(some 6), .mv (.tmp 12), none⟩]) (.seq (.region false [⟨(some 13), .mv (.tmp 6), none⟩,
  ⟨(some 14), .icmp .eql .i64 (.tmp 13) (.const (.int .i64 0)), none⟩,
  ⟨(some 4), .mv (.tmp 14), none⟩]) .ret)))
def loops33 : List (List (Nat × Shp)) := []
def ret33 : List RV := [.tmp 4]
theorem comp33 : compF Try.prog Try.f33 loops33 = some (15, ret33, code33) := by kernel_rfl
def VC33 (P : Program) (cA : Option Addr) (cN : Nat) (cC : Nat) (modelA : Option Addr) (modelN : Nat) (modelC : Nat) (R : Value → Heap → Prop) (h : Heap) : Prop :=
 CallsH P 20 #[(.slice cA cN cC), (.slice modelA modelN modelC)] h fun v h_ =>
 ∃ (t : Bool), ∃ (t1 : Int), v = (.tuple #[(.bool t), (.int .i64 t1)]) ∧ PIf ((t1 : Int) = 0)
 (R (.bool true) h_)
 (R (.bool false) h_)
theorem vc33 (P : Program) (cA : Option Addr) (cN : Nat) (cC : Nat) (modelA : Option Addr) (modelN : Nat) (modelC : Nat) (R : Value → Heap → Prop) (h : Heap) : fnC P ret33 code33 [(.slice cA cN cC), (.slice modelA modelN modelC)] h R = VC33 P cA cN cC modelA modelN modelC R h := by kernel_rfl
theorem run33 (cA : Option Addr) (cN : Nat) (cC : Nat) (modelA : Option Addr) (modelN : Nat) (modelC : Nat) (R : Value → Heap → Prop) (h : Heap) (hv : VC33 Try.prog cA cN cC modelA modelN modelC R h) : CallsH Try.prog 33 #[(.slice cA cN cC), (.slice modelA modelN modelC)] h R := calls_of_fnC (Checked.mixed Try.checked) Try.func33 comp33 (Nat.le_of_ble_eq_true rfl) (by rw [vc33]; exact hv)

/-! 34: trestle/trestlelaw01.value -/
def code34 : SCode := (.seq (.region false [⟨(some 4), .mv (.const (.bool false)), none⟩]) (.seq (.region false [⟨(some 8), .mv (.tmp 0), none⟩,
  ⟨(some 9), .mv (.tmp 1), none⟩,
  ⟨(some 10), .call 20 [(.tmp 8), (.tmp 9)] (.tup [.one (.bool), .one (.int .i64)]), none⟩,
  ⟨(some 7), .mv (.tmp 10), none⟩,
  ⟨(some 11), .extr (.tmp 7) 0, none⟩,
  ⟨(some 12), .extr (.tmp 7) 1, none⟩,
  ⟨(some 5), .mv (.tmp 11), none⟩,
  ⟨(some 6), .mv (.tmp 12), none⟩]) (.seq (.region false [⟨(some 13), .mv (.tmp 5), none⟩,
  ⟨(some 4), .mv (.tmp 13), none⟩]) .ret)))
def loops34 : List (List (Nat × Shp)) := []
def ret34 : List RV := [.tmp 4]
theorem comp34 : compF Try.prog Try.f34 loops34 = some (14, ret34, code34) := by kernel_rfl
def VC34 (P : Program) (cA : Option Addr) (cN : Nat) (cC : Nat) (modelA : Option Addr) (modelN : Nat) (modelC : Nat) (R : Value → Heap → Prop) (h : Heap) : Prop :=
 CallsH P 20 #[(.slice cA cN cC), (.slice modelA modelN modelC)] h fun v h_ =>
 ∃ (t : Bool), ∃ (t1 : Int), v = (.tuple #[(.bool t), (.int .i64 t1)]) ∧ R (.bool t) h_
theorem vc34 (P : Program) (cA : Option Addr) (cN : Nat) (cC : Nat) (modelA : Option Addr) (modelN : Nat) (modelC : Nat) (R : Value → Heap → Prop) (h : Heap) : fnC P ret34 code34 [(.slice cA cN cC), (.slice modelA modelN modelC)] h R = VC34 P cA cN cC modelA modelN modelC R h := by kernel_rfl
theorem run34 (cA : Option Addr) (cN : Nat) (cC : Nat) (modelA : Option Addr) (modelN : Nat) (modelC : Nat) (R : Value → Heap → Prop) (h : Heap) (hv : VC34 Try.prog cA cN cC modelA modelN modelC R h) : CallsH Try.prog 34 #[(.slice cA cN cC), (.slice modelA modelN modelC)] h R := calls_of_fnC (Checked.mixed Try.checked) Try.func34 comp34 (Nat.le_of_ble_eq_true rfl) (by rw [vc34]; exact hv)

/-! 35: trestle/lits.isCircuit -/
def code35 : SCode := (.seq (.region false [⟨(some 2), .mv (.const (.bool false)), none⟩]) (.seq (.region false [⟨(some 3), .mv (.tmp 0), none⟩,
  ⟨(some 4), .icmp .geq .i64 (.tmp 3) (.const (.int .i64 0)), none⟩,
  ⟨(some 5), .mv (.tmp 4), none⟩,
  ⟨(some 6), .mv (.tmp 0), (some (5, true))⟩,
  ⟨(some 7), .icmp .leq .i64 (.tmp 6) (.const (.int .i64 32769)), (some (5, true))⟩,
  ⟨(some 8), .pick (.tmp 5) (.tmp 7) (.const (.bool false)), none⟩,
  ⟨(some 2), .mv (.tmp 8), none⟩]) .ret))
def loops35 : List (List (Nat × Shp)) := []
def ret35 : List RV := [.tmp 2]
theorem comp35 : compF Try.prog Try.f35 loops35 = some (9, ret35, code35) := by kernel_rfl
def VC35 (P : Program) (l : Int) (R : Value → Heap → Prop) (h : Heap) : Prop :=
 PIf ((0 : Int) ≤ l)
 (PIf ((l : Int) ≤ 32769)
 (R (.bool true) h)
 (R (.bool false) h))
 (R (.bool false) h)
theorem vc35 (P : Program) (l : Int) (R : Value → Heap → Prop) (h : Heap) : fnC P ret35 code35 [(.int .i64 l)] h R = VC35 P l R h := by kernel_rfl
theorem run35 (l : Int) (R : Value → Heap → Prop) (h : Heap) (hv : VC35 Try.prog l R h) : CallsH Try.prog 35 #[(.int .i64 l)] h R := calls_of_fnC (Checked.mixed Try.checked) Try.func35 comp35 (Nat.le_of_ble_eq_true rfl) (by rw [vc35]; exact hv)

/-! 36: trestle/trestleref01.IsLit -/
def code36 : SCode := (.seq (.region false [⟨(some 2), .mv (.const (.bool false)), none⟩]) (.seq (.region false [⟨(some 3), .mv (.tmp 0), none⟩,
  ⟨(some 4), .icmp .geq .i64 (.tmp 3) (.const (.int .i64 0)), none⟩,
  ⟨(some 5), .mv (.tmp 4), none⟩,
  ⟨(some 6), .mv (.tmp 0), (some (5, true))⟩,
  ⟨(some 7), .icmp .leq .i64 (.tmp 6) (.const (.int .i64 32769)), (some (5, true))⟩,
  ⟨(some 8), .pick (.tmp 5) (.tmp 7) (.const (.bool false)), none⟩,
  ⟨(some 2), .mv (.tmp 8), none⟩]) .ret))
def loops36 : List (List (Nat × Shp)) := []
def ret36 : List RV := [.tmp 2]
theorem comp36 : compF Try.prog Try.f36 loops36 = some (9, ret36, code36) := by kernel_rfl
def VC36 (P : Program) (l : Int) (R : Value → Heap → Prop) (h : Heap) : Prop :=
 PIf ((0 : Int) ≤ l)
 (PIf ((l : Int) ≤ 32769)
 (R (.bool true) h)
 (R (.bool false) h))
 (R (.bool false) h)
theorem vc36 (P : Program) (l : Int) (R : Value → Heap → Prop) (h : Heap) : fnC P ret36 code36 [(.int .i64 l)] h R = VC36 P l R h := by kernel_rfl
theorem run36 (l : Int) (R : Value → Heap → Prop) (h : Heap) (hv : VC36 Try.prog l R h) : CallsH Try.prog 36 #[(.int .i64 l)] h R := calls_of_fnC (Checked.mixed Try.checked) Try.func36 comp36 (Nat.le_of_ble_eq_true rfl) (by rw [vc36]; exact hv)

/-! 37: trestle/trestleref01.Form -/
def code37 : SCode := (.seq (.region false [⟨(some 2), .mv (.const (.int .i64 0)), none⟩]) (.seq (.seq (.region false [⟨(some 3), .mv (.tmp 0), none⟩,
  ⟨(some 4), .divc .rem .i64 (.tmp 3) 2, none⟩,
  ⟨(some 5), .icmp .eql .i64 (.tmp 4) (.const (.int .i64 1)), none⟩]) (.cond (.tmp 5) (.seq (.region false [⟨(some 6), .mv (.tmp 0), none⟩,
  ⟨(some 7), .divc .quo .i64 (.tmp 6) 2, none⟩,
  ⟨(some 8), .arith .add .i64 (.tmp 7) (.const (.int .i64 1)), none⟩,
  ⟨(some 9), .neg .i64 (.tmp 8), none⟩,
  ⟨(some 2), .mv (.tmp 9), none⟩]) .ret) .skip)) (.seq (.region false [⟨(some 10), .mv (.tmp 0), none⟩,
  ⟨(some 11), .divc .quo .i64 (.tmp 10) 2, none⟩,
  ⟨(some 12), .arith .add .i64 (.tmp 11) (.const (.int .i64 1)), none⟩,
  ⟨(some 2), .mv (.tmp 12), none⟩]) .ret)))
def loops37 : List (List (Nat × Shp)) := []
def ret37 : List RV := [.tmp 2]
theorem comp37 : compF Try.prog Try.f37 loops37 = some (13, ret37, code37) := by kernel_rfl
def VC37 (P : Program) (l : Int) (R : Value → Heap → Prop) (h : Heap) : Prop :=
 PIf (((Int.tmod l 2) : Int) = 1)
 (R (.int .i64 (IntKind.wrap .i64 (0 - (IntKind.wrap .i64 ((IntKind.wrap .i64 (Int.tdiv l 2)) + 1))))) h)
 (R (.int .i64 (IntKind.wrap .i64 ((IntKind.wrap .i64 (Int.tdiv l 2)) + 1))) h)
theorem vc37 (P : Program) (l : Int) (R : Value → Heap → Prop) (h : Heap) : fnC P ret37 code37 [(.int .i64 l)] h R = VC37 P l R h := by kernel_rfl
theorem run37 (l : Int) (R : Value → Heap → Prop) (h : Heap) (hv : VC37 Try.prog l R h) : CallsH Try.prog 37 #[(.int .i64 l)] h R := calls_of_fnC (Checked.mixed Try.checked) Try.func37 comp37 (Nat.le_of_ble_eq_true rfl) (by rw [vc37]; exact hv)

/-! 38: trestle/lits.isFormula -/
def code38 : SCode := (.seq (.region false [⟨(some 2), .mv (.const (.bool false)), none⟩]) (.seq (.region false [⟨(some 3), .mv (.tmp 0), none⟩,
  ⟨(some 4), .icmp .neq .i64 (.tmp 3) (.const (.int .i64 0)), none⟩,
  ⟨(some 5), .mv (.tmp 4), none⟩,
  ⟨(some 6), .mv (.tmp 0), (some (5, true))⟩,
  ⟨(some 7), .icmp .geq .i64 (.tmp 6) (.const (.int .i64 (-262144))), (some (5, true))⟩,
  ⟨(some 8), .pick (.tmp 5) (.tmp 7) (.const (.bool false)), none⟩,
  ⟨(some 9), .mv (.tmp 8), none⟩,
  ⟨(some 10), .mv (.tmp 0), (some (9, true))⟩,
  ⟨(some 11), .icmp .leq .i64 (.tmp 10) (.const (.int .i64 262144)), (some (9, true))⟩,
  ⟨(some 12), .pick (.tmp 9) (.tmp 11) (.const (.bool false)), none⟩,
  ⟨(some 2), .mv (.tmp 12), none⟩]) .ret))
def loops38 : List (List (Nat × Shp)) := []
def ret38 : List RV := [.tmp 2]
theorem comp38 : compF Try.prog Try.f38 loops38 = some (13, ret38, code38) := by kernel_rfl
def VC38 (P : Program) (x : Int) (R : Value → Heap → Prop) (h : Heap) : Prop :=
 PIf ((x : Int) = 0)
 (R (.bool false) h)
 (PIf (((-262144) : Int) ≤ x)
 (PIf ((x : Int) ≤ 262144)
 (R (.bool true) h)
 (R (.bool false) h))
 (R (.bool false) h))
theorem vc38 (P : Program) (x : Int) (R : Value → Heap → Prop) (h : Heap) : fnC P ret38 code38 [(.int .i64 x)] h R = VC38 P x R h := by kernel_rfl
theorem run38 (x : Int) (R : Value → Heap → Prop) (h : Heap) (hv : VC38 Try.prog x R h) : CallsH Try.prog 38 #[(.int .i64 x)] h R := calls_of_fnC (Checked.mixed Try.checked) Try.func38 comp38 (Nat.le_of_ble_eq_true rfl) (by rw [vc38]; exact hv)

/-! 39: trestle/lits.variable -/
def code39 : SCode := (.seq (.region false [⟨(some 2), .mv (.const (.int .i64 0)), none⟩]) (.seq (.region false [⟨(some 3), .mv (.tmp 0), none⟩,
  ⟨(some 4), .mv (.tmp 0), none⟩,
  ⟨(some 5), .neg .i64 (.tmp 4), none⟩,
  ⟨(some 6), .mnx true .i64 (.tmp 3) [(.tmp 5)], none⟩,
  ⟨(some 2), .mv (.tmp 6), none⟩]) .ret))
def loops39 : List (List (Nat × Shp)) := []
def ret39 : List RV := [.tmp 2]
theorem comp39 : compF Try.prog Try.f39 loops39 = some (7, ret39, code39) := by kernel_rfl
def VC39 (P : Program) (x : Int) (R : Value → Heap → Prop) (h : Heap) : Prop :=
 R (.int .i64 (max (x : Int) (IntKind.wrap .i64 (0 - x)))) h
theorem vc39 (P : Program) (x : Int) (R : Value → Heap → Prop) (h : Heap) : fnC P ret39 code39 [(.int .i64 x)] h R = VC39 P x R h := by kernel_rfl
theorem run39 (x : Int) (R : Value → Heap → Prop) (h : Heap) (hv : VC39 Try.prog x R h) : CallsH Try.prog 39 #[(.int .i64 x)] h R := calls_of_fnC (Checked.mixed Try.checked) Try.func39 comp39 (Nat.le_of_ble_eq_true rfl) (by rw [vc39]; exact hv)

/-! 40: trestle/trestleref01.IsForm -/
def code40 : SCode := (.seq (.region false [⟨(some 2), .mv (.const (.bool false)), none⟩]) (.seq (.region false [⟨(some 3), .mv (.tmp 0), none⟩,
  ⟨(some 4), .icmp .neq .i64 (.tmp 3) (.const (.int .i64 0)), none⟩,
  ⟨(some 5), .mv (.tmp 4), none⟩,
  ⟨(some 6), .mv (.tmp 0), (some (5, true))⟩,
  ⟨(some 7), .icmp .geq .i64 (.tmp 6) (.const (.int .i64 (-262144))), (some (5, true))⟩,
  ⟨(some 8), .pick (.tmp 5) (.tmp 7) (.const (.bool false)), none⟩,
  ⟨(some 9), .mv (.tmp 8), none⟩,
  ⟨(some 10), .mv (.tmp 0), (some (9, true))⟩,
  ⟨(some 11), .icmp .leq .i64 (.tmp 10) (.const (.int .i64 262144)), (some (9, true))⟩,
  ⟨(some 12), .pick (.tmp 9) (.tmp 11) (.const (.bool false)), none⟩,
  ⟨(some 2), .mv (.tmp 12), none⟩]) .ret))
def loops40 : List (List (Nat × Shp)) := []
def ret40 : List RV := [.tmp 2]
theorem comp40 : compF Try.prog Try.f40 loops40 = some (13, ret40, code40) := by kernel_rfl
def VC40 (P : Program) (x : Int) (R : Value → Heap → Prop) (h : Heap) : Prop :=
 PIf ((x : Int) = 0)
 (R (.bool false) h)
 (PIf (((-262144) : Int) ≤ x)
 (PIf ((x : Int) ≤ 262144)
 (R (.bool true) h)
 (R (.bool false) h))
 (R (.bool false) h))
theorem vc40 (P : Program) (x : Int) (R : Value → Heap → Prop) (h : Heap) : fnC P ret40 code40 [(.int .i64 x)] h R = VC40 P x R h := by kernel_rfl
theorem run40 (x : Int) (R : Value → Heap → Prop) (h : Heap) (hv : VC40 Try.prog x R h) : CallsH Try.prog 40 #[(.int .i64 x)] h R := calls_of_fnC (Checked.mixed Try.checked) Try.func40 comp40 (Nat.le_of_ble_eq_true rfl) (by rw [vc40]; exact hv)

/-! 41: trestle/trestleref01.Abs -/
def code41 : SCode := (.seq (.region false [⟨(some 2), .mv (.const (.int .i64 0)), none⟩]) (.seq (.seq (.region false [⟨(some 3), .mv (.tmp 0), none⟩,
  ⟨(some 4), .icmp .lss .i64 (.tmp 3) (.const (.int .i64 0)), none⟩]) (.cond (.tmp 4) (.seq (.region false [⟨(some 5), .mv (.tmp 0), none⟩,
  ⟨(some 6), .neg .i64 (.tmp 5), none⟩,
  ⟨(some 2), .mv (.tmp 6), none⟩]) .ret) .skip)) (.seq (.region false [⟨(some 7), .mv (.tmp 0), none⟩,
  ⟨(some 2), .mv (.tmp 7), none⟩]) .ret)))
def loops41 : List (List (Nat × Shp)) := []
def ret41 : List RV := [.tmp 2]
theorem comp41 : compF Try.prog Try.f41 loops41 = some (8, ret41, code41) := by kernel_rfl
def VC41 (P : Program) (x : Int) (R : Value → Heap → Prop) (h : Heap) : Prop :=
 PIf ((x : Int) < 0)
 (R (.int .i64 (IntKind.wrap .i64 (0 - x))) h)
 (R (.int .i64 x) h)
theorem vc41 (P : Program) (x : Int) (R : Value → Heap → Prop) (h : Heap) : fnC P ret41 code41 [(.int .i64 x)] h R = VC41 P x R h := by kernel_rfl
theorem run41 (x : Int) (R : Value → Heap → Prop) (h : Heap) (hv : VC41 Try.prog x R h) : CallsH Try.prog 41 #[(.int .i64 x)] h R := calls_of_fnC (Checked.mixed Try.checked) Try.func41 comp41 (Nat.le_of_ble_eq_true rfl) (by rw [vc41]; exact hv)

/-! 42: trestle/lits.Resolve -/
def code42 : SCode := (.seq (.region false [⟨(some 6), .mv (.const (.slice none 0 0)), none⟩,
  ⟨(some 7), .mv (.const (.int .i64 0)), none⟩]) (.seq (.region false [⟨(some 17), .mv (.tmp 0), none⟩,
  ⟨(some 18), .mv (.tmp 1), none⟩,
  ⟨(some 19), .call 49 [(.tmp 17), (.tmp 18)] (.tup [.one (.slice), .one (.slice), .one (.int .i64)]), none⟩,
  ⟨(some 16), .mv (.tmp 19), none⟩,
  ⟨(some 20), .extr (.tmp 16) 0, none⟩,
  ⟨(some 21), .extr (.tmp 16) 1, none⟩,
  ⟨(some 22), .extr (.tmp 16) 2, none⟩,
  ⟨(some 8), .mv (.tmp 20), none⟩,
  ⟨(some 9), .mv (.tmp 21), none⟩,
  ⟨(some 10), .mv (.tmp 22), none⟩]) (.seq (.seq (.region false [⟨(some 23), .mv (.tmp 10), none⟩,
  ⟨(some 24), .icmp .neq .i64 (.tmp 23) (.const (.int .i64 0)), none⟩]) (.cond (.tmp 24) (.seq (.region false [⟨(some 25), .mv (.tmp 10), none⟩,
  ⟨(some 6), .mv (.const (.slice none 0 0)), none⟩,
  ⟨(some 7), .mv (.tmp 25), none⟩]) .ret) .skip)) (.seq (.seq (.region false [⟨(some 26), .mv (.tmp 2), none⟩,
  ⟨(some 27), .call 38 [(.tmp 26)] (.val (.one (.bool))), none⟩,
  ⟨(some 28), .not (.tmp 27), none⟩]) (.cond (.tmp 28) (.seq (.region false [⟨(some 6), .mv (.const (.slice none 0 0)), none⟩,
  ⟨(some 7), .mv (.const (.int .i64 1)), none⟩]) .ret) .skip)) (.seq (.region false [⟨(some 30), .mv (.tmp 8), none⟩,
  ⟨(some 31), .mv (.tmp 2), none⟩,
  ⟨(some 32), .call 53 [(.tmp 30), (.tmp 31)] (.tup [.one (.int .i64), .one (.bool)]), none⟩,
  ⟨(some 29), .mv (.tmp 32), none⟩,
  ⟨(some 33), .extr (.tmp 29) 0, none⟩,
  ⟨(some 34), .extr (.tmp 29) 1, none⟩,
  ⟨(some 11), .mv (.tmp 33), none⟩,
  ⟨(some 12), .mv (.tmp 34), none⟩]) (.seq (.region false [⟨(some 36), .mv (.tmp 9), none⟩,
  ⟨(some 37), .mv (.tmp 2), none⟩,
  ⟨(some 38), .neg .i64 (.tmp 37), none⟩,
  ⟨(some 39), .call 53 [(.tmp 36), (.tmp 38)] (.tup [.one (.int .i64), .one (.bool)]), none⟩,
  ⟨(some 35), .mv (.tmp 39), none⟩,
  ⟨(some 40), .extr (.tmp 35) 0, none⟩,
  ⟨(some 41), .extr (.tmp 35) 1, none⟩,
  ⟨(some 13), .mv (.tmp 40), none⟩,
  ⟨(some 14), .mv (.tmp 41), none⟩]) (.seq (.seq (.region false [⟨(some 42), .mv (.tmp 12), none⟩,
  ⟨(some 43), .not (.tmp 42), none⟩,
  ⟨(some 44), .mv (.tmp 43), none⟩,
  ⟨(some 45), .mv (.tmp 14), (some (44, false))⟩,
  ⟨(some 46), .not (.tmp 45), (some (44, false))⟩,
  ⟨(some 47), .pick (.tmp 44) (.const (.bool true)) (.tmp 46), none⟩]) (.cond (.tmp 47) (.seq (.region false [⟨(some 6), .mv (.const (.slice none 0 0)), none⟩,
  ⟨(some 7), .mv (.const (.int .i64 11)), none⟩]) .ret) .skip)) (.seq (.region false [⟨(some 49), .mv (.tmp 8), none⟩,
  ⟨(some 50), .mv (.tmp 2), none⟩,
  ⟨(some 51), .call 54 [(.tmp 49), (.tmp 50)] (.val (.one (.slice))), none⟩,
  ⟨(some 52), .mv (.tmp 9), none⟩,
  ⟨(some 53), .mv (.tmp 2), none⟩,
  ⟨(some 54), .neg .i64 (.tmp 53), none⟩,
  ⟨(some 55), .call 54 [(.tmp 52), (.tmp 54)] (.val (.one (.slice))), none⟩,
  ⟨(some 56), .lit 28 2 #[(.slice none 0 0)] [(0, 1, (.tmp 51)), (1, 1, (.tmp 55))], none⟩,
  ⟨(some 57), .call 58 [(.tmp 56)] (.val (.one (.slice))), none⟩,
  ⟨(some 58), .call 44 [(.tmp 57)] (.tup [.one (.slice), .one (.bool)]), none⟩,
  ⟨(some 48), .mv (.tmp 58), none⟩,
  ⟨(some 59), .extr (.tmp 48) 0, none⟩,
  ⟨(some 60), .extr (.tmp 48) 1, none⟩,
  ⟨(some 15), .mv (.tmp 59), none⟩,
  ⟨(some 12), .mv (.tmp 60), none⟩]) (.seq (.seq (.region false [⟨(some 61), .mv (.tmp 12), none⟩,
  ⟨(some 62), .not (.tmp 61), none⟩]) (.cond (.tmp 62) (.seq (.region false [⟨(some 6), .mv (.const (.slice none 0 0)), none⟩,
  ⟨(some 7), .mv (.const (.int .i64 10)), none⟩]) .ret) .skip)) (.seq (.region false [⟨(some 63), .mv (.tmp 15), none⟩,
  ⟨(some 6), .mv (.tmp 63), none⟩,
  ⟨(some 7), .mv (.const (.int .i64 0)), none⟩]) .ret))))))))))
def loops42 : List (List (Nat × Shp)) := []
def ret42 : List RV := [.tmp 6, .tmp 7]
theorem comp42 : compF Try.prog Try.f42 loops42 = some (64, ret42, code42) := by kernel_rfl
def J42_2  (P : Program) (R : Value → Heap → Prop) (pivot : Int) (A : (Option Addr)) (N : Nat) (C : Nat) (A1 : (Option Addr)) (N1 : Nat) (C1 : Nat) (h_6 : Heap) : Prop :=
 CallsH P 54 #[(.slice A N C), (.int .i64 pivot)] h_6 fun v4 h_7 =>
 ∃ (A2 : Option Addr), ∃ (N2 : Nat), ∃ (C2 : Nat), v4 = (.slice A2 N2 C2) ∧ CallsH P 54 #[(.slice A1 N1 C1), (.int .i64 (IntKind.wrap .i64 (0 - pivot)))] h_7 fun v5 h_8 =>
 ∃ (A3 : Option Addr), ∃ (N3 : Nat), ∃ (C3 : Nat), v5 = (.slice A3 N3 C3) ∧ let h_9 : Heap := (h_8).push (.cells #[(.slice A2 N2 C2), (.slice A3 N3 C3)] 28); CallsH P 58 #[(.slice (some (Addr.mk (h_8).size 0 none)) 2 2)] h_9 fun v6 h_10 =>
 ∃ (A4 : Option Addr), ∃ (N4 : Nat), ∃ (C4 : Nat), v6 = (.slice A4 N4 C4) ∧ CallsH P 44 #[(.slice A4 N4 C4)] h_10 fun v7 h_11 =>
 ∃ (A5 : Option Addr), ∃ (N5 : Nat), ∃ (C5 : Nat), ∃ (t6 : Bool), v7 = (.tuple #[(.slice A5 N5 C5), (.bool t6)]) ∧ BIf (!t6) (R (.tuple #[(.slice none 0 0), (.int .i64 10)]) h_11) (R (.tuple #[(.slice A5 N5 C5), (.int .i64 0)]) h_11)
def J42_1  (P : Program) (R : Value → Heap → Prop) (pivot : Int) (A : (Option Addr)) (N : Nat) (C : Nat) (A1 : (Option Addr)) (N1 : Nat) (C1 : Nat) (h_3 : Heap) : Prop :=
 CallsH P 53 #[(.slice A N C), (.int .i64 pivot)] h_3 fun v2 h_4 =>
 ∃ (t2 : Int), ∃ (t3 : Bool), v2 = (.tuple #[(.int .i64 t2), (.bool t3)]) ∧ CallsH P 53 #[(.slice A1 N1 C1), (.int .i64 (IntKind.wrap .i64 (0 - pivot)))] h_4 fun v3 h_5 =>
 ∃ (t4 : Int), ∃ (t5 : Bool), v3 = (.tuple #[(.int .i64 t4), (.bool t5)]) ∧ BIf (!t3) (R (.tuple #[(.slice none 0 0), (.int .i64 11)]) h_5) (BIf (!t5) (R (.tuple #[(.slice none 0 0), (.int .i64 11)]) h_5) (J42_2 P R pivot A N C A1 N1 C1 h_5))
def J42_0  (P : Program) (R : Value → Heap → Prop) (pivot : Int) (A : (Option Addr)) (N : Nat) (C : Nat) (A1 : (Option Addr)) (N1 : Nat) (C1 : Nat) (h_1 : Heap) : Prop :=
 CallsH P 38 #[(.int .i64 pivot)] h_1 fun v1 h_2 =>
 ∃ (t1 : Bool), v1 = (.bool t1) ∧ BIf (!t1) (R (.tuple #[(.slice none 0 0), (.int .i64 1)]) h_2) (J42_1 P R pivot A N C A1 N1 C1 h_2)
def VC42 (P : Program) (aA : Option Addr) (aN : Nat) (aC : Nat) (bA : Option Addr) (bN : Nat) (bC : Nat) (pivot : Int) (R : Value → Heap → Prop) (h : Heap) : Prop :=
 CallsH P 49 #[(.slice aA aN aC), (.slice bA bN bC)] h fun v h_ =>
 ∃ (A : Option Addr), ∃ (N : Nat), ∃ (C : Nat), ∃ (A1 : Option Addr), ∃ (N1 : Nat), ∃ (C1 : Nat), ∃ (t : Int), v = (.tuple #[(.slice A N C), (.slice A1 N1 C1), (.int .i64 t)]) ∧ PIf ((t : Int) = 0)
 (J42_0 P R pivot A N C A1 N1 C1 h_)
 (R (.tuple #[(.slice none 0 0), (.int .i64 t)]) h_)
theorem vc42 (P : Program) (aA : Option Addr) (aN : Nat) (aC : Nat) (bA : Option Addr) (bN : Nat) (bC : Nat) (pivot : Int) (R : Value → Heap → Prop) (h : Heap) : fnC P ret42 code42 [(.slice aA aN aC), (.slice bA bN bC), (.int .i64 pivot)] h R = VC42 P aA aN aC bA bN bC pivot R h := by kernel_rfl
theorem run42 (aA : Option Addr) (aN : Nat) (aC : Nat) (bA : Option Addr) (bN : Nat) (bC : Nat) (pivot : Int) (R : Value → Heap → Prop) (h : Heap) (hv : VC42 Try.prog aA aN aC bA bN bC pivot R h) : CallsH Try.prog 42 #[(.slice aA aN aC), (.slice bA bN bC), (.int .i64 pivot)] h R := calls_of_fnC (Checked.mixed Try.checked) Try.func42 comp42 (Nat.le_of_ble_eq_true rfl) (by rw [vc42]; exact hv)

/-! 43: trestle/lits.check -/
def code43 : SCode := (.seq (.region false [⟨(some 2), .mv (.const (.int .i64 0)), none⟩]) (.seq (.seq (.region false [⟨(some 5), .mv (.tmp 0), none⟩,
  ⟨(some 6), .len (.tmp 5), none⟩,
  ⟨(some 7), .icmp .gtr .i64 (.tmp 6) (.const (.int .i64 16384)), none⟩]) (.cond (.tmp 7) (.seq (.region false [⟨(some 2), .mv (.const (.int .i64 2)), none⟩]) .ret) .skip)) (.seq (.seq (.region false [⟨(some 8), .mv (.tmp 0), none⟩,
  ⟨(some 9), .len (.tmp 8), none⟩,
  ⟨(some 10), .mv (.const (.int .i64 0)), none⟩]) (.block 0 (.loop [(10, .int .i64)] [11, 12, 13, 4, 14, 15, 16, 2, 17, 10] (.seq (.region false [⟨(some 11), .icmp .lss .i64 (.tmp 10) (.tmp 9), none⟩]) (.seq (.cond (.tmp 11) .skip (.exit 0)) (.seq (.block 1 (.seq (.region false [⟨(some 12), .idxA 1 (.tmp 8) (.tmp 10), none⟩,
  ⟨(some 13), .ld (.int .i64) (.tmp 12), none⟩,
  ⟨(some 4), .mv (.tmp 13), none⟩]) (.seq (.region false [⟨(some 14), .mv (.tmp 4), none⟩,
  ⟨(some 15), .call 38 [(.tmp 14)] (.val (.one (.bool))), none⟩,
  ⟨(some 16), .not (.tmp 15), none⟩]) (.cond (.tmp 16) (.seq (.region false [⟨(some 2), .mv (.const (.int .i64 1)), none⟩]) .ret) .skip)))) (.region false [⟨(some 17), .arith .add .i64 (.tmp 10) (.const (.int .i64 1)), none⟩,
  ⟨(some 10), .mv (.tmp 17), none⟩]))))))) (.seq (.region false [⟨(some 2), .mv (.const (.int .i64 0)), none⟩]) .ret))))
def loops43 : List (List (Nat × Shp)) := [[(10, .int .i64)]]
def ret43 : List RV := [.tmp 2]
theorem comp43 : compF Try.prog Try.f43 loops43 = some (18, ret43, code43) := by kernel_rfl
def J43_2  (P : Program) (R : Value → Heap → Prop) (cA : (Option Addr)) (cN : Nat) (t : Int) (next_ : (Int → Heap → Prop)) (h_2 : Heap) : Prop :=
 0 ≤ (t : Int) ∧ (t : Int) < (cN : Nat) ∧ AtP cA fun ad => ∃ (t1 : Int), cellH h_2 (Addr.add ad (Int.toNat t * 1)) = some (.int .i64 t1) ∧ CallsH P 38 #[(.int .i64 t1)] h_2 fun v h_3 =>
 ∃ (t2 : Bool), v = (.bool t2) ∧ BIf (!t2) (R (.int .i64 1) h_3) (next_ ((IntKind.wrap .i64 (t + 1))) h_3)
def J43_1  (R : Value → Heap → Prop) (h_4 : Heap) : Prop :=
 R (.int .i64 0) h_4
def B43_4 (P : Program) (R : Value → Heap → Prop) (cA : (Option Addr)) (cN : Nat) (t : Int) (h_1 : Heap) (next_ : Int → Heap → Prop) : Prop :=
 PIf ((t : Int) < ((cN : Nat) : Int))
 (J43_2 P R cA cN t next_ h_1)
 (J43_1 R h_1)
def J43_0  (P : Program) (R : Value → Heap → Prop) (h : Heap) (cA : (Option Addr)) (cN : Nat) (h_ : Heap) : Prop :=
 LoopT (σ := Int) (fun st h next => B43_4 P R cA cN (st) h next) (0) h_
def VC43 (P : Program) (cA : Option Addr) (cN : Nat) (cC : Nat) (R : Value → Heap → Prop) (h : Heap) : Prop :=
 PIf ((16384 : Int) < ((cN : Nat) : Int))
 (R (.int .i64 2) h)
 (J43_0 P R h cA cN h)
theorem vc43 (P : Program) (cA : Option Addr) (cN : Nat) (cC : Nat) (R : Value → Heap → Prop) (h : Heap) : fnC P ret43 code43 [(.slice cA cN cC)] h R = VC43 P cA cN cC R h := by kernel_rfl
theorem run43 (cA : Option Addr) (cN : Nat) (cC : Nat) (R : Value → Heap → Prop) (h : Heap) (hv : VC43 Try.prog cA cN cC R h) : CallsH Try.prog 43 #[(.slice cA cN cC)] h R := calls_of_fnC (Checked.mixed Try.checked) Try.func43 comp43 (Nat.le_of_ble_eq_true rfl) (by rw [vc43]; exact hv)

/-! 44: trestle/lits.normal -/
def code44 : SCode := (.seq (.region false [⟨(some 2), .mv (.const (.slice none 0 0)), none⟩,
  ⟨(some 3), .mv (.const (.bool false)), none⟩]) (.seq (.region false [⟨(some 6), .mv (.tmp 0), none⟩,
  ⟨(some 7), .len (.tmp 6), none⟩,
  ⟨(some 8), .mkS 3 8 1 #[(.int .i64 0)] (.tmp 7) (.tmp 7), none⟩,
  ⟨(some 4), .mv (.tmp 8), none⟩]) (.seq (.region false [⟨(some 9), .mv (.tmp 4), none⟩,
  ⟨(some 10), .mv (.tmp 0), none⟩,
  ⟨(some 11), .cpy 1 (.tmp 9) (.tmp 10), none⟩]) (.seq (.region false [⟨(some 12), .mv (.tmp 4), none⟩,
  ⟨(some 13), .call 59 [(.tmp 12), (.func 60)] (.tup []), none⟩]) (.seq (.region false [⟨(some 14), .mv (.tmp 4), none⟩,
  ⟨(some 15), .call 61 [(.tmp 14)] (.val (.one (.slice))), none⟩,
  ⟨(some 4), .mv (.tmp 15), none⟩]) (.seq (.seq (.region false [⟨(some 16), .mv (.tmp 4), none⟩,
  ⟨(some 17), .len (.tmp 16), none⟩,
  ⟨(some 18), .arith .sub .i64 (.tmp 17) (.const (.int .i64 1)), none⟩,
  ⟨(some 19), .mv (.const (.int .i64 0)), none⟩]) (.block 0 (.loop [(19, .int .i64)] [20, 21, 5, 22, 23, 24, 25, 26, 27, 28, 29, 30, 31, 32, 2, 3, 33, 19] (.seq (.region false [⟨(some 20), .icmp .lss .i64 (.tmp 19) (.tmp 18), none⟩]) (.seq (.cond (.tmp 20) .skip (.exit 0)) (.seq (.block 1 (.seq (.region false [⟨(some 21), .mv (.tmp 19), none⟩,
  ⟨(some 5), .mv (.tmp 21), none⟩]) (.seq (.region false [⟨(some 22), .mv (.tmp 4), none⟩,
  ⟨(some 23), .mv (.tmp 5), none⟩,
  ⟨(some 24), .idxA 1 (.tmp 22) (.tmp 23), none⟩,
  ⟨(some 25), .ld (.int .i64) (.tmp 24), none⟩,
  ⟨(some 26), .mv (.tmp 4), none⟩,
  ⟨(some 27), .mv (.tmp 5), none⟩,
  ⟨(some 28), .arith .add .i64 (.tmp 27) (.const (.int .i64 1)), none⟩,
  ⟨(some 29), .idxA 1 (.tmp 26) (.tmp 28), none⟩,
  ⟨(some 30), .ld (.int .i64) (.tmp 29), none⟩,
  ⟨(some 31), .neg .i64 (.tmp 30), none⟩,
  ⟨(some 32), .icmp .eql .i64 (.tmp 25) (.tmp 31), none⟩]) (.cond (.tmp 32) (.seq (.region false [⟨(some 2), .mv (.const (.slice none 0 0)), none⟩,
  ⟨(some 3), .mv (.const (.bool false)), none⟩]) .ret) .skip)))) (.region false [⟨(some 33), .arith .add .i64 (.tmp 19) (.const (.int .i64 1)), none⟩,
  ⟨(some 19), .mv (.tmp 33), none⟩]))))))) (.seq (.region false [⟨(some 34), .mv (.tmp 4), none⟩,
  ⟨(some 35), .call 62 [(.tmp 34)] (.val (.one (.slice))), none⟩,
  ⟨(some 2), .mv (.tmp 35), none⟩,
  ⟨(some 3), .mv (.const (.bool true)), none⟩]) .ret)))))))
def loops44 : List (List (Nat × Shp)) := [[(19, .int .i64)]]
def ret44 : List RV := [.tmp 2, .tmp 3]
theorem comp44 : compF Try.prog Try.f44 loops44 = some (36, ret44, code44) := by kernel_rfl
def J44_1  (R : Value → Heap → Prop) (A : (Option Addr)) (N : Nat) (t : Int) (next_ : (Int → Heap → Prop)) (h_5 : Heap) : Prop :=
 0 ≤ (t : Int) ∧ (t : Int) < (N : Nat) ∧ AtP A fun ad => ∃ (t1 : Int), cellH h_5 (Addr.add ad (Int.toNat t * 1)) = some (.int .i64 t1) ∧ 0 ≤ ((IntKind.wrap .i64 (t + 1)) : Int) ∧ ((IntKind.wrap .i64 (t + 1)) : Int) < (N : Nat) ∧ AtP A fun ad1 => ∃ (t2 : Int), cellH h_5 (Addr.add ad1 (Int.toNat (IntKind.wrap .i64 (t + 1)) * 1)) = some (.int .i64 t2) ∧ PIf ((t1 : Int) = (IntKind.wrap .i64 (0 - t2)))
 (R (.tuple #[(.slice none 0 0), (.bool false)]) h_5)
 (next_ ((IntKind.wrap .i64 (t + 1))) h_5)
def J44_0  (P : Program) (R : Value → Heap → Prop) (A : (Option Addr)) (N : Nat) (C : Nat) (h_6 : Heap) : Prop :=
 CallsH P 62 #[(.slice A N C)] h_6 fun v2 h_7 =>
 ∃ (A1 : Option Addr), ∃ (N1 : Nat), ∃ (C1 : Nat), v2 = (.slice A1 N1 C1) ∧ R (.tuple #[(.slice A1 N1 C1), (.bool true)]) h_7
def B44_3 (P : Program) (R : Value → Heap → Prop) (A : (Option Addr)) (N : Nat) (C : Nat) (t : Int) (h_4 : Heap) (next_ : Int → Heap → Prop) : Prop :=
 PIf ((t : Int) < (IntKind.wrap .i64 (((N : Nat) : Int) - 1)))
 (J44_1 R A N t next_ h_4)
 (J44_0 P R A N C h_4)
def VC44 (P : Program) (cA : Option Addr) (cN : Nat) (cC : Nat) (R : Value → Heap → Prop) (h : Heap) : Prop :=
 0 ≤ (((cN : Nat) : Int) : Int) ∧ (((cN : Nat) : Int) : Int) ≤ ((cN : Nat) : Int) ∧ (8 : Int) * ((cN : Nat) : Int) ≤ 281474976710656 ∧ let h_ : Heap := (h).push (.cells (zeroRow #[(.int .i64 0)] (Int.toNat ((cN : Nat) : Int) * 1)).toArray 3); ∃ ys : List Value, ReadL h_ cA ys ∧ ys.length = (min cN (Int.toNat ((cN : Nat) : Int))) * 1 ∧ StoreH h_ (Addr.mk (h).size 0 none) ys fun h_1 => CallsH P 59 #[(.slice (some (Addr.mk (h).size 0 none)) (Int.toNat ((cN : Nat) : Int)) (Int.toNat ((cN : Nat) : Int))), (.func (.func 60) #[] #[])] h_1 fun v h_2 =>
 v = (.tuple #[]) ∧ CallsH P 61 #[(.slice (some (Addr.mk (h).size 0 none)) (Int.toNat ((cN : Nat) : Int)) (Int.toNat ((cN : Nat) : Int)))] h_2 fun v1 h_3 =>
 ∃ (A : Option Addr), ∃ (N : Nat), ∃ (C : Nat), v1 = (.slice A N C) ∧ LoopT (σ := Int) (fun st h next => B44_3 P R A N C (st) h next) (0) h_3
theorem vc44 (P : Program) (cA : Option Addr) (cN : Nat) (cC : Nat) (R : Value → Heap → Prop) (h : Heap) : fnC P ret44 code44 [(.slice cA cN cC)] h R = VC44 P cA cN cC R h := by kernel_rfl
theorem run44 (cA : Option Addr) (cN : Nat) (cC : Nat) (R : Value → Heap → Prop) (h : Heap) (hv : VC44 Try.prog cA cN cC R h) : CallsH Try.prog 44 #[(.slice cA cN cC)] h R := calls_of_fnC (Checked.mixed Try.checked) Try.func44 comp44 (Nat.le_of_ble_eq_true rfl) (by rw [vc44]; exact hv)

/-! 45: trestle/trestleref01.Wrong -/
def code45 : SCode := (.seq (.region false [⟨(some 2), .mv (.const (.int .i64 0)), none⟩]) (.seq (.seq (.region false [⟨(some 4), .mv (.tmp 0), none⟩,
  ⟨(some 5), .len (.tmp 4), none⟩,
  ⟨(some 6), .icmp .gtr .i64 (.tmp 5) (.const (.int .i64 16384)), none⟩]) (.cond (.tmp 6) (.seq (.region false [⟨(some 2), .mv (.const (.int .i64 2)), none⟩]) .ret) .skip)) (.seq (.seq (.region false [⟨(some 3), .mv (.const (.int .i64 0)), none⟩]) (.block 0 (.loop [(3, .int .i64)] [7, 8, 9, 10, 13, 14, 15, 16, 17, 18, 2, 11, 12, 3] (.seq (.seq (.region false [⟨(some 7), .mv (.tmp 3), none⟩,
  ⟨(some 8), .mv (.tmp 0), none⟩,
  ⟨(some 9), .len (.tmp 8), none⟩,
  ⟨(some 10), .icmp .lss .i64 (.tmp 7) (.tmp 9), none⟩]) (.cond (.tmp 10) .skip (.exit 0))) (.seq (.block 1 (.seq (.region false [⟨(some 13), .mv (.tmp 0), none⟩,
  ⟨(some 14), .mv (.tmp 3), none⟩,
  ⟨(some 15), .idxA 1 (.tmp 13) (.tmp 14), none⟩,
  ⟨(some 16), .ld (.int .i64) (.tmp 15), none⟩,
  ⟨(some 17), .call 40 [(.tmp 16)] (.val (.one (.bool))), none⟩,
  ⟨(some 18), .not (.tmp 17), none⟩]) (.cond (.tmp 18) (.seq (.region false [⟨(some 2), .mv (.const (.int .i64 1)), none⟩]) .ret) .skip))) (.region false [⟨(some 11), .mv (.tmp 3), none⟩,
  ⟨(some 12), .arith .add .i64 (.tmp 11) (.const (.int .i64 1)), none⟩,
  ⟨(some 3), .mv (.tmp 12), none⟩])))))) (.seq (.region false [⟨(some 2), .mv (.const (.int .i64 0)), none⟩]) .ret))))
def loops45 : List (List (Nat × Shp)) := [[(3, .int .i64)]]
def ret45 : List RV := [.tmp 2]
theorem comp45 : compF Try.prog Try.f45 loops45 = some (19, ret45, code45) := by kernel_rfl
def J45_2  (P : Program) (R : Value → Heap → Prop) (cA : (Option Addr)) (cN : Nat) (i : Int) (next_ : (Int → Heap → Prop)) (h_2 : Heap) : Prop :=
 0 ≤ (i : Int) ∧ (i : Int) < (cN : Nat) ∧ AtP cA fun ad => ∃ (t : Int), cellH h_2 (Addr.add ad (Int.toNat i * 1)) = some (.int .i64 t) ∧ CallsH P 40 #[(.int .i64 t)] h_2 fun v h_3 =>
 ∃ (t1 : Bool), v = (.bool t1) ∧ BIf (!t1) (R (.int .i64 1) h_3) (next_ ((IntKind.wrap .i64 (i + 1))) h_3)
def J45_1  (R : Value → Heap → Prop) (h_4 : Heap) : Prop :=
 R (.int .i64 0) h_4
def B45_3 (P : Program) (R : Value → Heap → Prop) (cA : (Option Addr)) (cN : Nat) (i : Int) (h_1 : Heap) (next_ : Int → Heap → Prop) : Prop :=
 PIf ((i : Int) < ((cN : Nat) : Int))
 (J45_2 P R cA cN i next_ h_1)
 (J45_1 R h_1)
def J45_0  (P : Program) (R : Value → Heap → Prop) (h : Heap) (cA : (Option Addr)) (cN : Nat) (h_ : Heap) : Prop :=
 LoopT (σ := Int) (fun st h next => B45_3 P R cA cN (st) h next) (0) h_
def VC45 (P : Program) (cA : Option Addr) (cN : Nat) (cC : Nat) (R : Value → Heap → Prop) (h : Heap) : Prop :=
 PIf ((16384 : Int) < ((cN : Nat) : Int))
 (R (.int .i64 2) h)
 (J45_0 P R h cA cN h)
theorem vc45 (P : Program) (cA : Option Addr) (cN : Nat) (cC : Nat) (R : Value → Heap → Prop) (h : Heap) : fnC P ret45 code45 [(.slice cA cN cC)] h R = VC45 P cA cN cC R h := by kernel_rfl
theorem run45 (cA : Option Addr) (cN : Nat) (cC : Nat) (R : Value → Heap → Prop) (h : Heap) (hv : VC45 Try.prog cA cN cC R h) : CallsH Try.prog 45 #[(.slice cA cN cC)] h R := calls_of_fnC (Checked.mixed Try.checked) Try.func45 comp45 (Nat.le_of_ble_eq_true rfl) (by rw [vc45]; exact hv)

/-! 46: trestle/trestleref01.Form0 -/
def code46 : SCode := (.seq (.region false [⟨(some 2), .mv (.const (.slice none 0 0)), none⟩,
  ⟨(some 3), .mv (.const (.bool false)), none⟩]) (.seq (.region false [⟨(some 8), .lit 3 0 #[(.int .i64 0)] [], none⟩,
  ⟨(some 4), .mv (.tmp 8), none⟩]) (.seq (.seq (.region false [⟨(some 5), .mv (.const (.int .i64 0)), none⟩]) (.block 0 (.loop [(4, .slice), (5, .int .i64)] [9, 10, 11, 12, 16, 17, 18, 19, 20, 21, 15, 22, 23, 6, 7, 24, 25, 2, 3, 26, 4, 13, 14, 5] (.seq (.seq (.region false [⟨(some 9), .mv (.tmp 5), none⟩,
  ⟨(some 10), .mv (.tmp 0), none⟩,
  ⟨(some 11), .len (.tmp 10), none⟩,
  ⟨(some 12), .icmp .lss .i64 (.tmp 9) (.tmp 11), none⟩]) (.cond (.tmp 12) .skip (.exit 0))) (.seq (.block 1 (.seq (.region false [⟨(some 16), .mv (.tmp 4), none⟩,
  ⟨(some 17), .mv (.tmp 0), none⟩,
  ⟨(some 18), .mv (.tmp 5), none⟩,
  ⟨(some 19), .idxA 1 (.tmp 17) (.tmp 18), none⟩,
  ⟨(some 20), .ld (.int .i64) (.tmp 19), none⟩,
  ⟨(some 21), .call 63 [(.tmp 16), (.tmp 20)] (.tup [.one (.slice), .one (.bool)]), none⟩,
  ⟨(some 15), .mv (.tmp 21), none⟩,
  ⟨(some 22), .extr (.tmp 15) 0, none⟩,
  ⟨(some 23), .extr (.tmp 15) 1, none⟩,
  ⟨(some 6), .mv (.tmp 22), none⟩,
  ⟨(some 7), .mv (.tmp 23), none⟩]) (.seq (.seq (.region false [⟨(some 24), .mv (.tmp 7), none⟩,
  ⟨(some 25), .not (.tmp 24), none⟩]) (.cond (.tmp 25) (.seq (.region false [⟨(some 2), .mv (.const (.slice none 0 0)), none⟩,
  ⟨(some 3), .mv (.const (.bool false)), none⟩]) .ret) .skip)) (.region false [⟨(some 26), .mv (.tmp 6), none⟩,
  ⟨(some 4), .mv (.tmp 26), none⟩])))) (.region false [⟨(some 13), .mv (.tmp 5), none⟩,
  ⟨(some 14), .arith .add .i64 (.tmp 13) (.const (.int .i64 1)), none⟩,
  ⟨(some 5), .mv (.tmp 14), none⟩])))))) (.seq (.region false [⟨(some 27), .mv (.tmp 4), none⟩,
  ⟨(some 2), .mv (.tmp 27), none⟩,
  ⟨(some 3), .mv (.const (.bool true)), none⟩]) .ret))))
def loops46 : List (List (Nat × Shp)) := [[(4, .slice), (5, .int .i64)]]
def ret46 : List RV := [.tmp 2, .tmp 3]
theorem comp46 : compF Try.prog Try.f46 loops46 = some (28, ret46, code46) := by kernel_rfl
def J46_1  (P : Program) (R : Value → Heap → Prop) (cA : (Option Addr)) (cN : Nat) (outA : (Option Addr)) (outN : Nat) (outC : Nat) (i : Int) (next_ : ((Option Addr × Nat × Nat) × Int → Heap → Prop)) (h_2 : Heap) : Prop :=
 0 ≤ (i : Int) ∧ (i : Int) < (cN : Nat) ∧ AtP cA fun ad => ∃ (t : Int), cellH h_2 (Addr.add ad (Int.toNat i * 1)) = some (.int .i64 t) ∧ CallsH P 63 #[(.slice outA outN outC), (.int .i64 t)] h_2 fun v h_3 =>
 ∃ (A : Option Addr), ∃ (N : Nat), ∃ (C : Nat), ∃ (t1 : Bool), v = (.tuple #[(.slice A N C), (.bool t1)]) ∧ BIf (!t1) (R (.tuple #[(.slice none 0 0), (.bool false)]) h_3) (next_ ((A, N, C), (IntKind.wrap .i64 (i + 1))) h_3)
def J46_0  (R : Value → Heap → Prop) (outA1 : Option Addr) (outN1 : Nat) (outC1 : Nat) (h_4 : Heap) : Prop :=
 R (.tuple #[(.slice outA1 outN1 outC1), (.bool true)]) h_4
def B46_2 (P : Program) (R : Value → Heap → Prop) (cA : (Option Addr)) (cN : Nat) (outA : Option Addr) (outN : Nat) (outC : Nat) (i : Int) (h_1 : Heap) (next_ : (Option Addr × Nat × Nat) × Int → Heap → Prop) : Prop :=
 PIf ((i : Int) < ((cN : Nat) : Int))
 (J46_1 P R cA cN outA outN outC i next_ h_1)
 (J46_0 R (outA) (outN) (outC) h_1)
def VC46 (P : Program) (cA : Option Addr) (cN : Nat) (cC : Nat) (R : Value → Heap → Prop) (h : Heap) : Prop :=
 let h_ : Heap := (h).push (.cells #[] 3); LoopT (σ := (Option Addr × Nat × Nat) × Int) (fun st h next => B46_2 P R cA cN (st.1.1) (st.1.2.1) (st.1.2.2) (st.2) h next) (((some (Addr.mk (h).size 0 none)), 0, 0), 0) h_
theorem vc46 (P : Program) (cA : Option Addr) (cN : Nat) (cC : Nat) (R : Value → Heap → Prop) (h : Heap) : fnC P ret46 code46 [(.slice cA cN cC)] h R = VC46 P cA cN cC R h := by kernel_rfl
theorem run46 (cA : Option Addr) (cN : Nat) (cC : Nat) (R : Value → Heap → Prop) (h : Heap) (hv : VC46 Try.prog cA cN cC R h) : CallsH Try.prog 46 #[(.slice cA cN cC)] h R := calls_of_fnC (Checked.mixed Try.checked) Try.func46 comp46 (Nat.le_of_ble_eq_true rfl) (by rw [vc46]; exact hv)
end Go.Proofs.Ytbfejkmnkkpkhaa
