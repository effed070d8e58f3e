/- Words and facts that the claim's proof leans on. No condition. -/
import Derived.Test.YtbgjbokcngdnfaaDoorHxL
import Derived.Test.YtbgjbokcngdnfaaDoorChecked
set_option maxRecDepth 100000
set_option linter.unusedVariables false
namespace Go.Proofs.YtbgjbokcngdnfaaDoor
open Go.Hx

/-! 3: trestle/trestlelaw02.WordsOnly -/
def code3 : SCode := (.seq (.region false [⟨(some 4), .mv (.const (.bool false)), none⟩]) (.seq (.seq (.region false [⟨(some 10), .call 12 [] (.val (.one (.bool))), none⟩,
  ⟨(some 11), .not (.tmp 10), none⟩]) (.cond (.tmp 11) (.seq (.region false [⟨(some 4), .mv (.const (.bool false)), none⟩]) .ret) .skip)) (.seq (.region false [⟨(some 13), .mv (.tmp 0), none⟩,
  ⟨(some 14), .mv (.tmp 1), none⟩,
  ⟨(some 15), .call 13 [(.tmp 13), (.tmp 14)] (.tup [.one (.int .i64), .one (.int .i64), .agg [.int .i64, .int .i64]]), none⟩,
  ⟨(some 12), .mv (.tmp 15), none⟩,
  ⟨(some 16), .extr (.tmp 12) 0, none⟩,
  ⟨(some 17), .extr (.tmp 12) 1, none⟩,
  ⟨(some 18), .extr (.tmp 12) 2, none⟩,
  ⟨(some 7), .alloc 25 (.agg #[(.int .i64 0), (.int .i64 0)]), none⟩,
  ⟨(some 5), .mv (.tmp 16), none⟩,
  ⟨(some 6), .mv (.tmp 17), none⟩,
  ⟨none, .st 2 (.tmp 7) (.tmp 18), none⟩]) (.seq (.seq (.region false [⟨(some 19), .ldn [.int .i64, .int .i64] (.tmp 7), none⟩,
  ⟨(some 20), .mkAgg #[(.int .i64 0), (.int .i64 0)] [], none⟩,
  ⟨(some 21), .eqagg true [.int .i64, .int .i64] (.tmp 19) (.tmp 20), none⟩]) (.cond (.tmp 21) (.seq (.region false [⟨(some 22), .mv (.tmp 5), none⟩,
  ⟨(some 23), .icmp .eql .i64 (.tmp 22) (.const (.int .i64 0)), none⟩,
  ⟨(some 24), .mv (.tmp 23), none⟩,
  ⟨(some 25), .mv (.tmp 6), (some (24, true))⟩,
  ⟨(some 26), .icmp .eql .i64 (.tmp 25) (.const (.int .i64 0)), (some (24, true))⟩,
  ⟨(some 27), .pick (.tmp 24) (.tmp 26) (.const (.bool false)), none⟩,
  ⟨(some 28), .mv (.tmp 27), none⟩,
  ⟨(some 29), .fldA 1 (.tmp 7), (some (28, true))⟩,
  ⟨(some 30), .ld (.int .i64) (.tmp 29), (some (28, true))⟩,
  ⟨(some 31), .icmp .neq .i64 (.tmp 30) (.const (.int .i64 0)), (some (28, true))⟩,
  ⟨(some 32), .pick (.tmp 28) (.tmp 31) (.const (.bool false)), none⟩,
  ⟨(some 4), .mv (.tmp 32), none⟩]) .ret) .skip)) (.seq (.region false [⟨(some 34), .mv (.tmp 5), none⟩,
  ⟨(some 35), .call 14 [(.tmp 34)] (.tup [.one (.str), .one (.int .i64)]), none⟩,
  ⟨(some 33), .mv (.tmp 35), none⟩,
  ⟨(some 36), .extr (.tmp 33) 0, none⟩,
  ⟨(some 37), .extr (.tmp 33) 1, none⟩,
  ⟨(some 8), .mv (.tmp 36), none⟩,
  ⟨(some 9), .mv (.tmp 37), none⟩]) (.seq (.region false [⟨(some 38), .mv (.tmp 9), none⟩,
  ⟨(some 39), .icmp .eql .i64 (.tmp 38) (.const (.int .i64 0)), none⟩,
  ⟨(some 40), .mv (.tmp 39), none⟩,
  ⟨(some 41), .mv (.tmp 6), (some (40, true))⟩,
  ⟨(some 42), .mv (.tmp 1), (some (40, true))⟩,
  ⟨(some 43), .icmp .gtr .i64 (.tmp 41) (.tmp 42), (some (40, true))⟩,
  ⟨(some 44), .pick (.tmp 40) (.tmp 43) (.const (.bool false)), none⟩,
  ⟨(some 45), .mv (.tmp 44), none⟩,
  ⟨(some 46), .mv (.tmp 6), (some (45, true))⟩,
  ⟨(some 47), .mv (.tmp 0), (some (45, true))⟩,
  ⟨(some 48), .lenS (.tmp 47), (some (45, true))⟩,
  ⟨(some 49), .icmp .leq .i64 (.tmp 46) (.tmp 48), (some (45, true))⟩,
  ⟨(some 50), .pick (.tmp 45) (.tmp 49) (.const (.bool false)), none⟩,
  ⟨(some 51), .mv (.tmp 50), none⟩,
  ⟨(some 52), .mv (.tmp 0), (some (51, true))⟩,
  ⟨(some 53), .mv (.tmp 1), (some (51, true))⟩,
  ⟨(some 54), .mv (.tmp 6), (some (51, true))⟩,
  ⟨(some 55), .slcS (.tmp 52) (some (.tmp 53)) (some (.tmp 54)), (some (51, true))⟩,
  ⟨(some 56), .mv (.tmp 8), (some (51, true))⟩,
  ⟨(some 57), .scmp .eql (.tmp 55) (.tmp 56), (some (51, true))⟩,
  ⟨(some 58), .pick (.tmp 51) (.tmp 57) (.const (.bool false)), none⟩,
  ⟨(some 4), .mv (.tmp 58), none⟩]) .ret))))))
def loops3 : List (List (Nat × Shp)) := []
def ret3 : List RV := [.tmp 4]
theorem comp3 : compF Tryd.prog Tryd.f3 loops3 = some (59, ret3, code3) := by kernel_rfl
def J3_1  (P : Program) (R : Value → Heap → Prop) (s : ByteArray) (at_ : Int) (t1 : Int) (t2 : Int) (h_5 : Heap) : Prop :=
 CallsH P 14 #[(.int .i64 t1)] h_5 fun v2 h_6 =>
 ∃ (t7 : ByteArray), ∃ (t8 : Int), v2 = (.tuple #[(.string t7), (.int .i64 t8)]) ∧ PIf ((t8 : Int) = 0)
 (PIf ((at_ : Int) < t2)
 (PIf ((t2 : Int) ≤ ((s.size : Nat) : Int))
 (0 ≤ (at_ : Int) ∧ (at_ : Int) ≤ t2 ∧ (t2 : Int) ≤ (s.size : Nat) ∧ PIf (((s.extract (Int.toNat at_) (Int.toNat t2)) : ByteArray) = t7)
 (R (.bool true) h_6)
 (R (.bool false) h_6))
 (R (.bool false) h_6))
 (R (.bool false) h_6))
 (R (.bool false) h_6)
def J3_0  (P : Program) (R : Value → Heap → Prop) (s : ByteArray) (at_ : Int) (h_1 : Heap) : Prop :=
 CallsH P 13 #[(.string s), (.int .i64 at_)] h_1 fun v1 h_2 =>
 ∃ (t1 : Int), ∃ (t2 : Int), ∃ (t3 : Int), ∃ (t4 : Int), v1 = (.tuple #[(.int .i64 t1), (.int .i64 t2), (.agg #[(.int .i64 t3), (.int .i64 t4)])]) ∧ let h_3 : Heap := (h_2).push (.cells #[(.int .i64 0), (.int .i64 0)] 25); StoreH h_3 (Addr.mk (h_2).size 0 none) [(.int .i64 t3), (.int .i64 t4)] fun h_4 => ∃ (t5 : Int), ∃ (t6 : Int), cellsH h_4 (Addr.mk (h_2).size 0 none) 0 [(.int .i64 t5), (.int .i64 t6)] ∧ PIf ((#[(.int .i64 t5), (.int .i64 t6)] : Array Value) = #[(.int .i64 0), (.int .i64 0)])
 (J3_1 P R s at_ t1 t2 h_4)
 (PIf ((t1 : Int) = 0)
 (PIf ((t2 : Int) = 0)
 (∃ (t9 : Int), cellH h_4 (Addr.add (Addr.mk (h_2).size 0 none) 1) = some (.int .i64 t9) ∧ PIf ((t9 : Int) = 0)
 (R (.bool false) h_4)
 (R (.bool true) h_4))
 (R (.bool false) h_4))
 (R (.bool false) h_4))
def VC3 (P : Program) (s : ByteArray) (at_ : Int) (R : Value → Heap → Prop) (h : Heap) : Prop :=
 CallsH P 12 #[] h fun v h_ =>
 ∃ (t : Bool), v = (.bool t) ∧ BIf (!t) (R (.bool false) h_) (J3_0 P R s at_ h_)
theorem vc3 (P : Program) (s : ByteArray) (at_ : Int) (R : Value → Heap → Prop) (h : Heap) : fnC P ret3 code3 [(.string s), (.int .i64 at_)] h R = VC3 P s at_ R h := by kernel_rfl
theorem run3 (s : ByteArray) (at_ : Int) (R : Value → Heap → Prop) (h : Heap) (hv : VC3 Tryd.prog s at_ R h) : CallsH Tryd.prog 3 #[(.string s), (.int .i64 at_)] h R := calls_of_fnC (Checked.mixed Tryd.checked) Tryd.func3 comp3 (Nat.le_of_ble_eq_true rfl) (by rw [vc3]; exact hv)

/-! 4: trestle/trestlelaw02.WordsPairs -/
def code4 : SCode := (.seq (.region false [⟨(some 4), .mv (.const (.bool false)), none⟩]) (.seq (.region false [⟨(some 16), .lit 35 0 #[(.int .u64 0)] [], none⟩,
  ⟨(some 17), .mv (.tmp 0), none⟩,
  ⟨(some 18), .app 35 8 1 #[(.int .u64 0)] (.tmp 16) (.tmp 17), none⟩,
  ⟨(some 19), .lit 35 0 #[(.int .u64 0)] [], none⟩,
  ⟨(some 20), .mv (.tmp 1), none⟩,
  ⟨(some 21), .app 35 8 1 #[(.int .u64 0)] (.tmp 19) (.tmp 20), none⟩,
  ⟨(some 5), .mv (.tmp 18), none⟩,
  ⟨(some 6), .mv (.tmp 21), none⟩]) (.seq (.region false [⟨(some 23), .mv (.tmp 5), none⟩,
  ⟨(some 24), .mv (.tmp 6), none⟩,
  ⟨(some 25), .call 15 [(.tmp 23), (.tmp 24)] (.tup [.one (.slice), .one (.int .i64)]), none⟩,
  ⟨(some 22), .mv (.tmp 25), none⟩,
  ⟨(some 26), .extr (.tmp 22) 0, none⟩,
  ⟨(some 27), .extr (.tmp 22) 1, none⟩,
  ⟨(some 7), .mv (.tmp 26), none⟩,
  ⟨(some 8), .mv (.tmp 27), none⟩]) (.seq (.region false [⟨(some 29), .mv (.tmp 0), none⟩,
  ⟨(some 30), .mv (.tmp 1), none⟩,
  ⟨(some 31), .call 16 [(.tmp 29), (.tmp 30)] (.tup [.one (.slice), .one (.int .i64)]), none⟩,
  ⟨(some 28), .mv (.tmp 31), none⟩,
  ⟨(some 32), .extr (.tmp 28) 0, none⟩,
  ⟨(some 33), .extr (.tmp 28) 1, none⟩,
  ⟨(some 9), .mv (.tmp 32), none⟩,
  ⟨(some 10), .mv (.tmp 33), none⟩]) (.seq (.region false [⟨(some 35), .mv (.tmp 5), none⟩,
  ⟨(some 36), .mv (.tmp 6), none⟩,
  ⟨(some 37), .call 17 [(.tmp 35), (.tmp 36)] (.tup [.one (.slice), .one (.int .i64)]), none⟩,
  ⟨(some 34), .mv (.tmp 37), none⟩,
  ⟨(some 38), .extr (.tmp 34) 0, none⟩,
  ⟨(some 39), .extr (.tmp 34) 1, none⟩,
  ⟨(some 11), .mv (.tmp 38), none⟩,
  ⟨(some 12), .mv (.tmp 39), none⟩]) (.seq (.region false [⟨(some 41), .mv (.tmp 0), none⟩,
  ⟨(some 42), .mv (.tmp 1), none⟩,
  ⟨(some 43), .call 18 [(.tmp 41), (.tmp 42)] (.tup [.one (.slice), .one (.int .i64)]), none⟩,
  ⟨(some 40), .mv (.tmp 43), none⟩,
  ⟨(some 44), .extr (.tmp 40) 0, none⟩,
  ⟨(some 45), .extr (.tmp 40) 1, none⟩,
  ⟨(some 13), .mv (.tmp 44), none⟩,
  ⟨(some 14), .mv (.tmp 45), none⟩]) (.seq (.seq (.region false [⟨(some 46), .mv (.tmp 7), none⟩,
  ⟨(some 47), .mv (.tmp 9), none⟩,
  ⟨(some 48), .call 19 [(.tmp 46), (.tmp 47)] (.val (.one (.bool))), none⟩,
  ⟨(some 49), .not (.tmp 48), none⟩,
  ⟨(some 50), .mv (.tmp 49), none⟩,
  ⟨(some 51), .mv (.tmp 8), (some (50, false))⟩,
  ⟨(some 52), .mv (.tmp 10), (some (50, false))⟩,
  ⟨(some 53), .icmp .neq .i64 (.tmp 51) (.tmp 52), (some (50, false))⟩,
  ⟨(some 54), .pick (.tmp 50) (.const (.bool true)) (.tmp 53), none⟩,
  ⟨(some 55), .mv (.tmp 54), none⟩,
  ⟨(some 56), .mv (.tmp 11), (some (55, false))⟩,
  ⟨(some 57), .mv (.tmp 13), (some (55, false))⟩,
  ⟨(some 58), .call 19 [(.tmp 56), (.tmp 57)] (.val (.one (.bool))), (some (55, false))⟩,
  ⟨(some 59), .not (.tmp 58), (some (55, false))⟩,
  ⟨(some 60), .pick (.tmp 55) (.const (.bool true)) (.tmp 59), none⟩,
  ⟨(some 61), .mv (.tmp 60), none⟩,
  ⟨(some 62), .mv (.tmp 12), (some (61, false))⟩,
  ⟨(some 63), .mv (.tmp 14), (some (61, false))⟩,
  ⟨(some 64), .icmp .neq .i64 (.tmp 62) (.tmp 63), (some (61, false))⟩,
  ⟨(some 65), .pick (.tmp 61) (.const (.bool true)) (.tmp 64), none⟩]) (.cond (.tmp 65) (.seq (.region false [⟨(some 4), .mv (.const (.bool false)), none⟩]) .ret) .skip)) (.seq (.seq (.region false [⟨(some 15), .mv (.const (.int .i64 0)), none⟩]) (.block 0 (.loop [(15, .int .i64)] [66, 67, 68, 69, 72, 73, 74, 75, 76, 77, 70, 71, 15] (.seq (.seq (.region false [⟨(some 66), .mv (.tmp 15), none⟩,
  ⟨(some 67), .mv (.tmp 7), none⟩,
  ⟨(some 68), .len (.tmp 67), none⟩,
  ⟨(some 69), .icmp .lss .i64 (.tmp 66) (.tmp 68), none⟩]) (.cond (.tmp 69) .skip (.exit 0))) (.seq (.block 1 (.region false [⟨(some 72), .mv (.tmp 7), none⟩,
  ⟨(some 73), .mv (.tmp 15), none⟩,
  ⟨(some 74), .mv (.tmp 11), none⟩,
  ⟨(some 75), .mv (.tmp 15), none⟩,
  ⟨(some 76), .idxA 1 (.tmp 72) (.tmp 73), none⟩,
  ⟨none, .st 1 (.tmp 76) (.const (.int .u64 77)), none⟩,
  ⟨(some 77), .idxA 1 (.tmp 74) (.tmp 75), none⟩,
  ⟨none, .st 1 (.tmp 77) (.const (.int .u64 78)), none⟩])) (.region false [⟨(some 70), .mv (.tmp 15), none⟩,
  ⟨(some 71), .arith .add .i64 (.tmp 70) (.const (.int .i64 1)), none⟩,
  ⟨(some 15), .mv (.tmp 71), none⟩])))))) (.seq (.region false [⟨(some 78), .mv (.tmp 5), none⟩,
  ⟨(some 79), .mv (.tmp 0), none⟩,
  ⟨(some 80), .call 19 [(.tmp 78), (.tmp 79)] (.val (.one (.bool))), none⟩,
  ⟨(some 81), .mv (.tmp 80), none⟩,
  ⟨(some 82), .mv (.tmp 6), (some (81, true))⟩,
  ⟨(some 83), .mv (.tmp 1), (some (81, true))⟩,
  ⟨(some 84), .call 19 [(.tmp 82), (.tmp 83)] (.val (.one (.bool))), (some (81, true))⟩,
  ⟨(some 85), .pick (.tmp 81) (.tmp 84) (.const (.bool false)), none⟩,
  ⟨(some 86), .mv (.tmp 85), none⟩,
  ⟨(some 87), .call 12 [] (.val (.one (.bool))), (some (86, true))⟩,
  ⟨(some 88), .pick (.tmp 86) (.tmp 87) (.const (.bool false)), none⟩,
  ⟨(some 4), .mv (.tmp 88), none⟩]) .ret)))))))))
def loops4 : List (List (Nat × Shp)) := [[(15, .int .i64)]]
def ret4 : List RV := [.tmp 4]
theorem comp4 : compF Tryd.prog Tryd.f4 loops4 = some (89, ret4, code4) := by kernel_rfl
def J4_2  (A : (Option Addr)) (N : Nat) (A2 : (Option Addr)) (N2 : Nat) (k : Int) (next_ : (Int → Heap → Prop)) (h_12 : Heap) : Prop :=
 0 ≤ (k : Int) ∧ (k : Int) < (N : Nat) ∧ AtP A fun ad => StoreH h_12 (Addr.add ad (Int.toNat k * 1)) [(.int .u64 77)] fun h_13 => 0 ≤ (k : Int) ∧ (k : Int) < (N2 : Nat) ∧ AtP A2 fun ad1 => StoreH h_13 (Addr.add ad1 (Int.toNat k * 1)) [(.int .u64 78)] fun h_14 => next_ ((IntKind.wrap .i64 (k + 1))) h_14
def J4_1  (P : Program) (R : Value → Heap → Prop) (aA : (Option Addr)) (aN : Nat) (aC : Nat) (bA : (Option Addr)) (bN : Nat) (bC : Nat) (apA : (Option Addr)) (apN : Nat) (apC : Nat) (apA1 : (Option Addr)) (apN1 : Nat) (apC1 : Nat) (h_15 : Heap) : Prop :=
 CallsH P 19 #[(.slice apA apN apC), (.slice aA aN aC)] h_15 fun v6 h_16 =>
 ∃ (t6 : Bool), v6 = (.bool t6) ∧ BIf t6 (CallsH P 19 #[(.slice apA1 apN1 apC1), (.slice bA bN bC)] h_16 fun v7 h_17 =>
 ∃ (t7 : Bool), v7 = (.bool t7) ∧ BIf t7 (CallsH P 12 #[] h_17 fun v8 h_18 =>
 ∃ (t8 : Bool), v8 = (.bool t8) ∧ R (.bool t8) h_18) (R (.bool false) h_17)) (R (.bool false) h_16)
def B4_3 (P : Program) (R : Value → Heap → Prop) (aA : (Option Addr)) (aN : Nat) (aC : Nat) (bA : (Option Addr)) (bN : Nat) (bC : Nat) (apA : (Option Addr)) (apN : Nat) (apC : Nat) (apA1 : (Option Addr)) (apN1 : Nat) (apC1 : Nat) (A : (Option Addr)) (N : Nat) (A2 : (Option Addr)) (N2 : Nat) (k : Int) (h_11 : Heap) (next_ : Int → Heap → Prop) : Prop :=
 PIf ((k : Int) < ((N : Nat) : Int))
 (J4_2 A N A2 N2 k next_ h_11)
 (J4_1 P R aA aN aC bA bN bC apA apN apC apA1 apN1 apC1 h_11)
def J4_0  (P : Program) (R : Value → Heap → Prop) (aA : (Option Addr)) (aN : Nat) (aC : Nat) (bA : (Option Addr)) (bN : Nat) (bC : Nat) (apA : (Option Addr)) (apN : Nat) (apC : Nat) (apA1 : (Option Addr)) (apN1 : Nat) (apC1 : Nat) (A : (Option Addr)) (N : Nat) (A2 : (Option Addr)) (N2 : Nat) (h_10 : Heap) : Prop :=
 LoopT (σ := Int) (fun st_ h_st nx_st => B4_3 P R aA aN aC bA bN bC apA apN apC apA1 apN1 apC1 A N A2 N2 (st_) h_st nx_st) (0) h_10
def VC4 (P : Program) (aA : Option Addr) (aN : Nat) (aC : Nat) (bA : Option Addr) (bN : Nat) (bC : Nat) (R : Value → Heap → Prop) (h : Heap) : Prop :=
 let h_ : Heap := (h).push (.cells #[] 35); ∃ ys : List Value, ReadL h_ aA ys ∧ ys.length = aN * 1 ∧ AppS h_ (some (Addr.mk (h).size 0 none)) 0 0 35 8 1 #[(.int .u64 0)] ys aN fun apA apN apC h_1 => let h_2 : Heap := (h_1).push (.cells #[] 35); ∃ ys1 : List Value, ReadL h_2 bA ys1 ∧ ys1.length = bN * 1 ∧ AppS h_2 (some (Addr.mk (h_1).size 0 none)) 0 0 35 8 1 #[(.int .u64 0)] ys1 bN fun apA1 apN1 apC1 h_3 => CallsH P 15 #[(.slice apA apN apC), (.slice apA1 apN1 apC1)] h_3 fun v h_4 =>
 ∃ (A : Option Addr), ∃ (N : Nat), ∃ (C : Nat), ∃ (t : Int), v = (.tuple #[(.slice A N C), (.int .i64 t)]) ∧ CallsH P 16 #[(.slice aA aN aC), (.slice bA bN bC)] h_4 fun v1 h_5 =>
 ∃ (A1 : Option Addr), ∃ (N1 : Nat), ∃ (C1 : Nat), ∃ (t1 : Int), v1 = (.tuple #[(.slice A1 N1 C1), (.int .i64 t1)]) ∧ CallsH P 17 #[(.slice apA apN apC), (.slice apA1 apN1 apC1)] h_5 fun v2 h_6 =>
 ∃ (A2 : Option Addr), ∃ (N2 : Nat), ∃ (C2 : Nat), ∃ (t2 : Int), v2 = (.tuple #[(.slice A2 N2 C2), (.int .i64 t2)]) ∧ CallsH P 18 #[(.slice aA aN aC), (.slice bA bN bC)] h_6 fun v3 h_7 =>
 ∃ (A3 : Option Addr), ∃ (N3 : Nat), ∃ (C3 : Nat), ∃ (t3 : Int), v3 = (.tuple #[(.slice A3 N3 C3), (.int .i64 t3)]) ∧ CallsH P 19 #[(.slice A N C), (.slice A1 N1 C1)] h_7 fun v4 h_8 =>
 ∃ (t4 : Bool), v4 = (.bool t4) ∧ BIf (!t4) (R (.bool false) h_8) (PIf ((t : Int) = t1)
 (CallsH P 19 #[(.slice A2 N2 C2), (.slice A3 N3 C3)] h_8 fun v5 h_9 =>
 ∃ (t5 : Bool), v5 = (.bool t5) ∧ BIf (!t5) (R (.bool false) h_9) (PIf ((t2 : Int) = t3)
 (J4_0 P R aA aN aC bA bN bC apA apN apC apA1 apN1 apC1 A N A2 N2 h_9)
 (R (.bool false) h_9)))
 (R (.bool false) h_8))
theorem vc4 (P : Program) (aA : Option Addr) (aN : Nat) (aC : Nat) (bA : Option Addr) (bN : Nat) (bC : Nat) (R : Value → Heap → Prop) (h : Heap) : fnC P ret4 code4 [(.slice aA aN aC), (.slice bA bN bC)] h R = VC4 P aA aN aC bA bN bC R h := by kernel_rfl
theorem run4 (aA : Option Addr) (aN : Nat) (aC : Nat) (bA : Option Addr) (bN : Nat) (bC : Nat) (R : Value → Heap → Prop) (h : Heap) (hv : VC4 Tryd.prog aA aN aC bA bN bC R h) : CallsH Tryd.prog 4 #[(.slice aA aN aC), (.slice bA bN bC)] h R := calls_of_fnC (Checked.mixed Tryd.checked) Tryd.func4 comp4 (Nat.le_of_ble_eq_true rfl) (by rw [vc4]; exact hv)

/-! 5: trestle/trestlelaw02.WordsRows -/
def code5 : SCode := (.seq (.region false [⟨(some 2), .mv (.const (.bool false)), none⟩]) (.seq (.region false [⟨(some 19), .lit 4 0 #[(.bool false)] [], none⟩,
  ⟨(some 20), .mv (.tmp 0), none⟩,
  ⟨(some 21), .app 4 1 1 #[(.bool false)] (.tmp 19) (.tmp 20), none⟩,
  ⟨(some 22), .lit 4 1 #[(.bool false)] [(0, 1, (.const (.bool true)))], none⟩,
  ⟨(some 23), .app 4 1 1 #[(.bool false)] (.tmp 21) (.tmp 22), none⟩,
  ⟨(some 24), .mv (.tmp 0), none⟩,
  ⟨(some 25), .len (.tmp 24), none⟩,
  ⟨(some 26), .slc 1 (.tmp 23) none (some (.tmp 25)), none⟩,
  ⟨(some 3), .mv (.tmp 26), none⟩]) (.seq (.region false [⟨(some 28), .mv (.tmp 3), none⟩,
  ⟨(some 29), .call 20 [(.tmp 28)] (.tup [.one (.slice), .one (.int .i64)]), none⟩,
  ⟨(some 27), .mv (.tmp 29), none⟩,
  ⟨(some 30), .extr (.tmp 27) 0, none⟩,
  ⟨(some 31), .extr (.tmp 27) 1, none⟩,
  ⟨(some 4), .mv (.tmp 30), none⟩,
  ⟨(some 5), .mv (.tmp 31), none⟩]) (.seq (.region false [⟨(some 33), .mv (.tmp 3), none⟩,
  ⟨(some 34), .call 20 [(.tmp 33)] (.tup [.one (.slice), .one (.int .i64)]), none⟩,
  ⟨(some 32), .mv (.tmp 34), none⟩,
  ⟨(some 35), .extr (.tmp 32) 0, none⟩,
  ⟨(some 36), .extr (.tmp 32) 1, none⟩,
  ⟨(some 6), .mv (.tmp 35), none⟩,
  ⟨(some 7), .mv (.tmp 36), none⟩]) (.seq (.region false [⟨(some 38), .mv (.tmp 0), none⟩,
  ⟨(some 39), .call 21 [(.tmp 38)] (.tup [.one (.slice), .one (.int .i64)]), none⟩,
  ⟨(some 37), .mv (.tmp 39), none⟩,
  ⟨(some 40), .extr (.tmp 37) 0, none⟩,
  ⟨(some 41), .extr (.tmp 37) 1, none⟩,
  ⟨(some 8), .mv (.tmp 40), none⟩,
  ⟨(some 9), .mv (.tmp 41), none⟩]) (.seq (.region false [⟨(some 43), .mv (.tmp 3), none⟩,
  ⟨(some 44), .call 22 [(.tmp 43)] (.tup [.one (.str), .one (.int .i64)]), none⟩,
  ⟨(some 42), .mv (.tmp 44), none⟩,
  ⟨(some 45), .extr (.tmp 42) 0, none⟩,
  ⟨(some 46), .extr (.tmp 42) 1, none⟩,
  ⟨(some 10), .mv (.tmp 45), none⟩,
  ⟨(some 11), .mv (.tmp 46), none⟩]) (.seq (.region false [⟨(some 48), .mv (.tmp 0), none⟩,
  ⟨(some 49), .call 23 [(.tmp 48)] (.tup [.one (.str), .one (.int .i64)]), none⟩,
  ⟨(some 47), .mv (.tmp 49), none⟩,
  ⟨(some 50), .extr (.tmp 47) 0, none⟩,
  ⟨(some 51), .extr (.tmp 47) 1, none⟩,
  ⟨(some 12), .mv (.tmp 50), none⟩,
  ⟨(some 13), .mv (.tmp 51), none⟩]) (.seq (.region false [⟨(some 53), .mv (.tmp 3), none⟩,
  ⟨(some 54), .call 24 [(.tmp 53)] (.tup [.one (.int .i64), .one (.int .i64)]), none⟩,
  ⟨(some 52), .mv (.tmp 54), none⟩,
  ⟨(some 55), .extr (.tmp 52) 0, none⟩,
  ⟨(some 56), .extr (.tmp 52) 1, none⟩,
  ⟨(some 14), .mv (.tmp 55), none⟩,
  ⟨(some 15), .mv (.tmp 56), none⟩]) (.seq (.region false [⟨(some 58), .mv (.tmp 0), none⟩,
  ⟨(some 59), .call 25 [(.tmp 58)] (.tup [.one (.int .i64), .one (.int .i64)]), none⟩,
  ⟨(some 57), .mv (.tmp 59), none⟩,
  ⟨(some 60), .extr (.tmp 57) 0, none⟩,
  ⟨(some 61), .extr (.tmp 57) 1, none⟩,
  ⟨(some 16), .mv (.tmp 60), none⟩,
  ⟨(some 17), .mv (.tmp 61), none⟩]) (.seq (.seq (.region false [⟨(some 62), .mv (.tmp 4), none⟩,
  ⟨(some 63), .mv (.tmp 8), none⟩,
  ⟨(some 64), .call 19 [(.tmp 62), (.tmp 63)] (.val (.one (.bool))), none⟩,
  ⟨(some 65), .not (.tmp 64), none⟩,
  ⟨(some 66), .mv (.tmp 65), none⟩,
  ⟨(some 67), .mv (.tmp 5), (some (66, false))⟩,
  ⟨(some 68), .mv (.tmp 9), (some (66, false))⟩,
  ⟨(some 69), .icmp .neq .i64 (.tmp 67) (.tmp 68), (some (66, false))⟩,
  ⟨(some 70), .pick (.tmp 66) (.const (.bool true)) (.tmp 69), none⟩,
  ⟨(some 71), .mv (.tmp 70), none⟩,
  ⟨(some 72), .mv (.tmp 10), (some (71, false))⟩,
  ⟨(some 73), .mv (.tmp 12), (some (71, false))⟩,
  ⟨(some 74), .scmp .neq (.tmp 72) (.tmp 73), (some (71, false))⟩,
  ⟨(some 75), .pick (.tmp 71) (.const (.bool true)) (.tmp 74), none⟩,
  ⟨(some 76), .mv (.tmp 75), none⟩,
  ⟨(some 77), .mv (.tmp 11), (some (76, false))⟩,
  ⟨(some 78), .mv (.tmp 13), (some (76, false))⟩,
  ⟨(some 79), .icmp .neq .i64 (.tmp 77) (.tmp 78), (some (76, false))⟩,
  ⟨(some 80), .pick (.tmp 76) (.const (.bool true)) (.tmp 79), none⟩,
  ⟨(some 81), .mv (.tmp 80), none⟩,
  ⟨(some 82), .mv (.tmp 14), (some (81, false))⟩,
  ⟨(some 83), .mv (.tmp 16), (some (81, false))⟩,
  ⟨(some 84), .icmp .neq .i64 (.tmp 82) (.tmp 83), (some (81, false))⟩,
  ⟨(some 85), .pick (.tmp 81) (.const (.bool true)) (.tmp 84), none⟩,
  ⟨(some 86), .mv (.tmp 85), none⟩,
  ⟨(some 87), .mv (.tmp 15), (some (86, false))⟩,
  ⟨(some 88), .mv (.tmp 17), (some (86, false))⟩,
  ⟨(some 89), .icmp .neq .i64 (.tmp 87) (.tmp 88), (some (86, false))⟩,
  ⟨(some 90), .pick (.tmp 86) (.const (.bool true)) (.tmp 89), none⟩]) (.cond (.tmp 90) (.seq (.region false [⟨(some 2), .mv (.const (.bool false)), none⟩]) .ret) .skip)) (.seq (.seq (.region false [⟨(some 18), .mv (.const (.int .i64 0)), none⟩]) (.block 0 (.loop [(18, .int .i64)] [91, 92, 93, 94, 97, 98, 99, 95, 96, 18] (.seq (.seq (.region false [⟨(some 91), .mv (.tmp 18), none⟩,
  ⟨(some 92), .mv (.tmp 4), none⟩,
  ⟨(some 93), .len (.tmp 92), none⟩,
  ⟨(some 94), .icmp .lss .i64 (.tmp 91) (.tmp 93), none⟩]) (.cond (.tmp 94) .skip (.exit 0))) (.seq (.block 1 (.region false [⟨(some 97), .mv (.tmp 4), none⟩,
  ⟨(some 98), .mv (.tmp 18), none⟩,
  ⟨(some 99), .idxA 1 (.tmp 97) (.tmp 98), none⟩,
  ⟨none, .st 1 (.tmp 99) (.const (.int .u64 77)), none⟩])) (.region false [⟨(some 95), .mv (.tmp 18), none⟩,
  ⟨(some 96), .arith .add .i64 (.tmp 95) (.const (.int .i64 1)), none⟩,
  ⟨(some 18), .mv (.tmp 96), none⟩])))))) (.seq (.region false [⟨(some 100), .mv (.tmp 6), none⟩,
  ⟨(some 101), .mv (.tmp 8), none⟩,
  ⟨(some 102), .call 19 [(.tmp 100), (.tmp 101)] (.val (.one (.bool))), none⟩,
  ⟨(some 103), .mv (.tmp 102), none⟩,
  ⟨(some 104), .mv (.tmp 3), (some (103, true))⟩,
  ⟨(some 105), .mv (.tmp 0), (some (103, true))⟩,
  ⟨(some 106), .call 26 [(.tmp 104), (.tmp 105)] (.val (.one (.bool))), (some (103, true))⟩,
  ⟨(some 107), .pick (.tmp 103) (.tmp 106) (.const (.bool false)), none⟩,
  ⟨(some 108), .mv (.tmp 107), none⟩,
  ⟨(some 109), .call 12 [] (.val (.one (.bool))), (some (108, true))⟩,
  ⟨(some 110), .pick (.tmp 108) (.tmp 109) (.const (.bool false)), none⟩,
  ⟨(some 2), .mv (.tmp 110), none⟩]) .ret))))))))))))
def loops5 : List (List (Nat × Shp)) := [[(18, .int .i64)]]
def ret5 : List RV := [.tmp 2]
theorem comp5 : compF Tryd.prog Tryd.f5 loops5 = some (111, ret5, code5) := by kernel_rfl
def J5_1  (P : Program) (R : Value → Heap → Prop) (bitsA : (Option Addr)) (bitsN : Nat) (bitsC : Nat) (apA1 : (Option Addr)) (apC1 : Nat) (A1 : (Option Addr)) (N1 : Nat) (C1 : Nat) (A2 : (Option Addr)) (N2 : Nat) (C2 : Nat) (h_15 : Heap) : Prop :=
 CallsH P 19 #[(.slice A1 N1 C1), (.slice A2 N2 C2)] h_15 fun v8 h_16 =>
 ∃ (t12 : Bool), v8 = (.bool t12) ∧ BIf t12 (CallsH P 26 #[(.slice (cutA 1 apA1 apC1 (Int.toNat 0)) (Int.toNat ((bitsN : Nat) : Int) - Int.toNat 0) (apC1 - Int.toNat 0)), (.slice bitsA bitsN bitsC)] h_16 fun v9 h_17 =>
 ∃ (t13 : Bool), v9 = (.bool t13) ∧ BIf t13 (CallsH P 12 #[] h_17 fun v10 h_18 =>
 ∃ (t14 : Bool), v10 = (.bool t14) ∧ R (.bool t14) h_18) (R (.bool false) h_17)) (R (.bool false) h_16)
def B5_2 (P : Program) (R : Value → Heap → Prop) (bitsA : (Option Addr)) (bitsN : Nat) (bitsC : Nat) (apA1 : (Option Addr)) (apC1 : Nat) (A : (Option Addr)) (N : Nat) (A1 : (Option Addr)) (N1 : Nat) (C1 : Nat) (A2 : (Option Addr)) (N2 : Nat) (C2 : Nat) (k : Int) (h_13 : Heap) (next_ : Int → Heap → Prop) : Prop :=
 PIf ((k : Int) < ((N : Nat) : Int))
 (0 ≤ (k : Int) ∧ (k : Int) < (N : Nat) ∧ AtP A fun ad => StoreH h_13 (Addr.add ad (Int.toNat k * 1)) [(.int .u64 77)] fun h_14 => next_ ((IntKind.wrap .i64 (k + 1))) h_14)
 (J5_1 P R bitsA bitsN bitsC apA1 apC1 A1 N1 C1 A2 N2 C2 h_13)
def J5_0  (P : Program) (R : Value → Heap → Prop) (bitsA : (Option Addr)) (bitsN : Nat) (bitsC : Nat) (apA1 : (Option Addr)) (apC1 : Nat) (A : (Option Addr)) (N : Nat) (A1 : (Option Addr)) (N1 : Nat) (C1 : Nat) (A2 : (Option Addr)) (N2 : Nat) (C2 : Nat) (h_12 : Heap) : Prop :=
 LoopT (σ := Int) (fun st_ h_st nx_st => B5_2 P R bitsA bitsN bitsC apA1 apC1 A N A1 N1 C1 A2 N2 C2 (st_) h_st nx_st) (0) h_12
def VC5 (P : Program) (bitsA : Option Addr) (bitsN : Nat) (bitsC : Nat) (R : Value → Heap → Prop) (h : Heap) : Prop :=
 let h_ : Heap := (h).push (.cells #[] 4); ∃ ys : List Value, ReadL h_ bitsA ys ∧ ys.length = bitsN * 1 ∧ AppS h_ (some (Addr.mk (h).size 0 none)) 0 0 4 1 1 #[(.bool false)] ys bitsN fun apA apN apC h_1 => let h_2 : Heap := (h_1).push (.cells #[(.bool true)] 4); ∃ ys1 : List Value, ReadL h_2 (some (Addr.mk (h_1).size 0 none)) ys1 ∧ ys1.length = 1 * 1 ∧ AppS h_2 apA apN apC 4 1 1 #[(.bool false)] ys1 1 fun apA1 apN1 apC1 h_3 => 0 ≤ (0 : Int) ∧ (0 : Int) ≤ ((bitsN : Nat) : Int) ∧ (((bitsN : Nat) : Int) : Int) ≤ (apC1 : Nat) ∧ CallsH P 20 #[(.slice (cutA 1 apA1 apC1 (Int.toNat 0)) (Int.toNat ((bitsN : Nat) : Int) - Int.toNat 0) (apC1 - Int.toNat 0))] h_3 fun v h_4 =>
 ∃ (A : Option Addr), ∃ (N : Nat), ∃ (C : Nat), ∃ (t : Int), v = (.tuple #[(.slice A N C), (.int .i64 t)]) ∧ CallsH P 20 #[(.slice (cutA 1 apA1 apC1 (Int.toNat 0)) (Int.toNat ((bitsN : Nat) : Int) - Int.toNat 0) (apC1 - Int.toNat 0))] h_4 fun v1 h_5 =>
 ∃ (A1 : Option Addr), ∃ (N1 : Nat), ∃ (C1 : Nat), ∃ (t1 : Int), v1 = (.tuple #[(.slice A1 N1 C1), (.int .i64 t1)]) ∧ CallsH P 21 #[(.slice bitsA bitsN bitsC)] h_5 fun v2 h_6 =>
 ∃ (A2 : Option Addr), ∃ (N2 : Nat), ∃ (C2 : Nat), ∃ (t2 : Int), v2 = (.tuple #[(.slice A2 N2 C2), (.int .i64 t2)]) ∧ CallsH P 22 #[(.slice (cutA 1 apA1 apC1 (Int.toNat 0)) (Int.toNat ((bitsN : Nat) : Int) - Int.toNat 0) (apC1 - Int.toNat 0))] h_6 fun v3 h_7 =>
 ∃ (t3 : ByteArray), ∃ (t4 : Int), v3 = (.tuple #[(.string t3), (.int .i64 t4)]) ∧ CallsH P 23 #[(.slice bitsA bitsN bitsC)] h_7 fun v4 h_8 =>
 ∃ (t5 : ByteArray), ∃ (t6 : Int), v4 = (.tuple #[(.string t5), (.int .i64 t6)]) ∧ CallsH P 24 #[(.slice (cutA 1 apA1 apC1 (Int.toNat 0)) (Int.toNat ((bitsN : Nat) : Int) - Int.toNat 0) (apC1 - Int.toNat 0))] h_8 fun v5 h_9 =>
 ∃ (t7 : Int), ∃ (t8 : Int), v5 = (.tuple #[(.int .i64 t7), (.int .i64 t8)]) ∧ CallsH P 25 #[(.slice bitsA bitsN bitsC)] h_9 fun v6 h_10 =>
 ∃ (t9 : Int), ∃ (t10 : Int), v6 = (.tuple #[(.int .i64 t9), (.int .i64 t10)]) ∧ CallsH P 19 #[(.slice A N C), (.slice A2 N2 C2)] h_10 fun v7 h_11 =>
 ∃ (t11 : Bool), v7 = (.bool t11) ∧ BIf (!t11) (R (.bool false) h_11) (PIf ((t : Int) = t2)
 (PIf ((t3 : ByteArray) = t5)
 (PIf ((t4 : Int) = t6)
 (PIf ((t7 : Int) = t9)
 (PIf ((t8 : Int) = t10)
 (J5_0 P R bitsA bitsN bitsC apA1 apC1 A N A1 N1 C1 A2 N2 C2 h_11)
 (R (.bool false) h_11))
 (R (.bool false) h_11))
 (R (.bool false) h_11))
 (R (.bool false) h_11))
 (R (.bool false) h_11))
theorem vc5 (P : Program) (bitsA : Option Addr) (bitsN : Nat) (bitsC : Nat) (R : Value → Heap → Prop) (h : Heap) : fnC P ret5 code5 [(.slice bitsA bitsN bitsC)] h R = VC5 P bitsA bitsN bitsC R h := by kernel_rfl
theorem run5 (bitsA : Option Addr) (bitsN : Nat) (bitsC : Nat) (R : Value → Heap → Prop) (h : Heap) (hv : VC5 Tryd.prog bitsA bitsN bitsC R h) : CallsH Tryd.prog 5 #[(.slice bitsA bitsN bitsC)] h R := calls_of_fnC (Checked.mixed Tryd.checked) Tryd.func5 comp5 (Nat.le_of_ble_eq_true rfl) (by rw [vc5]; exact hv)

/-! 6: trestle/trestlelaw02.WordsNumbers -/
def code6 : SCode := (.seq (.region false [⟨(some 6), .mv (.const (.bool false)), none⟩]) (.seq (.region false [⟨(some 22), .mv (.tmp 0), none⟩,
  ⟨(some 23), .call 14 [(.tmp 22)] (.tup [.one (.str), .one (.int .i64)]), none⟩,
  ⟨(some 21), .mv (.tmp 23), none⟩,
  ⟨(some 24), .extr (.tmp 21) 0, none⟩,
  ⟨(some 25), .extr (.tmp 21) 1, none⟩,
  ⟨(some 7), .mv (.tmp 24), none⟩,
  ⟨(some 8), .mv (.tmp 25), none⟩]) (.seq (.region false [⟨(some 27), .mv (.tmp 0), none⟩,
  ⟨(some 28), .call 27 [(.tmp 27)] (.tup [.one (.str), .one (.int .i64)]), none⟩,
  ⟨(some 26), .mv (.tmp 28), none⟩,
  ⟨(some 29), .extr (.tmp 26) 0, none⟩,
  ⟨(some 30), .extr (.tmp 26) 1, none⟩,
  ⟨(some 9), .mv (.tmp 29), none⟩,
  ⟨(some 10), .mv (.tmp 30), none⟩]) (.seq (.region false [⟨(some 32), .mv (.tmp 0), none⟩,
  ⟨(some 33), .call 28 [(.tmp 32)] (.tup [.one (.str), .one (.int .i64)]), none⟩,
  ⟨(some 31), .mv (.tmp 33), none⟩,
  ⟨(some 34), .extr (.tmp 31) 0, none⟩,
  ⟨(some 35), .extr (.tmp 31) 1, none⟩,
  ⟨(some 11), .mv (.tmp 34), none⟩,
  ⟨(some 12), .mv (.tmp 35), none⟩]) (.seq (.region false [⟨(some 37), .mv (.tmp 0), none⟩,
  ⟨(some 38), .call 29 [(.tmp 37)] (.tup [.one (.str), .one (.int .i64)]), none⟩,
  ⟨(some 36), .mv (.tmp 38), none⟩,
  ⟨(some 39), .extr (.tmp 36) 0, none⟩,
  ⟨(some 40), .extr (.tmp 36) 1, none⟩,
  ⟨(some 13), .mv (.tmp 39), none⟩,
  ⟨(some 14), .mv (.tmp 40), none⟩]) (.seq (.seq (.region false [⟨(some 41), .call 30 [] (.val (.one (.bool))), none⟩,
  ⟨(some 42), .not (.tmp 41), none⟩,
  ⟨(some 43), .mv (.tmp 42), none⟩,
  ⟨(some 44), .mv (.tmp 7), (some (43, false))⟩,
  ⟨(some 45), .mv (.tmp 9), (some (43, false))⟩,
  ⟨(some 46), .scmp .neq (.tmp 44) (.tmp 45), (some (43, false))⟩,
  ⟨(some 47), .pick (.tmp 43) (.const (.bool true)) (.tmp 46), none⟩,
  ⟨(some 48), .mv (.tmp 47), none⟩,
  ⟨(some 49), .mv (.tmp 8), (some (48, false))⟩,
  ⟨(some 50), .mv (.tmp 10), (some (48, false))⟩,
  ⟨(some 51), .icmp .neq .i64 (.tmp 49) (.tmp 50), (some (48, false))⟩,
  ⟨(some 52), .pick (.tmp 48) (.const (.bool true)) (.tmp 51), none⟩,
  ⟨(some 53), .mv (.tmp 52), none⟩,
  ⟨(some 54), .mv (.tmp 11), (some (53, false))⟩,
  ⟨(some 55), .mv (.tmp 13), (some (53, false))⟩,
  ⟨(some 56), .scmp .neq (.tmp 54) (.tmp 55), (some (53, false))⟩,
  ⟨(some 57), .pick (.tmp 53) (.const (.bool true)) (.tmp 56), none⟩,
  ⟨(some 58), .mv (.tmp 57), none⟩,
  ⟨(some 59), .mv (.tmp 12), (some (58, false))⟩,
  ⟨(some 60), .mv (.tmp 14), (some (58, false))⟩,
  ⟨(some 61), .icmp .neq .i64 (.tmp 59) (.tmp 60), (some (58, false))⟩,
  ⟨(some 62), .pick (.tmp 58) (.const (.bool true)) (.tmp 61), none⟩]) (.cond (.tmp 62) (.seq (.region false [⟨(some 6), .mv (.const (.bool false)), none⟩]) .ret) .skip)) (.seq (.region false [⟨(some 64), .mv (.tmp 1), none⟩,
  ⟨(some 65), .mv (.tmp 2), none⟩,
  ⟨(some 66), .call 13 [(.tmp 64), (.tmp 65)] (.tup [.one (.int .i64), .one (.int .i64), .agg [.int .i64, .int .i64]]), none⟩,
  ⟨(some 63), .mv (.tmp 66), none⟩,
  ⟨(some 67), .extr (.tmp 63) 0, none⟩,
  ⟨(some 68), .extr (.tmp 63) 1, none⟩,
  ⟨(some 69), .extr (.tmp 63) 2, none⟩,
  ⟨(some 17), .alloc 25 (.agg #[(.int .i64 0), (.int .i64 0)]), none⟩,
  ⟨(some 15), .mv (.tmp 67), none⟩,
  ⟨(some 16), .mv (.tmp 68), none⟩,
  ⟨none, .st 2 (.tmp 17) (.tmp 69), none⟩]) (.seq (.region false [⟨(some 71), .mv (.tmp 1), none⟩,
  ⟨(some 72), .mv (.tmp 2), none⟩,
  ⟨(some 73), .call 31 [(.tmp 71), (.tmp 72)] (.tup [.one (.int .i64), .one (.int .i64), .agg [.int .i64, .int .i64]]), none⟩,
  ⟨(some 70), .mv (.tmp 73), none⟩,
  ⟨(some 74), .extr (.tmp 70) 0, none⟩,
  ⟨(some 75), .extr (.tmp 70) 1, none⟩,
  ⟨(some 76), .extr (.tmp 70) 2, none⟩,
  ⟨(some 20), .alloc 25 (.agg #[(.int .i64 0), (.int .i64 0)]), none⟩,
  ⟨(some 18), .mv (.tmp 74), none⟩,
  ⟨(some 19), .mv (.tmp 75), none⟩,
  ⟨none, .st 2 (.tmp 20) (.tmp 76), none⟩]) (.seq (.seq (.region false [⟨(some 77), .mv (.tmp 15), none⟩,
  ⟨(some 78), .mv (.tmp 18), none⟩,
  ⟨(some 79), .icmp .neq .i64 (.tmp 77) (.tmp 78), none⟩,
  ⟨(some 80), .mv (.tmp 79), none⟩,
  ⟨(some 81), .mv (.tmp 16), (some (80, false))⟩,
  ⟨(some 82), .mv (.tmp 19), (some (80, false))⟩,
  ⟨(some 83), .icmp .neq .i64 (.tmp 81) (.tmp 82), (some (80, false))⟩,
  ⟨(some 84), .pick (.tmp 80) (.const (.bool true)) (.tmp 83), none⟩,
  ⟨(some 85), .mv (.tmp 84), none⟩,
  ⟨(some 86), .ldn [.int .i64, .int .i64] (.tmp 17), (some (85, false))⟩,
  ⟨(some 87), .ldn [.int .i64, .int .i64] (.tmp 20), (some (85, false))⟩,
  ⟨(some 88), .eqagg true [.int .i64, .int .i64] (.tmp 86) (.tmp 87), (some (85, false))⟩,
  ⟨(some 89), .pick (.tmp 85) (.const (.bool true)) (.tmp 88), none⟩]) (.cond (.tmp 89) (.seq (.region false [⟨(some 6), .mv (.const (.bool false)), none⟩]) .ret) .skip)) (.seq (.region false [⟨(some 91), .mv (.tmp 1), none⟩,
  ⟨(some 92), .mv (.tmp 2), none⟩,
  ⟨(some 93), .call 32 [(.tmp 91), (.tmp 92)] (.tup [.one (.int .i64), .one (.int .i64), .agg [.int .i64, .int .i64]]), none⟩,
  ⟨(some 90), .mv (.tmp 93), none⟩,
  ⟨(some 94), .extr (.tmp 90) 0, none⟩,
  ⟨(some 95), .extr (.tmp 90) 1, none⟩,
  ⟨(some 96), .extr (.tmp 90) 2, none⟩,
  ⟨(some 15), .mv (.tmp 94), none⟩,
  ⟨(some 16), .mv (.tmp 95), none⟩,
  ⟨none, .st 2 (.tmp 17) (.tmp 96), none⟩]) (.seq (.region false [⟨(some 98), .mv (.tmp 1), none⟩,
  ⟨(some 99), .mv (.tmp 2), none⟩,
  ⟨(some 100), .call 33 [(.tmp 98), (.tmp 99)] (.tup [.one (.int .i64), .one (.int .i64), .agg [.int .i64, .int .i64]]), none⟩,
  ⟨(some 97), .mv (.tmp 100), none⟩,
  ⟨(some 101), .extr (.tmp 97) 0, none⟩,
  ⟨(some 102), .extr (.tmp 97) 1, none⟩,
  ⟨(some 103), .extr (.tmp 97) 2, none⟩,
  ⟨(some 18), .mv (.tmp 101), none⟩,
  ⟨(some 19), .mv (.tmp 102), none⟩,
  ⟨none, .st 2 (.tmp 20) (.tmp 103), none⟩]) (.seq (.region false [⟨(some 104), .mv (.tmp 15), none⟩,
  ⟨(some 105), .mv (.tmp 18), none⟩,
  ⟨(some 106), .icmp .eql .i64 (.tmp 104) (.tmp 105), none⟩,
  ⟨(some 107), .mv (.tmp 106), none⟩,
  ⟨(some 108), .mv (.tmp 16), (some (107, true))⟩,
  ⟨(some 109), .mv (.tmp 19), (some (107, true))⟩,
  ⟨(some 110), .icmp .eql .i64 (.tmp 108) (.tmp 109), (some (107, true))⟩,
  ⟨(some 111), .pick (.tmp 107) (.tmp 110) (.const (.bool false)), none⟩,
  ⟨(some 112), .mv (.tmp 111), none⟩,
  ⟨(some 113), .ldn [.int .i64, .int .i64] (.tmp 17), (some (112, true))⟩,
  ⟨(some 114), .ldn [.int .i64, .int .i64] (.tmp 20), (some (112, true))⟩,
  ⟨(some 115), .eqagg false [.int .i64, .int .i64] (.tmp 113) (.tmp 114), (some (112, true))⟩,
  ⟨(some 116), .pick (.tmp 112) (.tmp 115) (.const (.bool false)), none⟩,
  ⟨(some 117), .mv (.tmp 116), none⟩,
  ⟨(some 118), .call 12 [] (.val (.one (.bool))), (some (117, true))⟩,
  ⟨(some 119), .pick (.tmp 117) (.tmp 118) (.const (.bool false)), none⟩,
  ⟨(some 6), .mv (.tmp 119), none⟩]) .ret))))))))))))
def loops6 : List (List (Nat × Shp)) := []
def ret6 : List RV := [.tmp 6]
theorem comp6 : compF Tryd.prog Tryd.f6 loops6 = some (120, ret6, code6) := by kernel_rfl
def J6_1  (P : Program) (R : Value → Heap → Prop) (s : ByteArray) (at_ : Int) (h_6 : Heap) (h_9 : Heap) (h_12 : Heap) : Prop :=
 CallsH P 32 #[(.string s), (.int .i64 at_)] h_12 fun v7 h_13 =>
 ∃ (t21 : Int), ∃ (t22 : Int), ∃ (t23 : Int), ∃ (t24 : Int), v7 = (.tuple #[(.int .i64 t21), (.int .i64 t22), (.agg #[(.int .i64 t23), (.int .i64 t24)])]) ∧ StoreH h_13 (Addr.mk (h_6).size 0 none) [(.int .i64 t23), (.int .i64 t24)] fun h_14 => CallsH P 33 #[(.string s), (.int .i64 at_)] h_14 fun v8 h_15 =>
 ∃ (t25 : Int), ∃ (t26 : Int), ∃ (t27 : Int), ∃ (t28 : Int), v8 = (.tuple #[(.int .i64 t25), (.int .i64 t26), (.agg #[(.int .i64 t27), (.int .i64 t28)])]) ∧ StoreH h_15 (Addr.mk (h_9).size 0 none) [(.int .i64 t27), (.int .i64 t28)] fun h_16 => PIf ((t21 : Int) = t25)
 (PIf ((t22 : Int) = t26)
 (∃ (t29 : Int), ∃ (t30 : Int), cellsH h_16 (Addr.mk (h_6).size 0 none) 0 [(.int .i64 t29), (.int .i64 t30)] ∧ ∃ (t31 : Int), ∃ (t32 : Int), cellsH h_16 (Addr.mk (h_9).size 0 none) 0 [(.int .i64 t31), (.int .i64 t32)] ∧ PIf ((#[(.int .i64 t29), (.int .i64 t30)] : Array Value) = #[(.int .i64 t31), (.int .i64 t32)])
 (CallsH P 12 #[] h_16 fun v9 h_17 =>
 ∃ (t33 : Bool), v9 = (.bool t33) ∧ R (.bool t33) h_17)
 (R (.bool false) h_16))
 (R (.bool false) h_16))
 (R (.bool false) h_16)
def J6_0  (P : Program) (R : Value → Heap → Prop) (s : ByteArray) (at_ : Int) (h_5 : Heap) : Prop :=
 CallsH P 13 #[(.string s), (.int .i64 at_)] h_5 fun v5 h_6 =>
 ∃ (t9 : Int), ∃ (t10 : Int), ∃ (t11 : Int), ∃ (t12 : Int), v5 = (.tuple #[(.int .i64 t9), (.int .i64 t10), (.agg #[(.int .i64 t11), (.int .i64 t12)])]) ∧ let h_7 : Heap := (h_6).push (.cells #[(.int .i64 0), (.int .i64 0)] 25); StoreH h_7 (Addr.mk (h_6).size 0 none) [(.int .i64 t11), (.int .i64 t12)] fun h_8 => CallsH P 31 #[(.string s), (.int .i64 at_)] h_8 fun v6 h_9 =>
 ∃ (t13 : Int), ∃ (t14 : Int), ∃ (t15 : Int), ∃ (t16 : Int), v6 = (.tuple #[(.int .i64 t13), (.int .i64 t14), (.agg #[(.int .i64 t15), (.int .i64 t16)])]) ∧ let h_10 : Heap := (h_9).push (.cells #[(.int .i64 0), (.int .i64 0)] 25); StoreH h_10 (Addr.mk (h_9).size 0 none) [(.int .i64 t15), (.int .i64 t16)] fun h_11 => PIf ((t9 : Int) = t13)
 (PIf ((t10 : Int) = t14)
 (∃ (t17 : Int), ∃ (t18 : Int), cellsH h_11 (Addr.mk (h_6).size 0 none) 0 [(.int .i64 t17), (.int .i64 t18)] ∧ ∃ (t19 : Int), ∃ (t20 : Int), cellsH h_11 (Addr.mk (h_9).size 0 none) 0 [(.int .i64 t19), (.int .i64 t20)] ∧ PIf ((#[(.int .i64 t17), (.int .i64 t18)] : Array Value) = #[(.int .i64 t19), (.int .i64 t20)])
 (J6_1 P R s at_ h_6 h_9 h_11)
 (R (.bool false) h_11))
 (R (.bool false) h_11))
 (R (.bool false) h_11)
def VC6 (P : Program) (n : Int) (s : ByteArray) (at_ : Int) (R : Value → Heap → Prop) (h : Heap) : Prop :=
 CallsH P 14 #[(.int .i64 n)] h fun v h_ =>
 ∃ (t : ByteArray), ∃ (t1 : Int), v = (.tuple #[(.string t), (.int .i64 t1)]) ∧ CallsH P 27 #[(.int .i64 n)] h_ fun v1 h_1 =>
 ∃ (t2 : ByteArray), ∃ (t3 : Int), v1 = (.tuple #[(.string t2), (.int .i64 t3)]) ∧ CallsH P 28 #[(.int .i64 n)] h_1 fun v2 h_2 =>
 ∃ (t4 : ByteArray), ∃ (t5 : Int), v2 = (.tuple #[(.string t4), (.int .i64 t5)]) ∧ CallsH P 29 #[(.int .i64 n)] h_2 fun v3 h_3 =>
 ∃ (t6 : ByteArray), ∃ (t7 : Int), v3 = (.tuple #[(.string t6), (.int .i64 t7)]) ∧ CallsH P 30 #[] h_3 fun v4 h_4 =>
 ∃ (t8 : Bool), v4 = (.bool t8) ∧ BIf (!t8) (R (.bool false) h_4) (PIf ((t : ByteArray) = t2)
 (PIf ((t1 : Int) = t3)
 (PIf ((t4 : ByteArray) = t6)
 (PIf ((t5 : Int) = t7)
 (J6_0 P R s at_ h_4)
 (R (.bool false) h_4))
 (R (.bool false) h_4))
 (R (.bool false) h_4))
 (R (.bool false) h_4))
theorem vc6 (P : Program) (n : Int) (s : ByteArray) (at_ : Int) (R : Value → Heap → Prop) (h : Heap) : fnC P ret6 code6 [(.int .i64 n), (.string s), (.int .i64 at_)] h R = VC6 P n s at_ R h := by kernel_rfl
theorem run6 (n : Int) (s : ByteArray) (at_ : Int) (R : Value → Heap → Prop) (h : Heap) (hv : VC6 Tryd.prog n s at_ R h) : CallsH Tryd.prog 6 #[(.int .i64 n), (.string s), (.int .i64 at_)] h R := calls_of_fnC (Checked.mixed Tryd.checked) Tryd.func6 comp6 (Nat.le_of_ble_eq_true rfl) (by rw [vc6]; exact hv)

/-! 7: trestle/trestlelaw02.WordsTexts -/
def code7 : SCode := (.seq (.region false [⟨(some 6), .mv (.const (.bool false)), none⟩]) (.seq (.region false [⟨(some 16), .mv (.tmp 0), none⟩,
  ⟨(some 17), .call 34 [(.tmp 16)] (.tup [.one (.slice), .agg [.int .i64, .int .i64]]), none⟩,
  ⟨(some 15), .mv (.tmp 17), none⟩,
  ⟨(some 18), .extr (.tmp 15) 0, none⟩,
  ⟨(some 19), .extr (.tmp 15) 1, none⟩,
  ⟨(some 8), .alloc 25 (.agg #[(.int .i64 0), (.int .i64 0)]), none⟩,
  ⟨(some 7), .mv (.tmp 18), none⟩,
  ⟨none, .st 2 (.tmp 8) (.tmp 19), none⟩]) (.seq (.region false [⟨(some 21), .mv (.tmp 0), none⟩,
  ⟨(some 22), .call 35 [(.tmp 21)] (.tup [.one (.slice), .agg [.int .i64, .int .i64]]), none⟩,
  ⟨(some 20), .mv (.tmp 22), none⟩,
  ⟨(some 23), .extr (.tmp 20) 0, none⟩,
  ⟨(some 24), .extr (.tmp 20) 1, none⟩,
  ⟨(some 10), .alloc 25 (.agg #[(.int .i64 0), (.int .i64 0)]), none⟩,
  ⟨(some 9), .mv (.tmp 23), none⟩,
  ⟨none, .st 2 (.tmp 10) (.tmp 24), none⟩]) (.seq (.region false [⟨(some 26), .mv (.tmp 1), none⟩,
  ⟨(some 27), .mv (.tmp 2), none⟩,
  ⟨(some 28), .call 36 [(.tmp 26), (.tmp 27)] (.tup [.one (.slice), .one (.int .i64)]), none⟩,
  ⟨(some 25), .mv (.tmp 28), none⟩,
  ⟨(some 29), .extr (.tmp 25) 0, none⟩,
  ⟨(some 30), .extr (.tmp 25) 1, none⟩,
  ⟨(some 11), .mv (.tmp 29), none⟩,
  ⟨(some 12), .mv (.tmp 30), none⟩]) (.seq (.region false [⟨(some 32), .mv (.tmp 1), none⟩,
  ⟨(some 33), .mv (.tmp 2), none⟩,
  ⟨(some 34), .call 37 [(.tmp 32), (.tmp 33)] (.tup [.one (.slice), .one (.int .i64)]), none⟩,
  ⟨(some 31), .mv (.tmp 34), none⟩,
  ⟨(some 35), .extr (.tmp 31) 0, none⟩,
  ⟨(some 36), .extr (.tmp 31) 1, none⟩,
  ⟨(some 13), .mv (.tmp 35), none⟩,
  ⟨(some 14), .mv (.tmp 36), none⟩]) (.seq (.region false [⟨(some 37), .mv (.tmp 7), none⟩,
  ⟨(some 38), .mv (.tmp 9), none⟩,
  ⟨(some 39), .call 26 [(.tmp 37), (.tmp 38)] (.val (.one (.bool))), none⟩,
  ⟨(some 40), .mv (.tmp 39), none⟩,
  ⟨(some 41), .ldn [.int .i64, .int .i64] (.tmp 8), (some (40, true))⟩,
  ⟨(some 42), .ldn [.int .i64, .int .i64] (.tmp 10), (some (40, true))⟩,
  ⟨(some 43), .eqagg false [.int .i64, .int .i64] (.tmp 41) (.tmp 42), (some (40, true))⟩,
  ⟨(some 44), .pick (.tmp 40) (.tmp 43) (.const (.bool false)), none⟩,
  ⟨(some 45), .mv (.tmp 44), none⟩,
  ⟨(some 46), .mv (.tmp 11), (some (45, true))⟩,
  ⟨(some 47), .mv (.tmp 13), (some (45, true))⟩,
  ⟨(some 48), .call 26 [(.tmp 46), (.tmp 47)] (.val (.one (.bool))), (some (45, true))⟩,
  ⟨(some 49), .pick (.tmp 45) (.tmp 48) (.const (.bool false)), none⟩,
  ⟨(some 50), .mv (.tmp 49), none⟩,
  ⟨(some 51), .mv (.tmp 12), (some (50, true))⟩,
  ⟨(some 52), .mv (.tmp 14), (some (50, true))⟩,
  ⟨(some 53), .icmp .eql .i64 (.tmp 51) (.tmp 52), (some (50, true))⟩,
  ⟨(some 54), .pick (.tmp 50) (.tmp 53) (.const (.bool false)), none⟩,
  ⟨(some 55), .mv (.tmp 54), none⟩,
  ⟨(some 56), .call 12 [] (.val (.one (.bool))), (some (55, true))⟩,
  ⟨(some 57), .pick (.tmp 55) (.tmp 56) (.const (.bool false)), none⟩,
  ⟨(some 6), .mv (.tmp 57), none⟩]) .ret))))))
def loops7 : List (List (Nat × Shp)) := []
def ret7 : List RV := [.tmp 6]
theorem comp7 : compF Tryd.prog Tryd.f7 loops7 = some (58, ret7, code7) := by kernel_rfl
def VC7 (P : Program) (s : ByteArray) (index : Int) (n : Int) (R : Value → Heap → Prop) (h : Heap) : Prop :=
 CallsH P 34 #[(.string s)] h fun v h_ =>
 ∃ (A : Option Addr), ∃ (N : Nat), ∃ (C : Nat), ∃ (t : Int), ∃ (t1 : Int), v = (.tuple #[(.slice A N C), (.agg #[(.int .i64 t), (.int .i64 t1)])]) ∧ let h_1 : Heap := (h_).push (.cells #[(.int .i64 0), (.int .i64 0)] 25); StoreH h_1 (Addr.mk (h_).size 0 none) [(.int .i64 t), (.int .i64 t1)] fun h_2 => CallsH P 35 #[(.string s)] h_2 fun v1 h_3 =>
 ∃ (A1 : Option Addr), ∃ (N1 : Nat), ∃ (C1 : Nat), ∃ (t2 : Int), ∃ (t3 : Int), v1 = (.tuple #[(.slice A1 N1 C1), (.agg #[(.int .i64 t2), (.int .i64 t3)])]) ∧ let h_4 : Heap := (h_3).push (.cells #[(.int .i64 0), (.int .i64 0)] 25); StoreH h_4 (Addr.mk (h_3).size 0 none) [(.int .i64 t2), (.int .i64 t3)] fun h_5 => CallsH P 36 #[(.int .i64 index), (.int .i64 n)] h_5 fun v2 h_6 =>
 ∃ (A2 : Option Addr), ∃ (N2 : Nat), ∃ (C2 : Nat), ∃ (t4 : Int), v2 = (.tuple #[(.slice A2 N2 C2), (.int .i64 t4)]) ∧ CallsH P 37 #[(.int .i64 index), (.int .i64 n)] h_6 fun v3 h_7 =>
 ∃ (A3 : Option Addr), ∃ (N3 : Nat), ∃ (C3 : Nat), ∃ (t5 : Int), v3 = (.tuple #[(.slice A3 N3 C3), (.int .i64 t5)]) ∧ CallsH P 26 #[(.slice A N C), (.slice A1 N1 C1)] h_7 fun v4 h_8 =>
 ∃ (t6 : Bool), v4 = (.bool t6) ∧ BIf t6 (∃ (t7 : Int), ∃ (t8 : Int), cellsH h_8 (Addr.mk (h_).size 0 none) 0 [(.int .i64 t7), (.int .i64 t8)] ∧ ∃ (t9 : Int), ∃ (t10 : Int), cellsH h_8 (Addr.mk (h_3).size 0 none) 0 [(.int .i64 t9), (.int .i64 t10)] ∧ PIf ((#[(.int .i64 t7), (.int .i64 t8)] : Array Value) = #[(.int .i64 t9), (.int .i64 t10)])
 (CallsH P 26 #[(.slice A2 N2 C2), (.slice A3 N3 C3)] h_8 fun v5 h_9 =>
 ∃ (t11 : Bool), v5 = (.bool t11) ∧ BIf t11 (PIf ((t4 : Int) = t5)
 (CallsH P 12 #[] h_9 fun v6 h_10 =>
 ∃ (t12 : Bool), v6 = (.bool t12) ∧ R (.bool t12) h_10)
 (R (.bool false) h_9)) (R (.bool false) h_9))
 (R (.bool false) h_8)) (R (.bool false) h_8)
theorem vc7 (P : Program) (s : ByteArray) (index : Int) (n : Int) (R : Value → Heap → Prop) (h : Heap) : fnC P ret7 code7 [(.string s), (.int .i64 index), (.int .i64 n)] h R = VC7 P s index n R h := by kernel_rfl
theorem run7 (s : ByteArray) (index : Int) (n : Int) (R : Value → Heap → Prop) (h : Heap) (hv : VC7 Tryd.prog s index n R h) : CallsH Tryd.prog 7 #[(.string s), (.int .i64 index), (.int .i64 n)] h R := calls_of_fnC (Checked.mixed Tryd.checked) Tryd.func7 comp7 (Nat.le_of_ble_eq_true rfl) (by rw [vc7]; exact hv)

/-! 8: trestle/trestlelaw02.WordsBack -/
def code8 : SCode := (.seq (.region false [⟨(some 6), .mv (.const (.bool false)), none⟩]) (.seq (.seq (.region false [⟨(some 18), .call 12 [] (.val (.one (.bool))), none⟩,
  ⟨(some 19), .not (.tmp 18), none⟩]) (.cond (.tmp 19) (.seq (.region false [⟨(some 6), .mv (.const (.bool false)), none⟩]) .ret) .skip)) (.seq (.seq (.region false [⟨(some 20), .mv (.tmp 2), none⟩,
  ⟨(some 21), .lenS (.tmp 20), none⟩,
  ⟨(some 22), .icmp .gtr .i64 (.tmp 21) (.const (.int .i64 1000)), none⟩]) (.cond (.tmp 22) (.seq (.region false [⟨(some 6), .mv (.const (.bool true)), none⟩]) .ret) .skip)) (.seq (.region false [⟨(some 24), .mv (.tmp 0), none⟩,
  ⟨(some 25), .call 14 [(.tmp 24)] (.tup [.one (.str), .one (.int .i64)]), none⟩,
  ⟨(some 23), .mv (.tmp 25), none⟩,
  ⟨(some 26), .extr (.tmp 23) 0, none⟩,
  ⟨(some 27), .extr (.tmp 23) 1, none⟩,
  ⟨(some 7), .mv (.tmp 26), none⟩,
  ⟨(some 8), .mv (.tmp 27), none⟩]) (.seq (.region false [⟨(some 29), .mv (.tmp 0), none⟩,
  ⟨(some 30), .call 28 [(.tmp 29)] (.tup [.one (.str), .one (.int .i64)]), none⟩,
  ⟨(some 28), .mv (.tmp 30), none⟩,
  ⟨(some 31), .extr (.tmp 28) 0, none⟩,
  ⟨(some 32), .extr (.tmp 28) 1, none⟩,
  ⟨(some 9), .mv (.tmp 31), none⟩,
  ⟨(some 10), .mv (.tmp 32), none⟩]) (.seq (.seq (.region false [⟨(some 33), .mv (.tmp 8), none⟩,
  ⟨(some 34), .icmp .neq .i64 (.tmp 33) (.const (.int .i64 0)), none⟩,
  ⟨(some 35), .mv (.tmp 34), none⟩,
  ⟨(some 36), .mv (.tmp 10), (some (35, false))⟩,
  ⟨(some 37), .icmp .neq .i64 (.tmp 36) (.const (.int .i64 0)), (some (35, false))⟩,
  ⟨(some 38), .pick (.tmp 35) (.const (.bool true)) (.tmp 37), none⟩]) (.cond (.tmp 38) (.seq (.region false [⟨(some 39), .mv (.tmp 7), none⟩,
  ⟨(some 40), .scmp .eql (.tmp 39) (.const (.string (ByteArray.mk #[]))), none⟩,
  ⟨(some 41), .mv (.tmp 40), none⟩,
  ⟨(some 42), .mv (.tmp 9), (some (41, true))⟩,
  ⟨(some 43), .scmp .eql (.tmp 42) (.const (.string (ByteArray.mk #[]))), (some (41, true))⟩,
  ⟨(some 44), .pick (.tmp 41) (.tmp 43) (.const (.bool false)), none⟩,
  ⟨(some 45), .mv (.tmp 44), none⟩,
  ⟨(some 46), .mv (.tmp 0), (some (45, true))⟩,
  ⟨(some 47), .icmp .lss .i64 (.tmp 46) (.const (.int .i64 0)), (some (45, true))⟩,
  ⟨(some 48), .mv (.tmp 47), (some (45, true))⟩,
  ⟨(some 49), .mv (.tmp 0), (some (48, false))⟩,
  ⟨(some 50), .icmp .gtr .i64 (.tmp 49) (.const (.int .i64 2147483647)), (some (48, false))⟩,
  ⟨(some 51), .pick (.tmp 48) (.const (.bool true)) (.tmp 50), (some (45, true))⟩,
  ⟨(some 52), .pick (.tmp 45) (.tmp 51) (.const (.bool false)), none⟩,
  ⟨(some 6), .mv (.tmp 52), none⟩]) .ret) .skip)) (.seq (.region false [⟨(some 54), .mv (.tmp 2), none⟩,
  ⟨(some 55), .mv (.tmp 7), none⟩,
  ⟨(some 56), .sadd (.tmp 54) (.tmp 55), none⟩,
  ⟨(some 57), .mv (.tmp 2), none⟩,
  ⟨(some 58), .sadd (.tmp 56) (.tmp 57), none⟩,
  ⟨(some 59), .mv (.tmp 2), none⟩,
  ⟨(some 60), .lenS (.tmp 59), none⟩,
  ⟨(some 61), .call 13 [(.tmp 58), (.tmp 60)] (.tup [.one (.int .i64), .one (.int .i64), .agg [.int .i64, .int .i64]]), none⟩,
  ⟨(some 53), .mv (.tmp 61), none⟩,
  ⟨(some 62), .extr (.tmp 53) 0, none⟩,
  ⟨(some 63), .extr (.tmp 53) 1, none⟩,
  ⟨(some 64), .extr (.tmp 53) 2, none⟩,
  ⟨(some 13), .alloc 25 (.agg #[(.int .i64 0), (.int .i64 0)]), none⟩,
  ⟨(some 11), .mv (.tmp 62), none⟩,
  ⟨(some 12), .mv (.tmp 63), none⟩,
  ⟨none, .st 2 (.tmp 13) (.tmp 64), none⟩]) (.seq (.region false [⟨(some 66), .mv (.tmp 2), none⟩,
  ⟨(some 67), .mv (.tmp 9), none⟩,
  ⟨(some 68), .sadd (.tmp 66) (.tmp 67), none⟩,
  ⟨(some 69), .sadd (.tmp 68) (.const (.string (ByteArray.mk #[120]))), none⟩,
  ⟨(some 70), .mv (.tmp 2), none⟩,
  ⟨(some 71), .lenS (.tmp 70), none⟩,
  ⟨(some 72), .call 32 [(.tmp 69), (.tmp 71)] (.tup [.one (.int .i64), .one (.int .i64), .agg [.int .i64, .int .i64]]), none⟩,
  ⟨(some 65), .mv (.tmp 72), none⟩,
  ⟨(some 73), .extr (.tmp 65) 0, none⟩,
  ⟨(some 74), .extr (.tmp 65) 1, none⟩,
  ⟨(some 75), .extr (.tmp 65) 2, none⟩,
  ⟨(some 16), .alloc 25 (.agg #[(.int .i64 0), (.int .i64 0)]), none⟩,
  ⟨(some 14), .mv (.tmp 73), none⟩,
  ⟨(some 15), .mv (.tmp 74), none⟩,
  ⟨none, .st 2 (.tmp 16) (.tmp 75), none⟩]) (.seq (.seq (.region false [⟨(some 76), .ldn [.int .i64, .int .i64] (.tmp 13), none⟩,
  ⟨(some 77), .mkAgg #[(.int .i64 0), (.int .i64 0)] [], none⟩,
  ⟨(some 78), .eqagg true [.int .i64, .int .i64] (.tmp 76) (.tmp 77), none⟩,
  ⟨(some 79), .mv (.tmp 78), none⟩,
  ⟨(some 80), .ldn [.int .i64, .int .i64] (.tmp 16), (some (79, false))⟩,
  ⟨(some 81), .mkAgg #[(.int .i64 0), (.int .i64 0)] [], (some (79, false))⟩,
  ⟨(some 82), .eqagg true [.int .i64, .int .i64] (.tmp 80) (.tmp 81), (some (79, false))⟩,
  ⟨(some 83), .pick (.tmp 79) (.const (.bool true)) (.tmp 82), none⟩,
  ⟨(some 84), .mv (.tmp 83), none⟩,
  ⟨(some 85), .mv (.tmp 11), (some (84, false))⟩,
  ⟨(some 86), .mv (.tmp 0), (some (84, false))⟩,
  ⟨(some 87), .icmp .neq .i64 (.tmp 85) (.tmp 86), (some (84, false))⟩,
  ⟨(some 88), .pick (.tmp 84) (.const (.bool true)) (.tmp 87), none⟩,
  ⟨(some 89), .mv (.tmp 88), none⟩,
  ⟨(some 90), .mv (.tmp 14), (some (89, false))⟩,
  ⟨(some 91), .mv (.tmp 0), (some (89, false))⟩,
  ⟨(some 92), .icmp .neq .i64 (.tmp 90) (.tmp 91), (some (89, false))⟩,
  ⟨(some 93), .pick (.tmp 89) (.const (.bool true)) (.tmp 92), none⟩,
  ⟨(some 94), .mv (.tmp 93), none⟩,
  ⟨(some 95), .mv (.tmp 12), (some (94, false))⟩,
  ⟨(some 96), .mv (.tmp 2), (some (94, false))⟩,
  ⟨(some 97), .lenS (.tmp 96), (some (94, false))⟩,
  ⟨(some 98), .mv (.tmp 7), (some (94, false))⟩,
  ⟨(some 99), .lenS (.tmp 98), (some (94, false))⟩,
  ⟨(some 100), .arith .add .i64 (.tmp 97) (.tmp 99), (some (94, false))⟩,
  ⟨(some 101), .icmp .neq .i64 (.tmp 95) (.tmp 100), (some (94, false))⟩,
  ⟨(some 102), .pick (.tmp 94) (.const (.bool true)) (.tmp 101), none⟩,
  ⟨(some 103), .mv (.tmp 102), none⟩,
  ⟨(some 104), .mv (.tmp 15), (some (103, false))⟩,
  ⟨(some 105), .mv (.tmp 2), (some (103, false))⟩,
  ⟨(some 106), .lenS (.tmp 105), (some (103, false))⟩,
  ⟨(some 107), .mv (.tmp 9), (some (103, false))⟩,
  ⟨(some 108), .lenS (.tmp 107), (some (103, false))⟩,
  ⟨(some 109), .arith .add .i64 (.tmp 106) (.tmp 108), (some (103, false))⟩,
  ⟨(some 110), .icmp .neq .i64 (.tmp 104) (.tmp 109), (some (103, false))⟩,
  ⟨(some 111), .pick (.tmp 103) (.const (.bool true)) (.tmp 110), none⟩]) (.cond (.tmp 111) (.seq (.region false [⟨(some 6), .mv (.const (.bool false)), none⟩]) .ret) .skip)) (.seq (.region false [⟨(some 113), .mv (.tmp 1), none⟩,
  ⟨(some 114), .call 14 [(.tmp 113)] (.tup [.one (.str), .one (.int .i64)]), none⟩,
  ⟨(some 112), .mv (.tmp 114), none⟩,
  ⟨(some 115), .extr (.tmp 112) 0, none⟩,
  ⟨(some 116), .extr (.tmp 112) 1, none⟩,
  ⟨(some 17), .mv (.tmp 115), none⟩,
  ⟨(some 8), .mv (.tmp 116), none⟩]) (.seq (.region false [⟨(some 117), .mv (.tmp 8), none⟩,
  ⟨(some 118), .icmp .neq .i64 (.tmp 117) (.const (.int .i64 0)), none⟩,
  ⟨(some 119), .mv (.tmp 118), none⟩,
  ⟨(some 120), .mv (.tmp 1), (some (119, false))⟩,
  ⟨(some 121), .mv (.tmp 0), (some (119, false))⟩,
  ⟨(some 122), .icmp .lss .i64 (.tmp 120) (.tmp 121), (some (119, false))⟩,
  ⟨(some 123), .pick (.tmp 119) (.const (.bool true)) (.tmp 122), none⟩,
  ⟨(some 124), .mv (.tmp 123), none⟩,
  ⟨(some 125), .mv (.tmp 17), (some (124, false))⟩,
  ⟨(some 126), .lenS (.tmp 125), (some (124, false))⟩,
  ⟨(some 127), .mv (.tmp 7), (some (124, false))⟩,
  ⟨(some 128), .lenS (.tmp 127), (some (124, false))⟩,
  ⟨(some 129), .icmp .geq .i64 (.tmp 126) (.tmp 128), (some (124, false))⟩,
  ⟨(some 130), .pick (.tmp 124) (.const (.bool true)) (.tmp 129), none⟩,
  ⟨(some 6), .mv (.tmp 130), none⟩]) .ret)))))))))))
def loops8 : List (List (Nat × Shp)) := []
def ret8 : List RV := [.tmp 6]
theorem comp8 : compF Tryd.prog Tryd.f8 loops8 = some (131, ret8, code8) := by kernel_rfl
def J8_3  (P : Program) (R : Value → Heap → Prop) (n : Int) (m : Int) (t1 : ByteArray) (h_12 : Heap) : Prop :=
 CallsH P 14 #[(.int .i64 m)] h_12 fun v5 h_13 =>
 ∃ (t17 : ByteArray), ∃ (t18 : Int), v5 = (.tuple #[(.string t17), (.int .i64 t18)]) ∧ PIf ((t18 : Int) = 0)
 (PIf ((m : Int) < n)
 (R (.bool true) h_13)
 (PIf ((((t1.size : Nat) : Int) : Int) ≤ ((t17.size : Nat) : Int))
 (R (.bool true) h_13)
 (R (.bool false) h_13)))
 (R (.bool true) h_13)
def J8_2  (P : Program) (R : Value → Heap → Prop) (n : Int) (m : Int) (ahead : ByteArray) (t1 : ByteArray) (t3 : ByteArray) (h_5 : Heap) : Prop :=
 ahead.size + t1.size ≤ 9223372036854775807 ∧ (ahead ++ t1).size + ahead.size ≤ 9223372036854775807 ∧ CallsH P 13 #[(.string ((ahead ++ t1) ++ ahead)), (.int .i64 ((ahead.size : Nat) : Int))] h_5 fun v3 h_6 =>
 ∃ (t5 : Int), ∃ (t6 : Int), ∃ (t7 : Int), ∃ (t8 : Int), v3 = (.tuple #[(.int .i64 t5), (.int .i64 t6), (.agg #[(.int .i64 t7), (.int .i64 t8)])]) ∧ let h_7 : Heap := (h_6).push (.cells #[(.int .i64 0), (.int .i64 0)] 25); StoreH h_7 (Addr.mk (h_6).size 0 none) [(.int .i64 t7), (.int .i64 t8)] fun h_8 => ahead.size + t3.size ≤ 9223372036854775807 ∧ (ahead ++ t3).size + (ByteArray.mk #[120]).size ≤ 9223372036854775807 ∧ CallsH P 32 #[(.string ((ahead ++ t3) ++ (ByteArray.mk #[120]))), (.int .i64 ((ahead.size : Nat) : Int))] h_8 fun v4 h_9 =>
 ∃ (t9 : Int), ∃ (t10 : Int), ∃ (t11 : Int), ∃ (t12 : Int), v4 = (.tuple #[(.int .i64 t9), (.int .i64 t10), (.agg #[(.int .i64 t11), (.int .i64 t12)])]) ∧ let h_10 : Heap := (h_9).push (.cells #[(.int .i64 0), (.int .i64 0)] 25); StoreH h_10 (Addr.mk (h_9).size 0 none) [(.int .i64 t11), (.int .i64 t12)] fun h_11 => ∃ (t13 : Int), ∃ (t14 : Int), cellsH h_11 (Addr.mk (h_6).size 0 none) 0 [(.int .i64 t13), (.int .i64 t14)] ∧ PIf ((#[(.int .i64 t13), (.int .i64 t14)] : Array Value) = #[(.int .i64 0), (.int .i64 0)])
 (∃ (t15 : Int), ∃ (t16 : Int), cellsH h_11 (Addr.mk (h_9).size 0 none) 0 [(.int .i64 t15), (.int .i64 t16)] ∧ PIf ((#[(.int .i64 t15), (.int .i64 t16)] : Array Value) = #[(.int .i64 0), (.int .i64 0)])
 (PIf ((t5 : Int) = n)
 (PIf ((t9 : Int) = n)
 (PIf ((t6 : Int) = (IntKind.wrap .i64 (((ahead.size : Nat) : Int) + ((t1.size : Nat) : Int))))
 (PIf ((t10 : Int) = (IntKind.wrap .i64 (((ahead.size : Nat) : Int) + ((t3.size : Nat) : Int))))
 (J8_3 P R n m t1 h_11)
 (R (.bool false) h_11))
 (R (.bool false) h_11))
 (R (.bool false) h_11))
 (R (.bool false) h_11))
 (R (.bool false) h_11))
 (R (.bool false) h_11)
def J8_1  (P : Program) (R : Value → Heap → Prop) (n : Int) (m : Int) (ahead : ByteArray) (h_2 : Heap) : Prop :=
 CallsH P 14 #[(.int .i64 n)] h_2 fun v1 h_3 =>
 ∃ (t1 : ByteArray), ∃ (t2 : Int), v1 = (.tuple #[(.string t1), (.int .i64 t2)]) ∧ CallsH P 28 #[(.int .i64 n)] h_3 fun v2 h_4 =>
 ∃ (t3 : ByteArray), ∃ (t4 : Int), v2 = (.tuple #[(.string t3), (.int .i64 t4)]) ∧ PIf ((t2 : Int) = 0)
 (PIf ((t4 : Int) = 0)
 (J8_2 P R n m ahead t1 t3 h_4)
 (PIf ((t1 : ByteArray) = (ByteArray.mk #[]))
 (PIf ((t3 : ByteArray) = (ByteArray.mk #[]))
 (PIf ((n : Int) < 0)
 (R (.bool true) h_4)
 (PIf ((2147483647 : Int) < n)
 (R (.bool true) h_4)
 (R (.bool false) h_4)))
 (R (.bool false) h_4))
 (R (.bool false) h_4)))
 (PIf ((t1 : ByteArray) = (ByteArray.mk #[]))
 (PIf ((t3 : ByteArray) = (ByteArray.mk #[]))
 (PIf ((n : Int) < 0)
 (R (.bool true) h_4)
 (PIf ((2147483647 : Int) < n)
 (R (.bool true) h_4)
 (R (.bool false) h_4)))
 (R (.bool false) h_4))
 (R (.bool false) h_4))
def J8_0  (P : Program) (R : Value → Heap → Prop) (n : Int) (m : Int) (ahead : ByteArray) (h_1 : Heap) : Prop :=
 PIf ((1000 : Int) < ((ahead.size : Nat) : Int))
 (R (.bool true) h_1)
 (J8_1 P R n m ahead h_1)
def VC8 (P : Program) (n : Int) (m : Int) (ahead : ByteArray) (R : Value → Heap → Prop) (h : Heap) : Prop :=
 CallsH P 12 #[] h fun v h_ =>
 ∃ (t : Bool), v = (.bool t) ∧ BIf (!t) (R (.bool false) h_) (J8_0 P R n m ahead h_)
theorem vc8 (P : Program) (n : Int) (m : Int) (ahead : ByteArray) (R : Value → Heap → Prop) (h : Heap) : fnC P ret8 code8 [(.int .i64 n), (.int .i64 m), (.string ahead)] h R = VC8 P n m ahead R h := by kernel_rfl
theorem run8 (n : Int) (m : Int) (ahead : ByteArray) (R : Value → Heap → Prop) (h : Heap) (hv : VC8 Tryd.prog n m ahead R h) : CallsH Tryd.prog 8 #[(.int .i64 n), (.int .i64 m), (.string ahead)] h R := calls_of_fnC (Checked.mixed Tryd.checked) Tryd.func8 comp8 (Nat.le_of_ble_eq_true rfl) (by rw [vc8]; exact hv)

/-! 9: trestle/trestlelaw02.WordsShifts -/
def code9 : SCode := (.seq (.region false [⟨(some 6), .mv (.const (.bool false)), none⟩]) (.seq (.region false [⟨(some 19), .lit 35 0 #[(.int .u64 0)] [], none⟩,
  ⟨(some 20), .mv (.tmp 0), none⟩,
  ⟨(some 21), .app 35 8 1 #[(.int .u64 0)] (.tmp 19) (.tmp 20), none⟩,
  ⟨(some 22), .lit 35 1 #[(.int .u64 0)] [(0, 1, (.const (.int .u64 77)))], none⟩,
  ⟨(some 23), .app 35 8 1 #[(.int .u64 0)] (.tmp 21) (.tmp 22), none⟩,
  ⟨(some 24), .mv (.tmp 0), none⟩,
  ⟨(some 25), .len (.tmp 24), none⟩,
  ⟨(some 26), .slc 1 (.tmp 23) none (some (.tmp 25)), none⟩,
  ⟨(some 7), .mv (.tmp 26), none⟩]) (.seq (.region false [⟨(some 28), .mv (.tmp 7), none⟩,
  ⟨(some 29), .mv (.tmp 1), none⟩,
  ⟨(some 30), .call 38 [(.tmp 28), (.tmp 29)] (.tup [.one (.slice), .one (.int .i64)]), none⟩,
  ⟨(some 27), .mv (.tmp 30), none⟩,
  ⟨(some 31), .extr (.tmp 27) 0, none⟩,
  ⟨(some 32), .extr (.tmp 27) 1, none⟩,
  ⟨(some 8), .mv (.tmp 31), none⟩,
  ⟨(some 9), .mv (.tmp 32), none⟩]) (.seq (.region false [⟨(some 34), .mv (.tmp 0), none⟩,
  ⟨(some 35), .mv (.tmp 1), none⟩,
  ⟨(some 36), .call 39 [(.tmp 34), (.tmp 35)] (.tup [.one (.slice), .one (.int .i64)]), none⟩,
  ⟨(some 33), .mv (.tmp 36), none⟩,
  ⟨(some 37), .extr (.tmp 33) 0, none⟩,
  ⟨(some 38), .extr (.tmp 33) 1, none⟩,
  ⟨(some 10), .mv (.tmp 37), none⟩,
  ⟨(some 11), .mv (.tmp 38), none⟩]) (.seq (.region false [⟨(some 40), .mv (.tmp 7), none⟩,
  ⟨(some 41), .mv (.tmp 1), none⟩,
  ⟨(some 42), .mv (.tmp 2), none⟩,
  ⟨(some 43), .call 40 [(.tmp 40), (.tmp 41), (.tmp 42)] (.tup [.one (.slice), .one (.int .i64)]), none⟩,
  ⟨(some 39), .mv (.tmp 43), none⟩,
  ⟨(some 44), .extr (.tmp 39) 0, none⟩,
  ⟨(some 45), .extr (.tmp 39) 1, none⟩,
  ⟨(some 12), .mv (.tmp 44), none⟩,
  ⟨(some 13), .mv (.tmp 45), none⟩]) (.seq (.region false [⟨(some 47), .mv (.tmp 7), none⟩,
  ⟨(some 48), .mv (.tmp 1), none⟩,
  ⟨(some 49), .mv (.tmp 2), none⟩,
  ⟨(some 50), .call 40 [(.tmp 47), (.tmp 48), (.tmp 49)] (.tup [.one (.slice), .one (.int .i64)]), none⟩,
  ⟨(some 46), .mv (.tmp 50), none⟩,
  ⟨(some 51), .extr (.tmp 46) 0, none⟩,
  ⟨(some 52), .extr (.tmp 46) 1, none⟩,
  ⟨(some 14), .mv (.tmp 51), none⟩,
  ⟨(some 15), .mv (.tmp 52), none⟩]) (.seq (.region false [⟨(some 54), .mv (.tmp 0), none⟩,
  ⟨(some 55), .mv (.tmp 1), none⟩,
  ⟨(some 56), .mv (.tmp 2), none⟩,
  ⟨(some 57), .call 41 [(.tmp 54), (.tmp 55), (.tmp 56)] (.tup [.one (.slice), .one (.int .i64)]), none⟩,
  ⟨(some 53), .mv (.tmp 57), none⟩,
  ⟨(some 58), .extr (.tmp 53) 0, none⟩,
  ⟨(some 59), .extr (.tmp 53) 1, none⟩,
  ⟨(some 16), .mv (.tmp 58), none⟩,
  ⟨(some 17), .mv (.tmp 59), none⟩]) (.seq (.seq (.region false [⟨(some 60), .mv (.tmp 8), none⟩,
  ⟨(some 61), .mv (.tmp 10), none⟩,
  ⟨(some 62), .call 26 [(.tmp 60), (.tmp 61)] (.val (.one (.bool))), none⟩,
  ⟨(some 63), .not (.tmp 62), none⟩,
  ⟨(some 64), .mv (.tmp 63), none⟩,
  ⟨(some 65), .mv (.tmp 9), (some (64, false))⟩,
  ⟨(some 66), .mv (.tmp 11), (some (64, false))⟩,
  ⟨(some 67), .icmp .neq .i64 (.tmp 65) (.tmp 66), (some (64, false))⟩,
  ⟨(some 68), .pick (.tmp 64) (.const (.bool true)) (.tmp 67), none⟩,
  ⟨(some 69), .mv (.tmp 68), none⟩,
  ⟨(some 70), .mv (.tmp 12), (some (69, false))⟩,
  ⟨(some 71), .mv (.tmp 16), (some (69, false))⟩,
  ⟨(some 72), .call 19 [(.tmp 70), (.tmp 71)] (.val (.one (.bool))), (some (69, false))⟩,
  ⟨(some 73), .not (.tmp 72), (some (69, false))⟩,
  ⟨(some 74), .pick (.tmp 69) (.const (.bool true)) (.tmp 73), none⟩,
  ⟨(some 75), .mv (.tmp 74), none⟩,
  ⟨(some 76), .mv (.tmp 13), (some (75, false))⟩,
  ⟨(some 77), .mv (.tmp 17), (some (75, false))⟩,
  ⟨(some 78), .icmp .neq .i64 (.tmp 76) (.tmp 77), (some (75, false))⟩,
  ⟨(some 79), .pick (.tmp 75) (.const (.bool true)) (.tmp 78), none⟩,
  ⟨(some 80), .mv (.tmp 79), none⟩,
  ⟨(some 81), .mv (.tmp 7), (some (80, false))⟩,
  ⟨(some 82), .call 42 [(.tmp 81)] (.val (.one (.int .i64))), (some (80, false))⟩,
  ⟨(some 83), .mv (.tmp 0), (some (80, false))⟩,
  ⟨(some 84), .call 43 [(.tmp 83)] (.val (.one (.int .i64))), (some (80, false))⟩,
  ⟨(some 85), .icmp .neq .i64 (.tmp 82) (.tmp 84), (some (80, false))⟩,
  ⟨(some 86), .pick (.tmp 80) (.const (.bool true)) (.tmp 85), none⟩]) (.cond (.tmp 86) (.seq (.region false [⟨(some 6), .mv (.const (.bool false)), none⟩]) .ret) .skip)) (.seq (.seq (.region false [⟨(some 18), .mv (.const (.int .i64 0)), none⟩]) (.block 0 (.loop [(18, .int .i64)] [87, 88, 89, 90, 93, 94, 95, 91, 92, 18] (.seq (.seq (.region false [⟨(some 87), .mv (.tmp 18), none⟩,
  ⟨(some 88), .mv (.tmp 12), none⟩,
  ⟨(some 89), .len (.tmp 88), none⟩,
  ⟨(some 90), .icmp .lss .i64 (.tmp 87) (.tmp 89), none⟩]) (.cond (.tmp 90) .skip (.exit 0))) (.seq (.block 1 (.region false [⟨(some 93), .mv (.tmp 12), none⟩,
  ⟨(some 94), .mv (.tmp 18), none⟩,
  ⟨(some 95), .idxA 1 (.tmp 93) (.tmp 94), none⟩,
  ⟨none, .st 1 (.tmp 95) (.const (.int .u64 99)), none⟩])) (.region false [⟨(some 91), .mv (.tmp 18), none⟩,
  ⟨(some 92), .arith .add .i64 (.tmp 91) (.const (.int .i64 1)), none⟩,
  ⟨(some 18), .mv (.tmp 92), none⟩])))))) (.seq (.region false [⟨(some 96), .mv (.tmp 14), none⟩,
  ⟨(some 97), .mv (.tmp 16), none⟩,
  ⟨(some 98), .call 19 [(.tmp 96), (.tmp 97)] (.val (.one (.bool))), none⟩,
  ⟨(some 99), .mv (.tmp 98), none⟩,
  ⟨(some 100), .mv (.tmp 7), (some (99, true))⟩,
  ⟨(some 101), .mv (.tmp 0), (some (99, true))⟩,
  ⟨(some 102), .call 19 [(.tmp 100), (.tmp 101)] (.val (.one (.bool))), (some (99, true))⟩,
  ⟨(some 103), .pick (.tmp 99) (.tmp 102) (.const (.bool false)), none⟩,
  ⟨(some 104), .mv (.tmp 103), none⟩,
  ⟨(some 105), .mv (.tmp 7), (some (104, true))⟩,
  ⟨(some 106), .mv (.tmp 0), (some (104, true))⟩,
  ⟨(some 107), .len (.tmp 106), (some (104, true))⟩,
  ⟨(some 108), .arith .add .i64 (.tmp 107) (.const (.int .i64 1)), (some (104, true))⟩,
  ⟨(some 109), .slc 1 (.tmp 105) none (some (.tmp 108)), (some (104, true))⟩,
  ⟨(some 110), .mv (.tmp 0), (some (104, true))⟩,
  ⟨(some 111), .len (.tmp 110), (some (104, true))⟩,
  ⟨(some 112), .idxA 1 (.tmp 109) (.tmp 111), (some (104, true))⟩,
  ⟨(some 113), .ld (.int .u64) (.tmp 112), (some (104, true))⟩,
  ⟨(some 114), .icmp .eql .u64 (.tmp 113) (.const (.int .u64 77)), (some (104, true))⟩,
  ⟨(some 115), .pick (.tmp 104) (.tmp 114) (.const (.bool false)), none⟩,
  ⟨(some 116), .mv (.tmp 115), none⟩,
  ⟨(some 117), .call 12 [] (.val (.one (.bool))), (some (116, true))⟩,
  ⟨(some 118), .pick (.tmp 116) (.tmp 117) (.const (.bool false)), none⟩,
  ⟨(some 6), .mv (.tmp 118), none⟩]) .ret))))))))))
def loops9 : List (List (Nat × Shp)) := [[(18, .int .i64)]]
def ret9 : List RV := [.tmp 6]
theorem comp9 : compF Tryd.prog Tryd.f9 loops9 = some (119, ret9, code9) := by kernel_rfl
def J9_1  (P : Program) (R : Value → Heap → Prop) (wA : (Option Addr)) (wN : Nat) (wC : Nat) (apA1 : (Option Addr)) (apC1 : Nat) (A3 : (Option Addr)) (N3 : Nat) (C3 : Nat) (A4 : (Option Addr)) (N4 : Nat) (C4 : Nat) (h_16 : Heap) : Prop :=
 CallsH P 19 #[(.slice A3 N3 C3), (.slice A4 N4 C4)] h_16 fun v9 h_17 =>
 ∃ (t9 : Bool), v9 = (.bool t9) ∧ BIf t9 (CallsH P 19 #[(.slice (cutA 1 apA1 apC1 (Int.toNat 0)) (Int.toNat ((wN : Nat) : Int) - Int.toNat 0) (apC1 - Int.toNat 0)), (.slice wA wN wC)] h_17 fun v10 h_18 =>
 ∃ (t10 : Bool), v10 = (.bool t10) ∧ BIf t10 (0 ≤ (0 : Int) ∧ (0 : Int) ≤ (IntKind.wrap .i64 (((wN : Nat) : Int) + 1)) ∧ ((IntKind.wrap .i64 (((wN : Nat) : Int) + 1)) : Int) ≤ ((apC1 - Int.toNat 0) : Nat) ∧ 0 ≤ (((wN : Nat) : Int) : Int) ∧ (((wN : Nat) : Int) : Int) < ((Int.toNat (IntKind.wrap .i64 (((wN : Nat) : Int) + 1)) - Int.toNat 0) : Nat) ∧ AtP (cutA 1 (cutA 1 apA1 apC1 (Int.toNat 0)) (apC1 - Int.toNat 0) (Int.toNat 0)) fun ad1 => ∃ (t11 : Int), cellH h_18 (Addr.add ad1 (Int.toNat ((wN : Nat) : Int) * 1)) = some (.int .u64 t11) ∧ PIf ((t11 : Int) = 77)
 (CallsH P 12 #[] h_18 fun v11 h_19 =>
 ∃ (t12 : Bool), v11 = (.bool t12) ∧ R (.bool t12) h_19)
 (R (.bool false) h_18)) (R (.bool false) h_18)) (R (.bool false) h_17)
def B9_2 (P : Program) (R : Value → Heap → Prop) (wA : (Option Addr)) (wN : Nat) (wC : Nat) (apA1 : (Option Addr)) (apC1 : Nat) (A2 : (Option Addr)) (N2 : Nat) (A3 : (Option Addr)) (N3 : Nat) (C3 : Nat) (A4 : (Option Addr)) (N4 : Nat) (C4 : Nat) (k : Int) (h_14 : Heap) (next_ : Int → Heap → Prop) : Prop :=
 PIf ((k : Int) < ((N2 : Nat) : Int))
 (0 ≤ (k : Int) ∧ (k : Int) < (N2 : Nat) ∧ AtP A2 fun ad => StoreH h_14 (Addr.add ad (Int.toNat k * 1)) [(.int .u64 99)] fun h_15 => next_ ((IntKind.wrap .i64 (k + 1))) h_15)
 (J9_1 P R wA wN wC apA1 apC1 A3 N3 C3 A4 N4 C4 h_14)
def J9_0  (P : Program) (R : Value → Heap → Prop) (wA : (Option Addr)) (wN : Nat) (wC : Nat) (apA1 : (Option Addr)) (apC1 : Nat) (A2 : (Option Addr)) (N2 : Nat) (A3 : (Option Addr)) (N3 : Nat) (C3 : Nat) (A4 : (Option Addr)) (N4 : Nat) (C4 : Nat) (h_13 : Heap) : Prop :=
 LoopT (σ := Int) (fun st_ h_st nx_st => B9_2 P R wA wN wC apA1 apC1 A2 N2 A3 N3 C3 A4 N4 C4 (st_) h_st nx_st) (0) h_13
def VC9 (P : Program) (wA : Option Addr) (wN : Nat) (wC : Nat) (n : Int) (by_ : Int) (R : Value → Heap → Prop) (h : Heap) : Prop :=
 let h_ : Heap := (h).push (.cells #[] 35); ∃ ys : List Value, ReadL h_ wA ys ∧ ys.length = wN * 1 ∧ AppS h_ (some (Addr.mk (h).size 0 none)) 0 0 35 8 1 #[(.int .u64 0)] ys wN fun apA apN apC h_1 => let h_2 : Heap := (h_1).push (.cells #[(.int .u64 77)] 35); ∃ ys1 : List Value, ReadL h_2 (some (Addr.mk (h_1).size 0 none)) ys1 ∧ ys1.length = 1 * 1 ∧ AppS h_2 apA apN apC 35 8 1 #[(.int .u64 0)] ys1 1 fun apA1 apN1 apC1 h_3 => 0 ≤ (0 : Int) ∧ (0 : Int) ≤ ((wN : Nat) : Int) ∧ (((wN : Nat) : Int) : Int) ≤ (apC1 : Nat) ∧ CallsH P 38 #[(.slice (cutA 1 apA1 apC1 (Int.toNat 0)) (Int.toNat ((wN : Nat) : Int) - Int.toNat 0) (apC1 - Int.toNat 0)), (.int .i64 n)] h_3 fun v h_4 =>
 ∃ (A : Option Addr), ∃ (N : Nat), ∃ (C : Nat), ∃ (t : Int), v = (.tuple #[(.slice A N C), (.int .i64 t)]) ∧ CallsH P 39 #[(.slice wA wN wC), (.int .i64 n)] h_4 fun v1 h_5 =>
 ∃ (A1 : Option Addr), ∃ (N1 : Nat), ∃ (C1 : Nat), ∃ (t1 : Int), v1 = (.tuple #[(.slice A1 N1 C1), (.int .i64 t1)]) ∧ CallsH P 40 #[(.slice (cutA 1 apA1 apC1 (Int.toNat 0)) (Int.toNat ((wN : Nat) : Int) - Int.toNat 0) (apC1 - Int.toNat 0)), (.int .i64 n), (.int .i64 by_)] h_5 fun v2 h_6 =>
 ∃ (A2 : Option Addr), ∃ (N2 : Nat), ∃ (C2 : Nat), ∃ (t2 : Int), v2 = (.tuple #[(.slice A2 N2 C2), (.int .i64 t2)]) ∧ CallsH P 40 #[(.slice (cutA 1 apA1 apC1 (Int.toNat 0)) (Int.toNat ((wN : Nat) : Int) - Int.toNat 0) (apC1 - Int.toNat 0)), (.int .i64 n), (.int .i64 by_)] h_6 fun v3 h_7 =>
 ∃ (A3 : Option Addr), ∃ (N3 : Nat), ∃ (C3 : Nat), ∃ (t3 : Int), v3 = (.tuple #[(.slice A3 N3 C3), (.int .i64 t3)]) ∧ CallsH P 41 #[(.slice wA wN wC), (.int .i64 n), (.int .i64 by_)] h_7 fun v4 h_8 =>
 ∃ (A4 : Option Addr), ∃ (N4 : Nat), ∃ (C4 : Nat), ∃ (t4 : Int), v4 = (.tuple #[(.slice A4 N4 C4), (.int .i64 t4)]) ∧ CallsH P 26 #[(.slice A N C), (.slice A1 N1 C1)] h_8 fun v5 h_9 =>
 ∃ (t5 : Bool), v5 = (.bool t5) ∧ BIf (!t5) (R (.bool false) h_9) (PIf ((t : Int) = t1)
 (CallsH P 19 #[(.slice A2 N2 C2), (.slice A4 N4 C4)] h_9 fun v6 h_10 =>
 ∃ (t6 : Bool), v6 = (.bool t6) ∧ BIf (!t6) (R (.bool false) h_10) (PIf ((t2 : Int) = t4)
 (CallsH P 42 #[(.slice (cutA 1 apA1 apC1 (Int.toNat 0)) (Int.toNat ((wN : Nat) : Int) - Int.toNat 0) (apC1 - Int.toNat 0))] h_10 fun v7 h_11 =>
 ∃ (t7 : Int), v7 = (.int .i64 t7) ∧ CallsH P 43 #[(.slice wA wN wC)] h_11 fun v8 h_12 =>
 ∃ (t8 : Int), v8 = (.int .i64 t8) ∧ PIf ((t7 : Int) = t8)
 (J9_0 P R wA wN wC apA1 apC1 A2 N2 A3 N3 C3 A4 N4 C4 h_12)
 (R (.bool false) h_12))
 (R (.bool false) h_10)))
 (R (.bool false) h_9))
theorem vc9 (P : Program) (wA : Option Addr) (wN : Nat) (wC : Nat) (n : Int) (by_ : Int) (R : Value → Heap → Prop) (h : Heap) : fnC P ret9 code9 [(.slice wA wN wC), (.int .i64 n), (.int .i64 by_)] h R = VC9 P wA wN wC n by_ R h := by kernel_rfl
theorem run9 (wA : Option Addr) (wN : Nat) (wC : Nat) (n : Int) (by_ : Int) (R : Value → Heap → Prop) (h : Heap) (hv : VC9 Tryd.prog wA wN wC n by_ R h) : CallsH Tryd.prog 9 #[(.slice wA wN wC), (.int .i64 n), (.int .i64 by_)] h R := calls_of_fnC (Checked.mixed Tryd.checked) Tryd.func9 comp9 (Nat.le_of_ble_eq_true rfl) (by rw [vc9]; exact hv)

/-! 10: trestle/trestlelaw02.WordsTwice -/
def code10 : SCode := (.seq (.region false [⟨(some 6), .mv (.const (.bool false)), none⟩]) (.seq (.seq (.region false [⟨(some 19), .call 12 [] (.val (.one (.bool))), none⟩,
  ⟨(some 20), .not (.tmp 19), none⟩]) (.cond (.tmp 20) (.seq (.region false [⟨(some 6), .mv (.const (.bool false)), none⟩]) .ret) .skip)) (.seq (.region false [⟨(some 22), .mv (.tmp 0), none⟩,
  ⟨(some 23), .call 20 [(.tmp 22)] (.tup [.one (.slice), .one (.int .i64)]), none⟩,
  ⟨(some 21), .mv (.tmp 23), none⟩,
  ⟨(some 24), .extr (.tmp 21) 0, none⟩,
  ⟨(some 25), .extr (.tmp 21) 1, none⟩,
  ⟨(some 7), .mv (.tmp 24), none⟩,
  ⟨(some 8), .mv (.tmp 25), none⟩]) (.seq (.seq (.region false [⟨(some 26), .mv (.tmp 8), none⟩,
  ⟨(some 27), .icmp .neq .i64 (.tmp 26) (.const (.int .i64 0)), none⟩,
  ⟨(some 28), .mv (.tmp 27), none⟩,
  ⟨(some 29), .mv (.tmp 1), (some (28, false))⟩,
  ⟨(some 30), .icmp .lss .i64 (.tmp 29) (.const (.int .i64 (-40000))), (some (28, false))⟩,
  ⟨(some 31), .pick (.tmp 28) (.const (.bool true)) (.tmp 30), none⟩,
  ⟨(some 32), .mv (.tmp 31), none⟩,
  ⟨(some 33), .mv (.tmp 1), (some (32, false))⟩,
  ⟨(some 34), .icmp .gtr .i64 (.tmp 33) (.const (.int .i64 40000)), (some (32, false))⟩,
  ⟨(some 35), .pick (.tmp 32) (.const (.bool true)) (.tmp 34), none⟩,
  ⟨(some 36), .mv (.tmp 35), none⟩,
  ⟨(some 37), .mv (.tmp 2), (some (36, false))⟩,
  ⟨(some 38), .icmp .lss .i64 (.tmp 37) (.const (.int .i64 (-40000))), (some (36, false))⟩,
  ⟨(some 39), .pick (.tmp 36) (.const (.bool true)) (.tmp 38), none⟩,
  ⟨(some 40), .mv (.tmp 39), none⟩,
  ⟨(some 41), .mv (.tmp 2), (some (40, false))⟩,
  ⟨(some 42), .icmp .gtr .i64 (.tmp 41) (.const (.int .i64 40000)), (some (40, false))⟩,
  ⟨(some 43), .pick (.tmp 40) (.const (.bool true)) (.tmp 42), none⟩]) (.cond (.tmp 43) (.seq (.region false [⟨(some 6), .mv (.const (.bool true)), none⟩]) .ret) .skip)) (.seq (.region false [⟨(some 44), .mv (.tmp 0), none⟩,
  ⟨(some 45), .len (.tmp 44), none⟩,
  ⟨(some 9), .mv (.tmp 45), none⟩]) (.seq (.seq (.region false [⟨(some 46), .mv (.tmp 1), none⟩,
  ⟨(some 47), .icmp .lss .i64 (.tmp 46) (.const (.int .i64 0)), none⟩,
  ⟨(some 48), .mv (.tmp 47), none⟩,
  ⟨(some 49), .mv (.tmp 2), (some (48, true))⟩,
  ⟨(some 50), .icmp .gtr .i64 (.tmp 49) (.const (.int .i64 0)), (some (48, true))⟩,
  ⟨(some 51), .pick (.tmp 48) (.tmp 50) (.const (.bool false)), none⟩,
  ⟨(some 52), .mv (.tmp 51), none⟩,
  ⟨(some 53), .mv (.tmp 1), (some (52, false))⟩,
  ⟨(some 54), .icmp .gtr .i64 (.tmp 53) (.const (.int .i64 0)), (some (52, false))⟩,
  ⟨(some 55), .mv (.tmp 54), (some (52, false))⟩,
  ⟨(some 56), .mv (.tmp 2), (some (55, true))⟩,
  ⟨(some 57), .icmp .lss .i64 (.tmp 56) (.const (.int .i64 0)), (some (55, true))⟩,
  ⟨(some 58), .pick (.tmp 55) (.tmp 57) (.const (.bool false)), (some (52, false))⟩,
  ⟨(some 59), .pick (.tmp 52) (.const (.bool true)) (.tmp 58), none⟩]) (.cond (.tmp 59) (.region false [⟨(some 60), .mv (.tmp 2), none⟩,
  ⟨(some 61), .neg .i64 (.tmp 60), none⟩,
  ⟨(some 2), .mv (.tmp 61), none⟩]) .skip)) (.seq (.region false [⟨(some 63), .mv (.tmp 7), none⟩,
  ⟨(some 64), .mv (.tmp 9), none⟩,
  ⟨(some 65), .mv (.tmp 1), none⟩,
  ⟨(some 66), .call 40 [(.tmp 63), (.tmp 64), (.tmp 65)] (.tup [.one (.slice), .one (.int .i64)]), none⟩,
  ⟨(some 62), .mv (.tmp 66), none⟩,
  ⟨(some 67), .extr (.tmp 62) 0, none⟩,
  ⟨(some 68), .extr (.tmp 62) 1, none⟩,
  ⟨(some 10), .mv (.tmp 67), none⟩,
  ⟨(some 8), .mv (.tmp 68), none⟩]) (.seq (.region false [⟨(some 70), .mv (.tmp 10), none⟩,
  ⟨(some 71), .mv (.tmp 9), none⟩,
  ⟨(some 72), .mv (.tmp 2), none⟩,
  ⟨(some 73), .call 40 [(.tmp 70), (.tmp 71), (.tmp 72)] (.tup [.one (.slice), .one (.int .i64)]), none⟩,
  ⟨(some 69), .mv (.tmp 73), none⟩,
  ⟨(some 74), .extr (.tmp 69) 0, none⟩,
  ⟨(some 75), .extr (.tmp 69) 1, none⟩,
  ⟨(some 11), .mv (.tmp 74), none⟩,
  ⟨(some 12), .mv (.tmp 75), none⟩]) (.seq (.region false [⟨(some 77), .mv (.tmp 7), none⟩,
  ⟨(some 78), .mv (.tmp 9), none⟩,
  ⟨(some 79), .mv (.tmp 1), none⟩,
  ⟨(some 80), .mv (.tmp 2), none⟩,
  ⟨(some 81), .arith .add .i64 (.tmp 79) (.tmp 80), none⟩,
  ⟨(some 82), .call 40 [(.tmp 77), (.tmp 78), (.tmp 81)] (.tup [.one (.slice), .one (.int .i64)]), none⟩,
  ⟨(some 76), .mv (.tmp 82), none⟩,
  ⟨(some 83), .extr (.tmp 76) 0, none⟩,
  ⟨(some 84), .extr (.tmp 76) 1, none⟩,
  ⟨(some 13), .mv (.tmp 83), none⟩,
  ⟨(some 14), .mv (.tmp 84), none⟩]) (.seq (.region false [⟨(some 86), .mv (.tmp 11), none⟩,
  ⟨(some 87), .mv (.tmp 13), none⟩,
  ⟨(some 88), .call 17 [(.tmp 86), (.tmp 87)] (.tup [.one (.slice), .one (.int .i64)]), none⟩,
  ⟨(some 85), .mv (.tmp 88), none⟩,
  ⟨(some 89), .extr (.tmp 85) 0, none⟩,
  ⟨(some 90), .extr (.tmp 85) 1, none⟩,
  ⟨(some 15), .mv (.tmp 89), none⟩,
  ⟨(some 16), .mv (.tmp 90), none⟩]) (.seq (.region false [⟨(some 92), .mv (.tmp 7), none⟩,
  ⟨(some 93), .mv (.tmp 7), none⟩,
  ⟨(some 94), .call 17 [(.tmp 92), (.tmp 93)] (.tup [.one (.slice), .one (.int .i64)]), none⟩,
  ⟨(some 91), .mv (.tmp 94), none⟩,
  ⟨(some 95), .extr (.tmp 91) 0, none⟩,
  ⟨(some 96), .extr (.tmp 91) 1, none⟩,
  ⟨(some 17), .mv (.tmp 95), none⟩,
  ⟨(some 18), .mv (.tmp 96), none⟩]) (.seq (.region false [⟨(some 97), .mv (.tmp 8), none⟩,
  ⟨(some 98), .icmp .eql .i64 (.tmp 97) (.const (.int .i64 0)), none⟩,
  ⟨(some 99), .mv (.tmp 98), none⟩,
  ⟨(some 100), .mv (.tmp 12), (some (99, true))⟩,
  ⟨(some 101), .icmp .eql .i64 (.tmp 100) (.const (.int .i64 0)), (some (99, true))⟩,
  ⟨(some 102), .pick (.tmp 99) (.tmp 101) (.const (.bool false)), none⟩,
  ⟨(some 103), .mv (.tmp 102), none⟩,
  ⟨(some 104), .mv (.tmp 14), (some (103, true))⟩,
  ⟨(some 105), .icmp .eql .i64 (.tmp 104) (.const (.int .i64 0)), (some (103, true))⟩,
  ⟨(some 106), .pick (.tmp 103) (.tmp 105) (.const (.bool false)), none⟩,
  ⟨(some 107), .mv (.tmp 106), none⟩,
  ⟨(some 108), .mv (.tmp 16), (some (107, true))⟩,
  ⟨(some 109), .icmp .eql .i64 (.tmp 108) (.const (.int .i64 0)), (some (107, true))⟩,
  ⟨(some 110), .pick (.tmp 107) (.tmp 109) (.const (.bool false)), none⟩,
  ⟨(some 111), .mv (.tmp 110), none⟩,
  ⟨(some 112), .mv (.tmp 18), (some (111, true))⟩,
  ⟨(some 113), .icmp .eql .i64 (.tmp 112) (.const (.int .i64 0)), (some (111, true))⟩,
  ⟨(some 114), .pick (.tmp 111) (.tmp 113) (.const (.bool false)), none⟩,
  ⟨(some 115), .mv (.tmp 114), none⟩,
  ⟨(some 116), .mv (.tmp 15), (some (115, true))⟩,
  ⟨(some 117), .call 42 [(.tmp 116)] (.val (.one (.int .i64))), (some (115, true))⟩,
  ⟨(some 118), .icmp .eql .i64 (.tmp 117) (.const (.int .i64 0)), (some (115, true))⟩,
  ⟨(some 119), .pick (.tmp 115) (.tmp 118) (.const (.bool false)), none⟩,
  ⟨(some 120), .mv (.tmp 119), none⟩,
  ⟨(some 121), .mv (.tmp 17), (some (120, true))⟩,
  ⟨(some 122), .call 42 [(.tmp 121)] (.val (.one (.int .i64))), (some (120, true))⟩,
  ⟨(some 123), .icmp .eql .i64 (.tmp 122) (.const (.int .i64 0)), (some (120, true))⟩,
  ⟨(some 124), .pick (.tmp 120) (.tmp 123) (.const (.bool false)), none⟩,
  ⟨(some 125), .mv (.tmp 124), none⟩,
  ⟨(some 126), .mv (.tmp 11), (some (125, true))⟩,
  ⟨(some 127), .len (.tmp 126), (some (125, true))⟩,
  ⟨(some 128), .mv (.tmp 7), (some (125, true))⟩,
  ⟨(some 129), .len (.tmp 128), (some (125, true))⟩,
  ⟨(some 130), .icmp .eql .i64 (.tmp 127) (.tmp 129), (some (125, true))⟩,
  ⟨(some 131), .pick (.tmp 125) (.tmp 130) (.const (.bool false)), none⟩,
  ⟨(some 6), .mv (.tmp 131), none⟩]) .ret))))))))))))
def loops10 : List (List (Nat × Shp)) := []
def ret10 : List RV := [.tmp 6]
theorem comp10 : compF Tryd.prog Tryd.f10 loops10 = some (132, ret10, code10) := by kernel_rfl
def J10_2  (P : Program) (R : Value → Heap → Prop) (bitsN : Nat) (a : Int) (A : (Option Addr)) (N : Nat) (C : Nat) (b1 : Int) (h_4 : Heap) : Prop :=
 CallsH P 40 #[(.slice A N C), (.int .i64 ((bitsN : Nat) : Int)), (.int .i64 a)] h_4 fun v2 h_5 =>
 ∃ (A1 : Option Addr), ∃ (N1 : Nat), ∃ (C1 : Nat), ∃ (t2 : Int), v2 = (.tuple #[(.slice A1 N1 C1), (.int .i64 t2)]) ∧ CallsH P 40 #[(.slice A1 N1 C1), (.int .i64 ((bitsN : Nat) : Int)), (.int .i64 b1)] h_5 fun v3 h_6 =>
 ∃ (A2 : Option Addr), ∃ (N2 : Nat), ∃ (C2 : Nat), ∃ (t3 : Int), v3 = (.tuple #[(.slice A2 N2 C2), (.int .i64 t3)]) ∧ CallsH P 40 #[(.slice A N C), (.int .i64 ((bitsN : Nat) : Int)), (.int .i64 (IntKind.wrap .i64 (a + b1)))] h_6 fun v4 h_7 =>
 ∃ (A3 : Option Addr), ∃ (N3 : Nat), ∃ (C3 : Nat), ∃ (t4 : Int), v4 = (.tuple #[(.slice A3 N3 C3), (.int .i64 t4)]) ∧ CallsH P 17 #[(.slice A2 N2 C2), (.slice A3 N3 C3)] h_7 fun v5 h_8 =>
 ∃ (A4 : Option Addr), ∃ (N4 : Nat), ∃ (C4 : Nat), ∃ (t5 : Int), v5 = (.tuple #[(.slice A4 N4 C4), (.int .i64 t5)]) ∧ CallsH P 17 #[(.slice A N C), (.slice A N C)] h_8 fun v6 h_9 =>
 ∃ (A5 : Option Addr), ∃ (N5 : Nat), ∃ (C5 : Nat), ∃ (t6 : Int), v6 = (.tuple #[(.slice A5 N5 C5), (.int .i64 t6)]) ∧ PIf ((t2 : Int) = 0)
 (PIf ((t3 : Int) = 0)
 (PIf ((t4 : Int) = 0)
 (PIf ((t5 : Int) = 0)
 (PIf ((t6 : Int) = 0)
 (CallsH P 42 #[(.slice A4 N4 C4)] h_9 fun v7 h_10 =>
 ∃ (t7 : Int), v7 = (.int .i64 t7) ∧ PIf ((t7 : Int) = 0)
 (CallsH P 42 #[(.slice A5 N5 C5)] h_10 fun v8 h_11 =>
 ∃ (t8 : Int), v8 = (.int .i64 t8) ∧ PIf ((t8 : Int) = 0)
 (PIf ((((N2 : Nat) : Int) : Int) = ((N : Nat) : Int))
 (R (.bool true) h_11)
 (R (.bool false) h_11))
 (R (.bool false) h_11))
 (R (.bool false) h_10))
 (R (.bool false) h_9))
 (R (.bool false) h_9))
 (R (.bool false) h_9))
 (R (.bool false) h_9))
 (R (.bool false) h_9)
def J10_1  (P : Program) (R : Value → Heap → Prop) (bitsN : Nat) (a : Int) (b : Int) (A : (Option Addr)) (N : Nat) (C : Nat) (h_3 : Heap) : Prop :=
 PIf ((a : Int) < 0)
 (PIf ((0 : Int) < b)
 (J10_2 P R bitsN a A N C ((IntKind.wrap .i64 (0 - b))) h_3)
 (PIf ((0 : Int) < a)
 (PIf ((b : Int) < 0)
 (J10_2 P R bitsN a A N C ((IntKind.wrap .i64 (0 - b))) h_3)
 (J10_2 P R bitsN a A N C (b) h_3))
 (J10_2 P R bitsN a A N C (b) h_3)))
 (PIf ((0 : Int) < a)
 (PIf ((b : Int) < 0)
 (J10_2 P R bitsN a A N C ((IntKind.wrap .i64 (0 - b))) h_3)
 (J10_2 P R bitsN a A N C (b) h_3))
 (J10_2 P R bitsN a A N C (b) h_3))
def J10_0  (P : Program) (R : Value → Heap → Prop) (bitsA : (Option Addr)) (bitsN : Nat) (bitsC : Nat) (a : Int) (b : Int) (h_1 : Heap) : Prop :=
 CallsH P 20 #[(.slice bitsA bitsN bitsC)] h_1 fun v1 h_2 =>
 ∃ (A : Option Addr), ∃ (N : Nat), ∃ (C : Nat), ∃ (t1 : Int), v1 = (.tuple #[(.slice A N C), (.int .i64 t1)]) ∧ PIf ((t1 : Int) = 0)
 (PIf ((a : Int) < (-40000))
 (R (.bool true) h_2)
 (PIf ((40000 : Int) < a)
 (R (.bool true) h_2)
 (PIf ((b : Int) < (-40000))
 (R (.bool true) h_2)
 (PIf ((40000 : Int) < b)
 (R (.bool true) h_2)
 (J10_1 P R bitsN a b A N C h_2)))))
 (R (.bool true) h_2)
def VC10 (P : Program) (bitsA : Option Addr) (bitsN : Nat) (bitsC : Nat) (a : Int) (b : Int) (R : Value → Heap → Prop) (h : Heap) : Prop :=
 CallsH P 12 #[] h fun v h_ =>
 ∃ (t : Bool), v = (.bool t) ∧ BIf (!t) (R (.bool false) h_) (J10_0 P R bitsA bitsN bitsC a b h_)
theorem vc10 (P : Program) (bitsA : Option Addr) (bitsN : Nat) (bitsC : Nat) (a : Int) (b : Int) (R : Value → Heap → Prop) (h : Heap) : fnC P ret10 code10 [(.slice bitsA bitsN bitsC), (.int .i64 a), (.int .i64 b)] h R = VC10 P bitsA bitsN bitsC a b R h := by kernel_rfl
theorem run10 (bitsA : Option Addr) (bitsN : Nat) (bitsC : Nat) (a : Int) (b : Int) (R : Value → Heap → Prop) (h : Heap) (hv : VC10 Tryd.prog bitsA bitsN bitsC a b R h) : CallsH Tryd.prog 10 #[(.slice bitsA bitsN bitsC), (.int .i64 a), (.int .i64 b)] h R := calls_of_fnC (Checked.mixed Tryd.checked) Tryd.func10 comp10 (Nat.le_of_ble_eq_true rfl) (by rw [vc10]; exact hv)

/-! 11: trestle/trestlelaw02.WordsRound -/
def code11 : SCode := (.seq (.region false [⟨(some 2), .mv (.const (.bool false)), none⟩]) (.seq (.seq (.region false [⟨(some 18), .call 12 [] (.val (.one (.bool))), none⟩,
  ⟨(some 19), .not (.tmp 18), none⟩]) (.cond (.tmp 19) (.seq (.region false [⟨(some 2), .mv (.const (.bool false)), none⟩]) .ret) .skip)) (.seq (.region false [⟨(some 21), .mv (.tmp 0), none⟩,
  ⟨(some 22), .call 20 [(.tmp 21)] (.tup [.one (.slice), .one (.int .i64)]), none⟩,
  ⟨(some 20), .mv (.tmp 22), none⟩,
  ⟨(some 23), .extr (.tmp 20) 0, none⟩,
  ⟨(some 24), .extr (.tmp 20) 1, none⟩,
  ⟨(some 3), .mv (.tmp 23), none⟩,
  ⟨(some 4), .mv (.tmp 24), none⟩]) (.seq (.region false [⟨(some 26), .mv (.tmp 0), none⟩,
  ⟨(some 27), .call 22 [(.tmp 26)] (.tup [.one (.str), .one (.int .i64)]), none⟩,
  ⟨(some 25), .mv (.tmp 27), none⟩,
  ⟨(some 28), .extr (.tmp 25) 0, none⟩,
  ⟨(some 29), .extr (.tmp 25) 1, none⟩,
  ⟨(some 5), .mv (.tmp 28), none⟩,
  ⟨(some 6), .mv (.tmp 29), none⟩]) (.seq (.seq (.region false [⟨(some 30), .mv (.tmp 4), none⟩,
  ⟨(some 31), .icmp .neq .i64 (.tmp 30) (.const (.int .i64 0)), none⟩,
  ⟨(some 32), .mv (.tmp 31), none⟩,
  ⟨(some 33), .mv (.tmp 6), (some (32, false))⟩,
  ⟨(some 34), .icmp .neq .i64 (.tmp 33) (.const (.int .i64 0)), (some (32, false))⟩,
  ⟨(some 35), .pick (.tmp 32) (.const (.bool true)) (.tmp 34), none⟩]) (.cond (.tmp 35) (.seq (.region false [⟨(some 36), .mv (.tmp 0), none⟩,
  ⟨(some 37), .len (.tmp 36), none⟩,
  ⟨(some 38), .icmp .gtr .i64 (.tmp 37) (.const (.int .i64 16384)), none⟩,
  ⟨(some 39), .mv (.tmp 38), none⟩,
  ⟨(some 40), .mv (.tmp 3), (some (39, true))⟩,
  ⟨(some 41), .len (.tmp 40), (some (39, true))⟩,
  ⟨(some 42), .icmp .eql .i64 (.tmp 41) (.const (.int .i64 0)), (some (39, true))⟩,
  ⟨(some 43), .pick (.tmp 39) (.tmp 42) (.const (.bool false)), none⟩,
  ⟨(some 44), .mv (.tmp 43), none⟩,
  ⟨(some 45), .mv (.tmp 5), (some (44, true))⟩,
  ⟨(some 46), .scmp .eql (.tmp 45) (.const (.string (ByteArray.mk #[]))), (some (44, true))⟩,
  ⟨(some 47), .pick (.tmp 44) (.tmp 46) (.const (.bool false)), none⟩,
  ⟨(some 2), .mv (.tmp 47), none⟩]) .ret) .skip)) (.seq (.region false [⟨(some 49), .mv (.tmp 3), none⟩,
  ⟨(some 50), .mv (.tmp 0), none⟩,
  ⟨(some 51), .len (.tmp 50), none⟩,
  ⟨(some 52), .call 38 [(.tmp 49), (.tmp 51)] (.tup [.one (.slice), .one (.int .i64)]), none⟩,
  ⟨(some 48), .mv (.tmp 52), none⟩,
  ⟨(some 53), .extr (.tmp 48) 0, none⟩,
  ⟨(some 54), .extr (.tmp 48) 1, none⟩,
  ⟨(some 7), .mv (.tmp 53), none⟩,
  ⟨(some 8), .mv (.tmp 54), none⟩]) (.seq (.region false [⟨(some 56), .mv (.tmp 5), none⟩,
  ⟨(some 57), .call 34 [(.tmp 56)] (.tup [.one (.slice), .agg [.int .i64, .int .i64]]), none⟩,
  ⟨(some 55), .mv (.tmp 57), none⟩,
  ⟨(some 58), .extr (.tmp 55) 0, none⟩,
  ⟨(some 59), .extr (.tmp 55) 1, none⟩,
  ⟨(some 10), .alloc 25 (.agg #[(.int .i64 0), (.int .i64 0)]), none⟩,
  ⟨(some 9), .mv (.tmp 58), none⟩,
  ⟨none, .st 2 (.tmp 10) (.tmp 59), none⟩]) (.seq (.seq (.region false [⟨(some 60), .mv (.tmp 8), none⟩,
  ⟨(some 61), .icmp .neq .i64 (.tmp 60) (.const (.int .i64 0)), none⟩,
  ⟨(some 62), .mv (.tmp 61), none⟩,
  ⟨(some 63), .ldn [.int .i64, .int .i64] (.tmp 10), (some (62, false))⟩,
  ⟨(some 64), .mkAgg #[(.int .i64 0), (.int .i64 0)] [], (some (62, false))⟩,
  ⟨(some 65), .eqagg true [.int .i64, .int .i64] (.tmp 63) (.tmp 64), (some (62, false))⟩,
  ⟨(some 66), .pick (.tmp 62) (.const (.bool true)) (.tmp 65), none⟩,
  ⟨(some 67), .mv (.tmp 66), none⟩,
  ⟨(some 68), .mv (.tmp 7), (some (67, false))⟩,
  ⟨(some 69), .mv (.tmp 0), (some (67, false))⟩,
  ⟨(some 70), .call 26 [(.tmp 68), (.tmp 69)] (.val (.one (.bool))), (some (67, false))⟩,
  ⟨(some 71), .not (.tmp 70), (some (67, false))⟩,
  ⟨(some 72), .pick (.tmp 67) (.const (.bool true)) (.tmp 71), none⟩,
  ⟨(some 73), .mv (.tmp 72), none⟩,
  ⟨(some 74), .mv (.tmp 9), (some (73, false))⟩,
  ⟨(some 75), .mv (.tmp 0), (some (73, false))⟩,
  ⟨(some 76), .call 26 [(.tmp 74), (.tmp 75)] (.val (.one (.bool))), (some (73, false))⟩,
  ⟨(some 77), .not (.tmp 76), (some (73, false))⟩,
  ⟨(some 78), .pick (.tmp 73) (.const (.bool true)) (.tmp 77), none⟩]) (.cond (.tmp 78) (.seq (.region false [⟨(some 2), .mv (.const (.bool false)), none⟩]) .ret) .skip)) (.seq (.region false [⟨(some 11), .mv (.const (.int .i64 0)), none⟩]) (.seq (.seq (.region false [⟨(some 79), .mv (.tmp 0), none⟩,
  ⟨(some 80), .len (.tmp 79), none⟩,
  ⟨(some 81), .mv (.const (.int .i64 0)), none⟩]) (.block 0 (.loop [(11, .int .i64), (81, .int .i64)] [82, 83, 84, 13, 85, 86, 87, 11, 88, 81] (.seq (.region false [⟨(some 82), .icmp .lss .i64 (.tmp 81) (.tmp 80), none⟩]) (.seq (.cond (.tmp 82) .skip (.exit 0)) (.seq (.block 1 (.seq (.region false [⟨(some 83), .idxA 1 (.tmp 79) (.tmp 81), none⟩,
  ⟨(some 84), .ld (.bool) (.tmp 83), none⟩,
  ⟨(some 13), .mv (.tmp 84), none⟩]) (.seq (.region false [⟨(some 85), .mv (.tmp 13), none⟩]) (.cond (.tmp 85) (.region false [⟨(some 86), .mv (.tmp 11), none⟩,
  ⟨(some 87), .arith .add .i64 (.tmp 86) (.const (.int .i64 1)), none⟩,
  ⟨(some 11), .mv (.tmp 87), none⟩]) .skip)))) (.region false [⟨(some 88), .arith .add .i64 (.tmp 81) (.const (.int .i64 1)), none⟩,
  ⟨(some 81), .mv (.tmp 88), none⟩]))))))) (.seq (.region false [⟨(some 90), .mv (.tmp 0), none⟩,
  ⟨(some 91), .call 24 [(.tmp 90)] (.tup [.one (.int .i64), .one (.int .i64)]), none⟩,
  ⟨(some 89), .mv (.tmp 91), none⟩,
  ⟨(some 92), .extr (.tmp 89) 0, none⟩,
  ⟨(some 93), .extr (.tmp 89) 1, none⟩,
  ⟨(some 14), .mv (.tmp 92), none⟩,
  ⟨(some 15), .mv (.tmp 93), none⟩]) (.seq (.seq (.region false [⟨(some 94), .mv (.tmp 3), none⟩,
  ⟨(some 95), .call 42 [(.tmp 94)] (.val (.one (.int .i64))), none⟩,
  ⟨(some 96), .mv (.tmp 11), none⟩,
  ⟨(some 97), .icmp .neq .i64 (.tmp 95) (.tmp 96), none⟩,
  ⟨(some 98), .mv (.tmp 97), none⟩,
  ⟨(some 99), .mv (.tmp 15), (some (98, false))⟩,
  ⟨(some 100), .icmp .eql .i64 (.tmp 99) (.const (.int .i64 0)), (some (98, false))⟩,
  ⟨(some 101), .mv (.tmp 0), (some (98, false))⟩,
  ⟨(some 102), .len (.tmp 101), (some (98, false))⟩,
  ⟨(some 103), .icmp .leq .i64 (.tmp 102) (.const (.int .i64 62)), (some (98, false))⟩,
  ⟨(some 104), .bcmp true (.tmp 100) (.tmp 103), (some (98, false))⟩,
  ⟨(some 105), .pick (.tmp 98) (.const (.bool true)) (.tmp 104), none⟩]) (.cond (.tmp 105) (.seq (.region false [⟨(some 2), .mv (.const (.bool false)), none⟩]) .ret) .skip)) (.seq (.seq (.region false [⟨(some 106), .mv (.tmp 15), none⟩,
  ⟨(some 107), .icmp .neq .i64 (.tmp 106) (.const (.int .i64 0)), none⟩]) (.cond (.tmp 107) (.seq (.region false [⟨(some 2), .mv (.const (.bool true)), none⟩]) .ret) .skip)) (.seq (.region false [⟨(some 109), .mv (.tmp 14), none⟩,
  ⟨(some 110), .mv (.tmp 0), none⟩,
  ⟨(some 111), .len (.tmp 110), none⟩,
  ⟨(some 112), .call 36 [(.tmp 109), (.tmp 111)] (.tup [.one (.slice), .one (.int .i64)]), none⟩,
  ⟨(some 108), .mv (.tmp 112), none⟩,
  ⟨(some 113), .extr (.tmp 108) 0, none⟩,
  ⟨(some 114), .extr (.tmp 108) 1, none⟩,
  ⟨(some 16), .mv (.tmp 113), none⟩,
  ⟨(some 17), .mv (.tmp 114), none⟩]) (.seq (.region false [⟨(some 115), .mv (.tmp 17), none⟩,
  ⟨(some 116), .icmp .eql .i64 (.tmp 115) (.const (.int .i64 0)), none⟩,
  ⟨(some 117), .mv (.tmp 116), none⟩,
  ⟨(some 118), .mv (.tmp 16), (some (117, true))⟩,
  ⟨(some 119), .mv (.tmp 0), (some (117, true))⟩,
  ⟨(some 120), .call 26 [(.tmp 118), (.tmp 119)] (.val (.one (.bool))), (some (117, true))⟩,
  ⟨(some 121), .pick (.tmp 117) (.tmp 120) (.const (.bool false)), none⟩,
  ⟨(some 2), .mv (.tmp 121), none⟩]) .ret)))))))))))))))
def loops11 : List (List (Nat × Shp)) := [[(11, .int .i64), (81, .int .i64)]]
def ret11 : List RV := [.tmp 2]
theorem comp11 : compF Tryd.prog Tryd.f11 loops11 = some (122, ret11, code11) := by kernel_rfl
def J11_4  (bitsA : (Option Addr)) (bitsN : Nat) (ones : Int) (t11 : Int) (next_ : (Int × Int → Heap → Prop)) (h_13 : Heap) : Prop :=
 0 ≤ (t11 : Int) ∧ (t11 : Int) < (bitsN : Nat) ∧ AtP bitsA fun ad => ∃ (t12 : Bool), cellH h_13 (Addr.add ad (Int.toNat t11 * 1)) = some (.bool t12) ∧ BIf t12 (next_ ((IntKind.wrap .i64 (ones + 1)), (IntKind.wrap .i64 (t11 + 1))) h_13) (next_ (ones, (IntKind.wrap .i64 (t11 + 1))) h_13)
def J11_7  (P : Program) (R : Value → Heap → Prop) (bitsA : (Option Addr)) (bitsN : Nat) (bitsC : Nat) (t13 : Int) (h_18 : Heap) : Prop :=
 CallsH P 36 #[(.int .i64 t13), (.int .i64 ((bitsN : Nat) : Int))] h_18 fun v9 h_19 =>
 ∃ (A3 : Option Addr), ∃ (N3 : Nat), ∃ (C3 : Nat), ∃ (t16 : Int), v9 = (.tuple #[(.slice A3 N3 C3), (.int .i64 t16)]) ∧ PIf ((t16 : Int) = 0)
 (CallsH P 26 #[(.slice A3 N3 C3), (.slice bitsA bitsN bitsC)] h_19 fun v10 h_20 =>
 ∃ (t17 : Bool), v10 = (.bool t17) ∧ R (.bool t17) h_20)
 (R (.bool false) h_19)
def J11_6  (P : Program) (R : Value → Heap → Prop) (bitsA : (Option Addr)) (bitsN : Nat) (bitsC : Nat) (t13 : Int) (t14 : Int) (h_17 : Heap) : Prop :=
 PIf ((t14 : Int) = 0)
 (J11_7 P R bitsA bitsN bitsC t13 h_17)
 (R (.bool true) h_17)
def J11_3  (P : Program) (R : Value → Heap → Prop) (bitsA : (Option Addr)) (bitsN : Nat) (bitsC : Nat) (A : (Option Addr)) (N : Nat) (C : Nat) (ones1 : Int) (h_14 : Heap) : Prop :=
 CallsH P 24 #[(.slice bitsA bitsN bitsC)] h_14 fun v7 h_15 =>
 ∃ (t13 : Int), ∃ (t14 : Int), v7 = (.tuple #[(.int .i64 t13), (.int .i64 t14)]) ∧ CallsH P 42 #[(.slice A N C)] h_15 fun v8 h_16 =>
 ∃ (t15 : Int), v8 = (.int .i64 t15) ∧ PIf ((t15 : Int) = ones1)
 (PIf ((t14 : Int) = 0)
 (PIf ((((bitsN : Nat) : Int) : Int) ≤ 62)
 (PIf ((true : Bool) = true)
 (J11_6 P R bitsA bitsN bitsC t13 t14 h_16)
 (R (.bool false) h_16))
 (PIf ((true : Bool) = false)
 (J11_6 P R bitsA bitsN bitsC t13 t14 h_16)
 (R (.bool false) h_16)))
 (PIf ((((bitsN : Nat) : Int) : Int) ≤ 62)
 (PIf ((false : Bool) = true)
 (J11_6 P R bitsA bitsN bitsC t13 t14 h_16)
 (R (.bool false) h_16))
 (PIf ((false : Bool) = false)
 (J11_6 P R bitsA bitsN bitsC t13 t14 h_16)
 (R (.bool false) h_16))))
 (R (.bool false) h_16)
def B11_8 (P : Program) (R : Value → Heap → Prop) (bitsA : (Option Addr)) (bitsN : Nat) (bitsC : Nat) (A : (Option Addr)) (N : Nat) (C : Nat) (ones : Int) (t11 : Int) (h_12 : Heap) (next_ : Int × Int → Heap → Prop) : Prop :=
 PIf ((t11 : Int) < ((bitsN : Nat) : Int))
 (J11_4 bitsA bitsN ones t11 next_ h_12)
 (J11_3 P R bitsA bitsN bitsC A N C (ones) h_12)
def J11_2  (P : Program) (R : Value → Heap → Prop) (bitsA : (Option Addr)) (bitsN : Nat) (bitsC : Nat) (A : (Option Addr)) (N : Nat) (C : Nat) (h_11 : Heap) : Prop :=
 LoopT (σ := Int × Int) (fun st_ h_st nx_st => B11_8 P R bitsA bitsN bitsC A N C (st_.1) (st_.2) h_st nx_st) (0, 0) h_11
def J11_1  (P : Program) (R : Value → Heap → Prop) (bitsA : (Option Addr)) (bitsN : Nat) (bitsC : Nat) (A : (Option Addr)) (N : Nat) (C : Nat) (t2 : ByteArray) (h_4 : Heap) : Prop :=
 CallsH P 38 #[(.slice A N C), (.int .i64 ((bitsN : Nat) : Int))] h_4 fun v3 h_5 =>
 ∃ (A1 : Option Addr), ∃ (N1 : Nat), ∃ (C1 : Nat), ∃ (t4 : Int), v3 = (.tuple #[(.slice A1 N1 C1), (.int .i64 t4)]) ∧ CallsH P 34 #[(.string t2)] h_5 fun v4 h_6 =>
 ∃ (A2 : Option Addr), ∃ (N2 : Nat), ∃ (C2 : Nat), ∃ (t5 : Int), ∃ (t6 : Int), v4 = (.tuple #[(.slice A2 N2 C2), (.agg #[(.int .i64 t5), (.int .i64 t6)])]) ∧ let h_7 : Heap := (h_6).push (.cells #[(.int .i64 0), (.int .i64 0)] 25); StoreH h_7 (Addr.mk (h_6).size 0 none) [(.int .i64 t5), (.int .i64 t6)] fun h_8 => PIf ((t4 : Int) = 0)
 (∃ (t7 : Int), ∃ (t8 : Int), cellsH h_8 (Addr.mk (h_6).size 0 none) 0 [(.int .i64 t7), (.int .i64 t8)] ∧ PIf ((#[(.int .i64 t7), (.int .i64 t8)] : Array Value) = #[(.int .i64 0), (.int .i64 0)])
 (CallsH P 26 #[(.slice A1 N1 C1), (.slice bitsA bitsN bitsC)] h_8 fun v5 h_9 =>
 ∃ (t9 : Bool), v5 = (.bool t9) ∧ BIf (!t9) (R (.bool false) h_9) (CallsH P 26 #[(.slice A2 N2 C2), (.slice bitsA bitsN bitsC)] h_9 fun v6 h_10 =>
 ∃ (t10 : Bool), v6 = (.bool t10) ∧ BIf (!t10) (R (.bool false) h_10) (J11_2 P R bitsA bitsN bitsC A N C h_10)))
 (R (.bool false) h_8))
 (R (.bool false) h_8)
def J11_0  (P : Program) (R : Value → Heap → Prop) (bitsA : (Option Addr)) (bitsN : Nat) (bitsC : Nat) (h_1 : Heap) : Prop :=
 CallsH P 20 #[(.slice bitsA bitsN bitsC)] h_1 fun v1 h_2 =>
 ∃ (A : Option Addr), ∃ (N : Nat), ∃ (C : Nat), ∃ (t1 : Int), v1 = (.tuple #[(.slice A N C), (.int .i64 t1)]) ∧ CallsH P 22 #[(.slice bitsA bitsN bitsC)] h_2 fun v2 h_3 =>
 ∃ (t2 : ByteArray), ∃ (t3 : Int), v2 = (.tuple #[(.string t2), (.int .i64 t3)]) ∧ PIf ((t1 : Int) = 0)
 (PIf ((t3 : Int) = 0)
 (J11_1 P R bitsA bitsN bitsC A N C t2 h_3)
 (PIf ((16384 : Int) < ((bitsN : Nat) : Int))
 (PIf ((((N : Nat) : Int) : Int) = 0)
 (PIf ((t2 : ByteArray) = (ByteArray.mk #[]))
 (R (.bool true) h_3)
 (R (.bool false) h_3))
 (R (.bool false) h_3))
 (R (.bool false) h_3)))
 (PIf ((16384 : Int) < ((bitsN : Nat) : Int))
 (PIf ((((N : Nat) : Int) : Int) = 0)
 (PIf ((t2 : ByteArray) = (ByteArray.mk #[]))
 (R (.bool true) h_3)
 (R (.bool false) h_3))
 (R (.bool false) h_3))
 (R (.bool false) h_3))
def VC11 (P : Program) (bitsA : Option Addr) (bitsN : Nat) (bitsC : Nat) (R : Value → Heap → Prop) (h : Heap) : Prop :=
 CallsH P 12 #[] h fun v h_ =>
 ∃ (t : Bool), v = (.bool t) ∧ BIf (!t) (R (.bool false) h_) (J11_0 P R bitsA bitsN bitsC h_)
theorem vc11 (P : Program) (bitsA : Option Addr) (bitsN : Nat) (bitsC : Nat) (R : Value → Heap → Prop) (h : Heap) : fnC P ret11 code11 [(.slice bitsA bitsN bitsC)] h R = VC11 P bitsA bitsN bitsC R h := by kernel_rfl
theorem run11 (bitsA : Option Addr) (bitsN : Nat) (bitsC : Nat) (R : Value → Heap → Prop) (h : Heap) (hv : VC11 Tryd.prog bitsA bitsN bitsC R h) : CallsH Tryd.prog 11 #[(.slice bitsA bitsN bitsC)] h R := calls_of_fnC (Checked.mixed Tryd.checked) Tryd.func11 comp11 (Nat.le_of_ble_eq_true rfl) (by rw [vc11]; exact hv)

/-! 12: trestle/trestlelaw02.works -/
def code12 : SCode := (.seq (.region false [⟨(some 0), .mv (.const (.bool false)), none⟩]) (.seq (.region false [⟨(some 9), .call 14 [(.const (.int .i64 128))] (.tup [.one (.str), .one (.int .i64)]), none⟩,
  ⟨(some 8), .mv (.tmp 9), none⟩,
  ⟨(some 10), .extr (.tmp 8) 0, none⟩,
  ⟨(some 11), .extr (.tmp 8) 1, none⟩,
  ⟨(some 1), .mv (.tmp 10), none⟩,
  ⟨(some 2), .mv (.tmp 11), none⟩]) (.seq (.region false [⟨(some 13), .call 32 [(.const (.string (ByteArray.mk #[97, 49, 50, 98]))), (.const (.int .i64 1))] (.tup [.one (.int .i64), .one (.int .i64), .agg [.int .i64, .int .i64]]), none⟩,
  ⟨(some 12), .mv (.tmp 13), none⟩,
  ⟨(some 14), .extr (.tmp 12) 0, none⟩,
  ⟨(some 15), .extr (.tmp 12) 1, none⟩,
  ⟨(some 16), .extr (.tmp 12) 2, none⟩,
  ⟨(some 5), .alloc 25 (.agg #[(.int .i64 0), (.int .i64 0)]), none⟩,
  ⟨(some 3), .mv (.tmp 14), none⟩,
  ⟨(some 4), .mv (.tmp 15), none⟩,
  ⟨none, .st 2 (.tmp 5) (.tmp 16), none⟩]) (.seq (.region false [⟨(some 18), .lit 4 3 #[(.bool false)] [(0, 1, (.const (.bool true))), (1, 1, (.const (.bool false))), (2, 1, (.const (.bool true)))], none⟩,
  ⟨(some 19), .call 20 [(.tmp 18)] (.tup [.one (.slice), .one (.int .i64)]), none⟩,
  ⟨(some 17), .mv (.tmp 19), none⟩,
  ⟨(some 20), .extr (.tmp 17) 0, none⟩,
  ⟨(some 21), .extr (.tmp 17) 1, none⟩,
  ⟨(some 6), .mv (.tmp 20), none⟩,
  ⟨(some 7), .mv (.tmp 21), none⟩]) (.seq (.region false [⟨(some 22), .mv (.tmp 1), none⟩,
  ⟨(some 23), .scmp .eql (.tmp 22) (.const (.string (ByteArray.mk #[128, 1]))), none⟩,
  ⟨(some 24), .mv (.tmp 23), none⟩,
  ⟨(some 25), .mv (.tmp 2), (some (24, true))⟩,
  ⟨(some 26), .icmp .eql .i64 (.tmp 25) (.const (.int .i64 0)), (some (24, true))⟩,
  ⟨(some 27), .pick (.tmp 24) (.tmp 26) (.const (.bool false)), none⟩,
  ⟨(some 28), .mv (.tmp 27), none⟩,
  ⟨(some 29), .mv (.tmp 3), (some (28, true))⟩,
  ⟨(some 30), .icmp .eql .i64 (.tmp 29) (.const (.int .i64 12)), (some (28, true))⟩,
  ⟨(some 31), .pick (.tmp 28) (.tmp 30) (.const (.bool false)), none⟩,
  ⟨(some 32), .mv (.tmp 31), none⟩,
  ⟨(some 33), .mv (.tmp 4), (some (32, true))⟩,
  ⟨(some 34), .icmp .eql .i64 (.tmp 33) (.const (.int .i64 3)), (some (32, true))⟩,
  ⟨(some 35), .pick (.tmp 32) (.tmp 34) (.const (.bool false)), none⟩,
  ⟨(some 36), .mv (.tmp 35), none⟩,
  ⟨(some 37), .ldn [.int .i64, .int .i64] (.tmp 5), (some (36, true))⟩,
  ⟨(some 38), .mkAgg #[(.int .i64 0), (.int .i64 0)] [], (some (36, true))⟩,
  ⟨(some 39), .eqagg false [.int .i64, .int .i64] (.tmp 37) (.tmp 38), (some (36, true))⟩,
  ⟨(some 40), .pick (.tmp 36) (.tmp 39) (.const (.bool false)), none⟩,
  ⟨(some 41), .mv (.tmp 40), none⟩,
  ⟨(some 42), .mv (.tmp 7), (some (41, true))⟩,
  ⟨(some 43), .icmp .eql .i64 (.tmp 42) (.const (.int .i64 0)), (some (41, true))⟩,
  ⟨(some 44), .pick (.tmp 41) (.tmp 43) (.const (.bool false)), none⟩,
  ⟨(some 45), .mv (.tmp 44), none⟩,
  ⟨(some 46), .mv (.tmp 6), (some (45, true))⟩,
  ⟨(some 47), .len (.tmp 46), (some (45, true))⟩,
  ⟨(some 48), .icmp .eql .i64 (.tmp 47) (.const (.int .i64 1)), (some (45, true))⟩,
  ⟨(some 49), .pick (.tmp 45) (.tmp 48) (.const (.bool false)), none⟩,
  ⟨(some 50), .mv (.tmp 49), none⟩,
  ⟨(some 51), .mv (.tmp 6), (some (50, true))⟩,
  ⟨(some 52), .idxA 1 (.tmp 51) (.const (.int .i64 0)), (some (50, true))⟩,
  ⟨(some 53), .ld (.int .u64) (.tmp 52), (some (50, true))⟩,
  ⟨(some 54), .icmp .eql .u64 (.tmp 53) (.const (.int .u64 5)), (some (50, true))⟩,
  ⟨(some 55), .pick (.tmp 50) (.tmp 54) (.const (.bool false)), none⟩,
  ⟨(some 0), .mv (.tmp 55), none⟩]) .ret)))))
def loops12 : List (List (Nat × Shp)) := []
def ret12 : List RV := [.tmp 0]
theorem comp12 : compF Tryd.prog Tryd.f12 loops12 = some (56, ret12, code12) := by kernel_rfl
def VC12 (P : Program) (R : Value → Heap → Prop) (h : Heap) : Prop :=
 CallsH P 14 #[(.int .i64 128)] h fun v h_ =>
 ∃ (t : ByteArray), ∃ (t1 : Int), v = (.tuple #[(.string t), (.int .i64 t1)]) ∧ CallsH P 32 #[(.string (ByteArray.mk #[97, 49, 50, 98])), (.int .i64 1)] h_ fun v1 h_1 =>
 ∃ (t2 : Int), ∃ (t3 : Int), ∃ (t4 : Int), ∃ (t5 : Int), v1 = (.tuple #[(.int .i64 t2), (.int .i64 t3), (.agg #[(.int .i64 t4), (.int .i64 t5)])]) ∧ let h_2 : Heap := (h_1).push (.cells #[(.int .i64 0), (.int .i64 0)] 25); StoreH h_2 (Addr.mk (h_1).size 0 none) [(.int .i64 t4), (.int .i64 t5)] fun h_3 => let h_4 : Heap := (h_3).push (.cells #[(.bool true), (.bool false), (.bool true)] 4); CallsH P 20 #[(.slice (some (Addr.mk (h_3).size 0 none)) 3 3)] h_4 fun v2 h_5 =>
 ∃ (A : Option Addr), ∃ (N : Nat), ∃ (C : Nat), ∃ (t6 : Int), v2 = (.tuple #[(.slice A N C), (.int .i64 t6)]) ∧ PIf ((t : ByteArray) = (ByteArray.mk #[128, 1]))
 (PIf ((t1 : Int) = 0)
 (PIf ((t2 : Int) = 12)
 (PIf ((t3 : Int) = 3)
 (∃ (t7 : Int), ∃ (t8 : Int), cellsH h_5 (Addr.mk (h_1).size 0 none) 0 [(.int .i64 t7), (.int .i64 t8)] ∧ PIf ((#[(.int .i64 t7), (.int .i64 t8)] : Array Value) = #[(.int .i64 0), (.int .i64 0)])
 (PIf ((t6 : Int) = 0)
 (PIf ((((N : Nat) : Int) : Int) = 1)
 (0 ≤ (0 : Int) ∧ (0 : Int) < (N : Nat) ∧ AtP A fun ad => ∃ (t9 : Int), cellH h_5 (Addr.add ad (Int.toNat 0 * 1)) = some (.int .u64 t9) ∧ PIf ((t9 : Int) = 5)
 (R (.bool true) h_5)
 (R (.bool false) h_5))
 (R (.bool false) h_5))
 (R (.bool false) h_5))
 (R (.bool false) h_5))
 (R (.bool false) h_5))
 (R (.bool false) h_5))
 (R (.bool false) h_5))
 (R (.bool false) h_5)
theorem vc12 (P : Program) (R : Value → Heap → Prop) (h : Heap) : fnC P ret12 code12 [] h R = VC12 P R h := by kernel_rfl
theorem run12 (R : Value → Heap → Prop) (h : Heap) (hv : VC12 Tryd.prog R h) : CallsH Tryd.prog 12 #[] h R := calls_of_fnC (Checked.mixed Tryd.checked) Tryd.func12 comp12 (Nat.le_of_ble_eq_true rfl) (by rw [vc12]; exact hv)
end Go.Proofs.YtbgjbokcngdnfaaDoor
