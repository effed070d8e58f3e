/- Words and facts that the claim's proof leans on. No condition. -/
import Derived.Test.YtbfejkmnkkpkhaaHxL
import Derived.Test.YtbfejkmnkkpkhaaChecked
set_option maxRecDepth 100000
set_option linter.unusedVariables false
namespace Go.Proofs.Ytbfejkmnkkpkhaa
open Go.Hx

/-! 31: trestle/lits.Rest -/
def code31 : SCode := (.seq (.region false [⟨(some 4), .mv (.const (.slice none 0 0)), none⟩,
  ⟨(some 5), .mv (.const (.bool false)), none⟩,
  ⟨(some 6), .mv (.const (.int .i64 0)), none⟩]) (.seq (.seq (.region false [⟨(some 17), .mv (.tmp 0), none⟩,
  ⟨(some 18), .call 43 [(.tmp 17)] (.val (.one (.int .i64))), none⟩,
  ⟨(some 7), .mv (.tmp 18), none⟩]) (.seq (.region false [⟨(some 19), .mv (.tmp 7), none⟩,
  ⟨(some 20), .icmp .neq .i64 (.tmp 19) (.const (.int .i64 0)), none⟩]) (.cond (.tmp 20) (.seq (.region false [⟨(some 21), .mv (.tmp 7), none⟩,
  ⟨(some 4), .mv (.const (.slice none 0 0)), none⟩,
  ⟨(some 5), .mv (.const (.bool false)), none⟩,
  ⟨(some 6), .mv (.tmp 21), none⟩]) .ret) .skip))) (.seq (.seq (.region false [⟨(some 22), .mv (.tmp 1), none⟩,
  ⟨(some 23), .len (.tmp 22), none⟩,
  ⟨(some 24), .icmp .gtr .i64 (.tmp 23) (.const (.int .i64 262144)), none⟩]) (.cond (.tmp 24) (.seq (.region false [⟨(some 4), .mv (.const (.slice none 0 0)), none⟩,
  ⟨(some 5), .mv (.const (.bool false)), none⟩,
  ⟨(some 6), .mv (.const (.int .i64 2)), none⟩]) .ret) .skip)) (.seq (.region false [⟨(some 25), .mkM, none⟩,
  ⟨(some 8), .mv (.tmp 25), none⟩]) (.seq (.seq (.region false [⟨(some 26), .mv (.tmp 1), none⟩,
  ⟨(some 27), .len (.tmp 26), none⟩,
  ⟨(some 28), .mv (.const (.int .i64 0)), none⟩]) (.block 0 (.loop [(28, .int .i64)] [29, 30, 31, 10, 32, 33, 34, 4, 5, 6, 35, 36, 37, 28] (.seq (.region false [⟨(some 29), .icmp .lss .i64 (.tmp 28) (.tmp 27), none⟩]) (.seq (.cond (.tmp 29) .skip (.exit 0)) (.seq (.block 1 (.seq (.region false [⟨(some 30), .idxA 1 (.tmp 26) (.tmp 28), none⟩,
  ⟨(some 31), .ld (.int .i64) (.tmp 30), none⟩,
  ⟨(some 10), .mv (.tmp 31), none⟩]) (.seq (.seq (.region false [⟨(some 32), .mv (.tmp 10), none⟩,
  ⟨(some 33), .call 38 [(.tmp 32)] (.val (.one (.bool))), none⟩,
  ⟨(some 34), .not (.tmp 33), none⟩]) (.cond (.tmp 34) (.seq (.region false [⟨(some 4), .mv (.const (.slice none 0 0)), none⟩,
  ⟨(some 5), .mv (.const (.bool false)), none⟩,
  ⟨(some 6), .mv (.const (.int .i64 1)), none⟩]) .ret) .skip)) (.region false [⟨(some 35), .mv (.tmp 8), none⟩,
  ⟨(some 36), .mv (.tmp 10), none⟩,
  ⟨none, .mput (.int .i64) (.tmp 35) (.tmp 36) (.const (.int .i64 1)), none⟩])))) (.region false [⟨(some 37), .arith .add .i64 (.tmp 28) (.const (.int .i64 1)), none⟩,
  ⟨(some 28), .mv (.tmp 37), none⟩]))))))) (.seq (.seq (.region false [⟨(some 38), .mv (.tmp 8), none⟩,
  ⟨(some 39), .mrange (.tmp 38), none⟩]) (.block 2 (.loop [] [40, 41, 42, 43, 11, 44, 45, 46, 47, 48, 4, 5, 6] (.seq (.region false [⟨(some 40), .mnext (.one (.any)) (.one (.any)) (.tmp 39), none⟩,
  ⟨(some 41), .extr (.tmp 40) 0, none⟩]) (.seq (.cond (.tmp 41) .skip (.exit 2)) (.block 3 (.seq (.region false [⟨(some 42), .mentry (.one (.int .i64)) (.one (.any)) (.tmp 39), none⟩,
  ⟨(some 43), .extr (.tmp 42) 0, none⟩,
  ⟨(some 11), .mv (.tmp 43), none⟩]) (.seq (.region false [⟨(some 44), .mv (.tmp 8), none⟩,
  ⟨(some 45), .mv (.tmp 11), none⟩,
  ⟨(some 46), .neg .i64 (.tmp 45), none⟩,
  ⟨(some 47), .mlook (.int .i64) (.int .i64 0) (.one (.int .i64)) false (.tmp 44) (.tmp 46), none⟩,
  ⟨(some 48), .icmp .gtr .i64 (.tmp 47) (.const (.int .i64 0)), none⟩]) (.cond (.tmp 48) (.seq (.region false [⟨(some 4), .mv (.const (.slice none 0 0)), none⟩,
  ⟨(some 5), .mv (.const (.bool false)), none⟩,
  ⟨(some 6), .mv (.const (.int .i64 4)), none⟩]) .ret) .skip))))))))) (.seq (.region false [⟨(some 50), .mv (.tmp 0), none⟩,
  ⟨(some 51), .call 44 [(.tmp 50)] (.tup [.one (.slice), .one (.bool)]), none⟩,
  ⟨(some 49), .mv (.tmp 51), none⟩,
  ⟨(some 52), .extr (.tmp 49) 0, none⟩,
  ⟨(some 53), .extr (.tmp 49) 1, none⟩,
  ⟨(some 12), .mv (.tmp 52), none⟩,
  ⟨(some 13), .mv (.tmp 53), none⟩]) (.seq (.seq (.region false [⟨(some 54), .mv (.tmp 13), none⟩,
  ⟨(some 55), .not (.tmp 54), none⟩]) (.cond (.tmp 55) (.seq (.region false [⟨(some 4), .mv (.const (.slice none 0 0)), none⟩,
  ⟨(some 5), .mv (.const (.bool false)), none⟩,
  ⟨(some 6), .mv (.const (.int .i64 10)), none⟩]) .ret) .skip)) (.seq (.region false [⟨(some 14), .mv (.const (.slice none 0 0)), none⟩]) (.seq (.seq (.region false [⟨(some 56), .mv (.tmp 12), none⟩,
  ⟨(some 57), .len (.tmp 56), none⟩,
  ⟨(some 58), .mv (.const (.int .i64 0)), none⟩]) (.block 4 (.loop [(14, .slice), (58, .int .i64)] [59, 60, 61, 16, 62, 63, 64, 65, 4, 5, 6, 66, 67, 68, 69, 70, 71, 72, 73, 74, 14, 75, 58] (.seq (.region false [⟨(some 59), .icmp .lss .i64 (.tmp 58) (.tmp 57), none⟩]) (.seq (.cond (.tmp 59) .skip (.exit 4)) (.seq (.block 5 (.seq (.region false [⟨(some 60), .idxA 1 (.tmp 56) (.tmp 58), none⟩,
  ⟨(some 61), .ld (.int .i64) (.tmp 60), none⟩,
  ⟨(some 16), .mv (.tmp 61), none⟩]) (.seq (.seq (.region false [⟨(some 62), .mv (.tmp 8), none⟩,
  ⟨(some 63), .mv (.tmp 16), none⟩,
  ⟨(some 64), .mlook (.int .i64) (.int .i64 0) (.one (.int .i64)) false (.tmp 62) (.tmp 63), none⟩,
  ⟨(some 65), .icmp .gtr .i64 (.tmp 64) (.const (.int .i64 0)), none⟩]) (.cond (.tmp 65) (.seq (.region false [⟨(some 4), .mv (.const (.slice none 0 0)), none⟩,
  ⟨(some 5), .mv (.const (.bool true)), none⟩,
  ⟨(some 6), .mv (.const (.int .i64 0)), none⟩]) .ret) .skip)) (.seq (.region false [⟨(some 66), .mv (.tmp 8), none⟩,
  ⟨(some 67), .mv (.tmp 16), none⟩,
  ⟨(some 68), .neg .i64 (.tmp 67), none⟩,
  ⟨(some 69), .mlook (.int .i64) (.int .i64 0) (.one (.int .i64)) false (.tmp 66) (.tmp 68), none⟩,
  ⟨(some 70), .icmp .eql .i64 (.tmp 69) (.const (.int .i64 0)), none⟩]) (.cond (.tmp 70) (.region false [⟨(some 71), .mv (.tmp 14), none⟩,
  ⟨(some 72), .mv (.tmp 16), none⟩,
  ⟨(some 73), .lit 3 1 #[(.int .i64 0)] [(0, 1, (.tmp 72))], none⟩,
  ⟨(some 74), .app 3 8 1 #[(.int .i64 0)] (.tmp 71) (.tmp 73), none⟩,
  ⟨(some 14), .mv (.tmp 74), none⟩]) .skip))))) (.region false [⟨(some 75), .arith .add .i64 (.tmp 58) (.const (.int .i64 1)), none⟩,
  ⟨(some 58), .mv (.tmp 75), none⟩]))))))) (.seq (.region false [⟨(some 76), .mv (.tmp 14), none⟩,
  ⟨(some 4), .mv (.tmp 76), none⟩,
  ⟨(some 5), .mv (.const (.bool false)), none⟩,
  ⟨(some 6), .mv (.const (.int .i64 0)), none⟩]) .ret)))))))))))
def loops31 : List (List (Nat × Shp)) := [[(28, .int .i64)], [], [(14, .slice), (58, .int .i64)]]
def ret31 : List RV := [.tmp 4, .tmp 5, .tmp 6]
theorem comp31 : compF Try.prog Try.f31 loops31 = some (77, ret31, code31) := by kernel_rfl
def J31_3  (P : Program) (R : Value → Heap → Prop) (assignedA : (Option Addr)) (assignedN : Nat) (h_2 : Heap) (t1 : Int) (next_ : (Int → Heap → Prop)) (h_5 : Heap) : Prop :=
 0 ≤ (t1 : Int) ∧ (t1 : Int) < (assignedN : Nat) ∧ AtP assignedA fun ad => ∃ (t2 : Int), cellH h_5 (Addr.add ad (Int.toNat t1 * 1)) = some (.int .i64 t2) ∧ CallsH P 38 #[(.int .i64 t2)] h_5 fun v1 h_6 =>
 ∃ (t3 : Bool), v1 = (.bool t3) ∧ BIf (!t3) (R (.tuple #[(.slice none 0 0), (.bool false), (.int .i64 1)]) h_6) (MapPut (.int .i64) (.int .i64 t2) (.int .i64 1) h_6 (some (h_2).size) fun h_7 => next_ ((IntKind.wrap .i64 (t1 + 1))) h_7)
def J31_10  (h_2 : Heap) (outA : (Option Addr)) (outN : Nat) (outC : Nat) (t5 : Int) (next_2 : ((Option Addr × Nat × Nat) × Int → Heap → Prop)) (t6 : Int) (h_16 : Heap) : Prop :=
 MapLook (.int .i64) (.int .i64 (IntKind.wrap .i64 (0 - t6))) h_16 (some (h_2).size) none (PIf ((0 : Int) = 0)
 (let h_17 : Heap := (h_16).push (.cells #[(.int .i64 t6)] 3); ∃ ys : List Value, ReadL h_17 (some (Addr.mk (h_16).size 0 none)) ys ∧ ys.length = 1 * 1 ∧ AppS h_17 outA outN outC 3 8 1 #[(.int .i64 0)] ys 1 fun apA apN apC h_18 => next_2 ((apA, apN, apC), (IntKind.wrap .i64 (t5 + 1))) h_18)
 (next_2 ((outA, outN, outC), (IntKind.wrap .i64 (t5 + 1))) h_16)) fun u => ∃ (t7 : Int), u = (.int .i64 t7) ∧ PIf ((t7 : Int) = 0)
 (let h_19 : Heap := (h_16).push (.cells #[(.int .i64 t6)] 3); ∃ ys1 : List Value, ReadL h_19 (some (Addr.mk (h_16).size 0 none)) ys1 ∧ ys1.length = 1 * 1 ∧ AppS h_19 outA outN outC 3 8 1 #[(.int .i64 0)] ys1 1 fun apA1 apN1 apC1 h_20 => next_2 ((apA1, apN1, apC1), (IntKind.wrap .i64 (t5 + 1))) h_20)
 (next_2 ((outA, outN, outC), (IntKind.wrap .i64 (t5 + 1))) h_16)
def J31_9  (R : Value → Heap → Prop) (h_2 : Heap) (A : (Option Addr)) (N : Nat) (outA : (Option Addr)) (outN : Nat) (outC : Nat) (t5 : Int) (next_2 : ((Option Addr × Nat × Nat) × Int → Heap → Prop)) (h_15 : Heap) : Prop :=
 0 ≤ (t5 : Int) ∧ (t5 : Int) < (N : Nat) ∧ AtP A fun ad1 => ∃ (t6 : Int), cellH h_15 (Addr.add ad1 (Int.toNat t5 * 1)) = some (.int .i64 t6) ∧ MapLook (.int .i64) (.int .i64 t6) h_15 (some (h_2).size) none (PIf ((0 : Int) < 0)
 (R (.tuple #[(.slice none 0 0), (.bool true), (.int .i64 0)]) h_15)
 (J31_10 h_2 outA outN outC t5 next_2 t6 h_15)) fun u1 => ∃ (t8 : Int), u1 = (.int .i64 t8) ∧ PIf ((0 : Int) < t8)
 (R (.tuple #[(.slice none 0 0), (.bool true), (.int .i64 0)]) h_15)
 (J31_10 h_2 outA outN outC t5 next_2 t6 h_15)
def J31_8  (R : Value → Heap → Prop) (outA1 : Option Addr) (outN1 : Nat) (outC1 : Nat) (h_21 : Heap) : Prop :=
 R (.tuple #[(.slice outA1 outN1 outC1), (.bool false), (.int .i64 0)]) h_21
def B31_12 (R : Value → Heap → Prop) (h_2 : Heap) (A : (Option Addr)) (N : Nat) (outA : Option Addr) (outN : Nat) (outC : Nat) (t5 : Int) (h_14 : Heap) (next_2 : (Option Addr × Nat × Nat) × Int → Heap → Prop) : Prop :=
 PIf ((t5 : Int) < ((N : Nat) : Int))
 (J31_9 R h_2 A N outA outN outC t5 next_2 h_14)
 (J31_8 R (outA) (outN) (outC) h_14)
def J31_7  (R : Value → Heap → Prop) (h_2 : Heap) (A : (Option Addr)) (N : Nat) (h_13 : Heap) : Prop :=
 LoopT (σ := (Option Addr × Nat × Nat) × Int) (fun st_ h_st nx_st => B31_12 R h_2 A N (st_.1.1) (st_.1.2.1) (st_.1.2.2) (st_.2) h_st nx_st) ((none, 0, 0), 0) h_13
def J31_5  (P : Program) (R : Value → Heap → Prop) (cA : (Option Addr)) (cN : Nat) (cC : Nat) (h_2 : Heap) (h_11 : Heap) : Prop :=
 CallsH P 44 #[(.slice cA cN cC)] h_11 fun v2 h_12 =>
 ∃ (A : Option Addr), ∃ (N : Nat), ∃ (C : Nat), ∃ (t4 : Bool), v2 = (.tuple #[(.slice A N C), (.bool t4)]) ∧ BIf (!t4) (R (.tuple #[(.slice none 0 0), (.bool false), (.int .i64 10)]) h_12) (J31_7 R h_2 A N h_12)
def J31_13  (R : Value → Heap → Prop) (h_2 : Heap) (h_8 : Heap) (next_1 : (Unit → Heap → Prop)) (h_23 : Heap) : Prop :=
 (Addr.off (Addr.mk (h_8).size 0 none)) = 0 ∧ MEntryS h_23 (Addr.block (Addr.mk (h_8).size 0 none)) fun e1 => ∃ (k1 : Int), e1.key = (.int .i64 k1) ∧ ∃ (v4 : Value), e1.val = v4 ∧ MapLook (.int .i64) (.int .i64 (IntKind.wrap .i64 (0 - k1))) h_23 (some (h_2).size) none (PIf ((0 : Int) < 0)
 (R (.tuple #[(.slice none 0 0), (.bool false), (.int .i64 4)]) h_23)
 (next_1 () h_23)) fun u2 => ∃ (t9 : Int), u2 = (.int .i64 t9) ∧ PIf ((0 : Int) < t9)
 (R (.tuple #[(.slice none 0 0), (.bool false), (.int .i64 4)]) h_23)
 (next_1 () h_23)
def B31_14 (P : Program) (R : Value → Heap → Prop) (cA : (Option Addr)) (cN : Nat) (cC : Nat) (h_2 : Heap) (h_8 : Heap) (h_10 : Heap) (next_1 : Unit → Heap → Prop) : Prop :=
 (Addr.off (Addr.mk (h_8).size 0 none)) = 0 ∧ MNextS h_10 (Addr.block (Addr.mk (h_8).size 0 none)) (J31_5 P R cA cN cC h_2 h_10) fun e h_22 => ∃ (k : Value), e.key = k ∧ ∃ (v3 : Value), e.val = v3 ∧ J31_13 R h_2 h_8 next_1 h_22
def J31_2  (P : Program) (R : Value → Heap → Prop) (cA : (Option Addr)) (cN : Nat) (cC : Nat) (h_2 : Heap) (h_8 : Heap) : Prop :=
 MapRange h_8 (some (h_2).size) fun h_9 => LoopT (σ := Unit) (fun st_ h_st nx_st => B31_14 P R cA cN cC h_2 h_8  h_st nx_st) () h_9
def B31_15 (P : Program) (R : Value → Heap → Prop) (cA : (Option Addr)) (cN : Nat) (cC : Nat) (assignedA : (Option Addr)) (assignedN : Nat) (h_2 : Heap) (t1 : Int) (h_4 : Heap) (next_ : Int → Heap → Prop) : Prop :=
 PIf ((t1 : Int) < ((assignedN : Nat) : Int))
 (J31_3 P R assignedA assignedN h_2 t1 next_ h_4)
 (J31_2 P R cA cN cC h_2 h_4)
def J31_1  (P : Program) (R : Value → Heap → Prop) (cA : (Option Addr)) (cN : Nat) (cC : Nat) (assignedA : (Option Addr)) (assignedN : Nat) (h_2 : Heap) : Prop :=
 let h_3 : Heap := (h_2).push (.map #[] 0); LoopT (σ := Int) (fun st_ h_st nx_st => B31_15 P R cA cN cC assignedA assignedN h_2 (st_) h_st nx_st) (0) h_3
def J31_0  (P : Program) (R : Value → Heap → Prop) (cA : (Option Addr)) (cN : Nat) (cC : Nat) (assignedA : (Option Addr)) (assignedN : Nat) (h_1 : Heap) : Prop :=
 PIf ((262144 : Int) < ((assignedN : Nat) : Int))
 (R (.tuple #[(.slice none 0 0), (.bool false), (.int .i64 2)]) h_1)
 (J31_1 P R cA cN cC assignedA assignedN h_1)
def VC31 (P : Program) (cA : Option Addr) (cN : Nat) (cC : Nat) (assignedA : Option Addr) (assignedN : Nat) (assignedC : Nat) (R : Value → Heap → Prop) (h : Heap) : Prop :=
 CallsH P 43 #[(.slice cA cN cC)] h fun v h_ =>
 ∃ (t : Int), v = (.int .i64 t) ∧ PIf ((t : Int) = 0)
 (J31_0 P R cA cN cC assignedA assignedN h_)
 (R (.tuple #[(.slice none 0 0), (.bool false), (.int .i64 t)]) h_)
theorem vc31 (P : Program) (cA : Option Addr) (cN : Nat) (cC : Nat) (assignedA : Option Addr) (assignedN : Nat) (assignedC : Nat) (R : Value → Heap → Prop) (h : Heap) : fnC P ret31 code31 [(.slice cA cN cC), (.slice assignedA assignedN assignedC)] h R = VC31 P cA cN cC assignedA assignedN assignedC R h := by kernel_rfl
theorem run31 (cA : Option Addr) (cN : Nat) (cC : Nat) (assignedA : Option Addr) (assignedN : Nat) (assignedC : Nat) (R : Value → Heap → Prop) (h : Heap) (hv : VC31 Try.prog cA cN cC assignedA assignedN assignedC R h) : CallsH Try.prog 31 #[(.slice cA cN cC), (.slice assignedA assignedN assignedC)] h R := calls_of_fnC (Checked.mixed Try.checked) Try.func31 comp31 (Nat.le_of_ble_eq_true rfl) (by rw [vc31]; exact hv)
end Go.Proofs.Ytbfejkmnkkpkhaa
