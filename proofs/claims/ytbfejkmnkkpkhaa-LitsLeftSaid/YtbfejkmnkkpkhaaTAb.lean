/- Words and facts that the claim's proof leans on. No condition. -/
import Derived.Test.YtbfejkmnkkpkhaaHxL
import Derived.Test.YtbfejkmnkkpkhaaChecked
set_option maxRecDepth 100000
set_option linter.unusedVariables false
namespace Go.Proofs.Ytbfejkmnkkpkhaa
open Go.Hx

/-! 47: trestle/trestleref01.True -/
def code47 : SCode := (.seq (.region false [⟨(some 4), .mv (.const (.bool false)), none⟩]) (.seq (.seq (.region false [⟨(some 5), .mv (.const (.int .i64 0)), none⟩]) (.block 0 (.loop [(5, .int .i64)] [6, 7, 8, 9, 12, 13, 14, 15, 16, 17, 18, 19, 20, 21, 22, 23, 24, 25, 26, 4, 10, 11, 5] (.seq (.seq (.region false [⟨(some 6), .mv (.tmp 5), none⟩,
  ⟨(some 7), .mv (.tmp 0), none⟩,
  ⟨(some 8), .len (.tmp 7), none⟩,
  ⟨(some 9), .icmp .lss .i64 (.tmp 6) (.tmp 8), none⟩]) (.cond (.tmp 9) .skip (.exit 0))) (.seq (.block 1 (.seq (.region true [⟨(some 12), .mv (.tmp 1), none⟩,
  ⟨(some 13), .mv (.tmp 0), none⟩,
  ⟨(some 14), .mv (.tmp 5), none⟩,
  ⟨(some 15), .idxA 1 (.tmp 13) (.tmp 14), none⟩,
  ⟨(some 16), .ld (.int .i64) (.tmp 15), none⟩,
  ⟨(some 17), .call 41 [(.tmp 16)] (.val (.one (.int .i64))), none⟩,
  ⟨(some 18), .arith .sub .i64 (.tmp 17) (.const (.int .i64 1)), none⟩,
  ⟨(some 19), .idxA 1 (.tmp 12) (.tmp 18), none⟩,
  ⟨(some 20), .ld (.bool) (.tmp 19), none⟩,
  ⟨(some 21), .mv (.tmp 0), none⟩,
  ⟨(some 22), .mv (.tmp 5), none⟩,
  ⟨(some 23), .idxA 1 (.tmp 21) (.tmp 22), none⟩,
  ⟨(some 24), .ld (.int .i64) (.tmp 23), none⟩,
  ⟨(some 25), .icmp .gtr .i64 (.tmp 24) (.const (.int .i64 0)), none⟩,
  ⟨(some 26), .bcmp false (.tmp 20) (.tmp 25), none⟩]) (.cond (.tmp 26) (.seq (.region false [⟨(some 4), .mv (.const (.bool true)), none⟩]) .ret) .skip))) (.region false [⟨(some 10), .mv (.tmp 5), none⟩,
  ⟨(some 11), .arith .add .i64 (.tmp 10) (.const (.int .i64 1)), none⟩,
  ⟨(some 5), .mv (.tmp 11), none⟩])))))) (.seq (.region false [⟨(some 4), .mv (.const (.bool false)), none⟩]) .ret)))
def loops47 : List (List (Nat × Shp)) := [[(5, .int .i64)]]
def ret47 : List RV := [.tmp 4]
theorem comp47 : compF Try.prog Try.f47 loops47 = some (27, ret47, code47) := by kernel_rfl
def J47_1  (P : Program) (R : Value → Heap → Prop) (cA : (Option Addr)) (cN : Nat) (modelA : (Option Addr)) (modelN : Nat) (i : Int) (next_ : (Int → Heap → Prop)) (h_1 : Heap) : Prop :=
 0 ≤ (i : Int) ∧ (i : Int) < (cN : Nat) ∧ AtP cA fun ad => (Addr.block (Addr.add ad (Int.toNat i * 1))) < (h_1).size ∧ ∃ (t : Int), cellH h_1 (Addr.add ad (Int.toNat i * 1)) = some (.int .i64 t) ∧ CallsH P 41 #[(.int .i64 t)] h_1 fun v h_2 =>
 ∃ (t1 : Int), v = (.int .i64 t1) ∧ AgreeH (h_1).size h_1 h_2 ∧ 0 ≤ ((IntKind.wrap .i64 (t1 - 1)) : Int) ∧ ((IntKind.wrap .i64 (t1 - 1)) : Int) < (modelN : Nat) ∧ AtP modelA fun ad1 => (Addr.block (Addr.add ad1 (Int.toNat (IntKind.wrap .i64 (t1 - 1)) * 1))) < (h_1).size ∧ ∃ (t2 : Bool), cellH h_2 (Addr.add ad1 (Int.toNat (IntKind.wrap .i64 (t1 - 1)) * 1)) = some (.bool t2) ∧ 0 ≤ (i : Int) ∧ (i : Int) < (cN : Nat) ∧ AtP cA fun ad2 => (Addr.block (Addr.add ad2 (Int.toNat i * 1))) < (h_1).size ∧ ∃ (t3 : Int), cellH h_2 (Addr.add ad2 (Int.toNat i * 1)) = some (.int .i64 t3) ∧ PIf ((0 : Int) < t3)
 (PIf ((t2 : Bool) = true)
 (R (.bool true) h_2)
 (next_ ((IntKind.wrap .i64 (i + 1))) h_2))
 (PIf ((t2 : Bool) = false)
 (R (.bool true) h_2)
 (next_ ((IntKind.wrap .i64 (i + 1))) h_2))
def J47_0  (R : Value → Heap → Prop) (h_3 : Heap) : Prop :=
 R (.bool false) h_3
def B47_2 (P : Program) (R : Value → Heap → Prop) (cA : (Option Addr)) (cN : Nat) (modelA : (Option Addr)) (modelN : Nat) (i : Int) (h_ : Heap) (next_ : Int → Heap → Prop) : Prop :=
 PIf ((i : Int) < ((cN : Nat) : Int))
 (J47_1 P R cA cN modelA modelN i next_ h_)
 (J47_0 R h_)
def VC47 (P : Program) (cA : Option Addr) (cN : Nat) (cC : Nat) (modelA : Option Addr) (modelN : Nat) (modelC : Nat) (R : Value → Heap → Prop) (h : Heap) : Prop :=
 LoopT (σ := Int) (fun st h next => B47_2 P R cA cN modelA modelN (st) h next) (0) h
theorem vc47 (P : Program) (cA : Option Addr) (cN : Nat) (cC : Nat) (modelA : Option Addr) (modelN : Nat) (modelC : Nat) (R : Value → Heap → Prop) (h : Heap) : fnC P ret47 code47 [(.slice cA cN cC), (.slice modelA modelN modelC)] h R = VC47 P cA cN cC modelA modelN modelC R h := by kernel_rfl
theorem run47 (cA : Option Addr) (cN : Nat) (cC : Nat) (modelA : Option Addr) (modelN : Nat) (modelC : Nat) (R : Value → Heap → Prop) (h : Heap) (hv : VC47 Try.prog cA cN cC modelA modelN modelC R h) : CallsH Try.prog 47 #[(.slice cA cN cC), (.slice modelA modelN modelC)] h R := calls_of_fnC (Checked.mixed Try.checked) Try.func47 comp47 (Nat.le_of_ble_eq_true rfl) (by rw [vc47]; exact hv)

/-! 48: trestle/trestlebook.SameInts -/
def code48 : SCode := (.seq (.region false [⟨(some 4), .mv (.const (.bool false)), none⟩]) (.seq (.seq (.region false [⟨(some 6), .mv (.tmp 0), none⟩,
  ⟨(some 7), .len (.tmp 6), none⟩,
  ⟨(some 8), .mv (.tmp 1), none⟩,
  ⟨(some 9), .len (.tmp 8), none⟩,
  ⟨(some 10), .icmp .neq .i64 (.tmp 7) (.tmp 9), none⟩]) (.cond (.tmp 10) (.seq (.region false [⟨(some 4), .mv (.const (.bool false)), none⟩]) .ret) .skip)) (.seq (.seq (.region false [⟨(some 5), .mv (.const (.int .i64 0)), none⟩]) (.block 0 (.loop [(5, .int .i64)] [11, 12, 13, 14, 17, 18, 19, 20, 21, 22, 23, 24, 25, 4, 15, 16, 5] (.seq (.seq (.region false [⟨(some 11), .mv (.tmp 5), none⟩,
  ⟨(some 12), .mv (.tmp 0), none⟩,
  ⟨(some 13), .len (.tmp 12), none⟩,
  ⟨(some 14), .icmp .lss .i64 (.tmp 11) (.tmp 13), none⟩]) (.cond (.tmp 14) .skip (.exit 0))) (.seq (.block 1 (.seq (.region false [⟨(some 17), .mv (.tmp 0), none⟩,
  ⟨(some 18), .mv (.tmp 5), none⟩,
  ⟨(some 19), .idxA 1 (.tmp 17) (.tmp 18), none⟩,
  ⟨(some 20), .ld (.int .i64) (.tmp 19), none⟩,
  ⟨(some 21), .mv (.tmp 1), none⟩,
  ⟨(some 22), .mv (.tmp 5), none⟩,
  ⟨(some 23), .idxA 1 (.tmp 21) (.tmp 22), none⟩,
  ⟨(some 24), .ld (.int .i64) (.tmp 23), none⟩,
  ⟨(some 25), .icmp .neq .i64 (.tmp 20) (.tmp 24), none⟩]) (.cond (.tmp 25) (.seq (.region false [⟨(some 4), .mv (.const (.bool false)), none⟩]) .ret) .skip))) (.region false [⟨(some 15), .mv (.tmp 5), none⟩,
  ⟨(some 16), .arith .add .i64 (.tmp 15) (.const (.int .i64 1)), none⟩,
  ⟨(some 5), .mv (.tmp 16), none⟩])))))) (.seq (.region false [⟨(some 4), .mv (.const (.bool true)), none⟩]) .ret))))
def loops48 : List (List (Nat × Shp)) := [[(5, .int .i64)]]
def ret48 : List RV := [.tmp 4]
theorem comp48 : compF Try.prog Try.f48 loops48 = some (26, ret48, code48) := by kernel_rfl
def J48_2  (R : Value → Heap → Prop) (aA : (Option Addr)) (aN : Nat) (bA : (Option Addr)) (bN : Nat) (i : Int) (next_ : (Int → Heap → Prop)) (h_2 : Heap) : Prop :=
 0 ≤ (i : Int) ∧ (i : Int) < (aN : Nat) ∧ AtP aA fun ad => ∃ (t : Int), cellH h_2 (Addr.add ad (Int.toNat i * 1)) = some (.int .i64 t) ∧ 0 ≤ (i : Int) ∧ (i : Int) < (bN : Nat) ∧ AtP bA fun ad1 => ∃ (t1 : Int), cellH h_2 (Addr.add ad1 (Int.toNat i * 1)) = some (.int .i64 t1) ∧ PIf ((t : Int) = t1)
 (next_ ((IntKind.wrap .i64 (i + 1))) h_2)
 (R (.bool false) h_2)
def J48_1  (R : Value → Heap → Prop) (h_3 : Heap) : Prop :=
 R (.bool true) h_3
def B48_3 (R : Value → Heap → Prop) (aA : (Option Addr)) (aN : Nat) (bA : (Option Addr)) (bN : Nat) (i : Int) (h_1 : Heap) (next_ : Int → Heap → Prop) : Prop :=
 PIf ((i : Int) < ((aN : Nat) : Int))
 (J48_2 R aA aN bA bN i next_ h_1)
 (J48_1 R h_1)
def J48_0  (R : Value → Heap → Prop) (h : Heap) (aA : (Option Addr)) (aN : Nat) (bA : (Option Addr)) (bN : Nat) (h_ : Heap) : Prop :=
 LoopT (σ := Int) (fun st h next => B48_3 R aA aN bA bN (st) h next) (0) h_
def VC48 (P : Program) (aA : Option Addr) (aN : Nat) (aC : Nat) (bA : Option Addr) (bN : Nat) (bC : Nat) (R : Value → Heap → Prop) (h : Heap) : Prop :=
 PIf ((((aN : Nat) : Int) : Int) = ((bN : Nat) : Int))
 (J48_0 R h aA aN bA bN h)
 (R (.bool false) h)
theorem vc48 (P : Program) (aA : Option Addr) (aN : Nat) (aC : Nat) (bA : Option Addr) (bN : Nat) (bC : Nat) (R : Value → Heap → Prop) (h : Heap) : fnC P ret48 code48 [(.slice aA aN aC), (.slice bA bN bC)] h R = VC48 P aA aN aC bA bN bC R h := by kernel_rfl
theorem run48 (aA : Option Addr) (aN : Nat) (aC : Nat) (bA : Option Addr) (bN : Nat) (bC : Nat) (R : Value → Heap → Prop) (h : Heap) (hv : VC48 Try.prog aA aN aC bA bN bC R h) : CallsH Try.prog 48 #[(.slice aA aN aC), (.slice bA bN bC)] h R := calls_of_fnC (Checked.mixed Try.checked) Try.func48 comp48 (Nat.le_of_ble_eq_true rfl) (by rw [vc48]; exact hv)

/-! 49: trestle/lits.pair -/
def code49 : SCode := (.seq (.region false [⟨(some 4), .mv (.const (.slice none 0 0)), none⟩,
  ⟨(some 5), .mv (.const (.slice none 0 0)), none⟩,
  ⟨(some 6), .mv (.const (.int .i64 0)), none⟩]) (.seq (.seq (.region false [⟨(some 9), .mv (.tmp 0), none⟩,
  ⟨(some 10), .call 43 [(.tmp 9)] (.val (.one (.int .i64))), none⟩,
  ⟨(some 6), .mv (.tmp 10), none⟩]) (.seq (.region false [⟨(some 11), .mv (.tmp 6), none⟩,
  ⟨(some 12), .icmp .neq .i64 (.tmp 11) (.const (.int .i64 0)), none⟩]) (.cond (.tmp 12) (.seq (.region false [⟨(some 13), .mv (.tmp 6), none⟩,
  ⟨(some 4), .mv (.const (.slice none 0 0)), none⟩,
  ⟨(some 5), .mv (.const (.slice none 0 0)), none⟩,
  ⟨(some 6), .mv (.tmp 13), none⟩]) .ret) .skip))) (.seq (.seq (.region false [⟨(some 14), .mv (.tmp 1), none⟩,
  ⟨(some 15), .call 43 [(.tmp 14)] (.val (.one (.int .i64))), none⟩,
  ⟨(some 6), .mv (.tmp 15), none⟩]) (.seq (.region false [⟨(some 16), .mv (.tmp 6), none⟩,
  ⟨(some 17), .icmp .neq .i64 (.tmp 16) (.const (.int .i64 0)), none⟩]) (.cond (.tmp 17) (.seq (.region false [⟨(some 18), .mv (.tmp 6), none⟩,
  ⟨(some 4), .mv (.const (.slice none 0 0)), none⟩,
  ⟨(some 5), .mv (.const (.slice none 0 0)), none⟩,
  ⟨(some 6), .mv (.tmp 18), none⟩]) .ret) .skip))) (.seq (.region false [⟨(some 20), .mv (.tmp 0), none⟩,
  ⟨(some 21), .call 44 [(.tmp 20)] (.tup [.one (.slice), .one (.bool)]), none⟩,
  ⟨(some 19), .mv (.tmp 21), none⟩,
  ⟨(some 22), .extr (.tmp 19) 0, none⟩,
  ⟨(some 23), .extr (.tmp 19) 1, none⟩,
  ⟨(some 4), .mv (.tmp 22), none⟩,
  ⟨(some 7), .mv (.tmp 23), none⟩]) (.seq (.region false [⟨(some 25), .mv (.tmp 1), none⟩,
  ⟨(some 26), .call 44 [(.tmp 25)] (.tup [.one (.slice), .one (.bool)]), none⟩,
  ⟨(some 24), .mv (.tmp 26), none⟩,
  ⟨(some 27), .extr (.tmp 24) 0, none⟩,
  ⟨(some 28), .extr (.tmp 24) 1, none⟩,
  ⟨(some 5), .mv (.tmp 27), none⟩,
  ⟨(some 8), .mv (.tmp 28), none⟩]) (.seq (.seq (.region false [⟨(some 29), .mv (.tmp 7), none⟩,
  ⟨(some 30), .not (.tmp 29), none⟩,
  ⟨(some 31), .mv (.tmp 30), none⟩,
  ⟨(some 32), .mv (.tmp 8), (some (31, false))⟩,
  ⟨(some 33), .not (.tmp 32), (some (31, false))⟩,
  ⟨(some 34), .pick (.tmp 31) (.const (.bool true)) (.tmp 33), none⟩]) (.cond (.tmp 34) (.seq (.region false [⟨(some 4), .mv (.const (.slice none 0 0)), none⟩,
  ⟨(some 5), .mv (.const (.slice none 0 0)), none⟩,
  ⟨(some 6), .mv (.const (.int .i64 10)), none⟩]) .ret) .skip)) (.seq (.region false [⟨(some 35), .mv (.tmp 4), none⟩,
  ⟨(some 36), .mv (.tmp 5), none⟩,
  ⟨(some 4), .mv (.tmp 35), none⟩,
  ⟨(some 5), .mv (.tmp 36), none⟩,
  ⟨(some 6), .mv (.const (.int .i64 0)), none⟩]) .ret)))))))
def loops49 : List (List (Nat × Shp)) := []
def ret49 : List RV := [.tmp 4, .tmp 5, .tmp 6]
theorem comp49 : compF Try.prog Try.f49 loops49 = some (37, ret49, code49) := by kernel_rfl
def J49_1  (P : Program) (R : Value → Heap → Prop) (aA : (Option Addr)) (aN : Nat) (aC : Nat) (bA : (Option Addr)) (bN : Nat) (bC : Nat) (h_3 : Heap) : Prop :=
 CallsH P 44 #[(.slice aA aN aC)] h_3 fun v2 h_4 =>
 ∃ (A : Option Addr), ∃ (N : Nat), ∃ (C : Nat), ∃ (t2 : Bool), v2 = (.tuple #[(.slice A N C), (.bool t2)]) ∧ CallsH P 44 #[(.slice bA bN bC)] h_4 fun v3 h_5 =>
 ∃ (A1 : Option Addr), ∃ (N1 : Nat), ∃ (C1 : Nat), ∃ (t3 : Bool), v3 = (.tuple #[(.slice A1 N1 C1), (.bool t3)]) ∧ BIf (!t2) (R (.tuple #[(.slice none 0 0), (.slice none 0 0), (.int .i64 10)]) h_5) (BIf (!t3) (R (.tuple #[(.slice none 0 0), (.slice none 0 0), (.int .i64 10)]) h_5) (R (.tuple #[(.slice A N C), (.slice A1 N1 C1), (.int .i64 0)]) h_5))
def J49_0  (P : Program) (R : Value → Heap → Prop) (aA : (Option Addr)) (aN : Nat) (aC : Nat) (bA : (Option Addr)) (bN : Nat) (bC : Nat) (h_1 : Heap) : Prop :=
 CallsH P 43 #[(.slice bA bN bC)] h_1 fun v1 h_2 =>
 ∃ (t1 : Int), v1 = (.int .i64 t1) ∧ PIf ((t1 : Int) = 0)
 (J49_1 P R aA aN aC bA bN bC h_2)
 (R (.tuple #[(.slice none 0 0), (.slice none 0 0), (.int .i64 t1)]) h_2)
def VC49 (P : Program) (aA : Option Addr) (aN : Nat) (aC : Nat) (bA : Option Addr) (bN : Nat) (bC : Nat) (R : Value → Heap → Prop) (h : Heap) : Prop :=
 CallsH P 43 #[(.slice aA aN aC)] h fun v h_ =>
 ∃ (t : Int), v = (.int .i64 t) ∧ PIf ((t : Int) = 0)
 (J49_0 P R aA aN aC bA bN bC h_)
 (R (.tuple #[(.slice none 0 0), (.slice none 0 0), (.int .i64 t)]) h_)
theorem vc49 (P : Program) (aA : Option Addr) (aN : Nat) (aC : Nat) (bA : Option Addr) (bN : Nat) (bC : Nat) (R : Value → Heap → Prop) (h : Heap) : fnC P ret49 code49 [(.slice aA aN aC), (.slice bA bN bC)] h R = VC49 P aA aN aC bA bN bC R h := by kernel_rfl
theorem run49 (aA : Option Addr) (aN : Nat) (aC : Nat) (bA : Option Addr) (bN : Nat) (bC : Nat) (R : Value → Heap → Prop) (h : Heap) (hv : VC49 Try.prog aA aN aC bA bN bC R h) : CallsH Try.prog 49 #[(.slice aA aN aC), (.slice bA bN bC)] h R := calls_of_fnC (Checked.mixed Try.checked) Try.func49 comp49 (Nat.le_of_ble_eq_true rfl) (by rw [vc49]; exact hv)

/-! 50: trestle/lits.lacking -/
def code50 : SCode := (.seq (.region false [⟨(some 4), .mv (.const (.slice none 0 0)), none⟩]) (.seq (.region false [⟨(some 5), .mv (.const (.slice none 0 0)), none⟩]) (.seq (.seq (.region false [⟨(some 10), .mv (.tmp 0), none⟩,
  ⟨(some 11), .len (.tmp 10), none⟩,
  ⟨(some 12), .mv (.const (.int .i64 0)), none⟩]) (.block 0 (.loop [(5, .slice), (12, .int .i64)] [13, 14, 15, 7, 17, 18, 19, 16, 20, 21, 8, 9, 22, 23, 24, 25, 26, 27, 5, 28, 12] (.seq (.region false [⟨(some 13), .icmp .lss .i64 (.tmp 12) (.tmp 11), none⟩]) (.seq (.cond (.tmp 13) .skip (.exit 0)) (.seq (.block 1 (.seq (.region false [⟨(some 14), .idxA 1 (.tmp 10) (.tmp 12), none⟩,
  ⟨(some 15), .ld (.int .i64) (.tmp 14), none⟩,
  ⟨(some 7), .mv (.tmp 15), none⟩]) (.seq (.region false [⟨(some 17), .mv (.tmp 1), none⟩,
  ⟨(some 18), .mv (.tmp 7), none⟩,
  ⟨(some 19), .call 53 [(.tmp 17), (.tmp 18)] (.tup [.one (.int .i64), .one (.bool)]), none⟩,
  ⟨(some 16), .mv (.tmp 19), none⟩,
  ⟨(some 20), .extr (.tmp 16) 0, none⟩,
  ⟨(some 21), .extr (.tmp 16) 1, none⟩,
  ⟨(some 8), .mv (.tmp 20), none⟩,
  ⟨(some 9), .mv (.tmp 21), none⟩]) (.seq (.region false [⟨(some 22), .mv (.tmp 9), none⟩,
  ⟨(some 23), .not (.tmp 22), none⟩]) (.cond (.tmp 23) (.region false [⟨(some 24), .mv (.tmp 5), none⟩,
  ⟨(some 25), .mv (.tmp 7), none⟩,
  ⟨(some 26), .lit 3 1 #[(.int .i64 0)] [(0, 1, (.tmp 25))], none⟩,
  ⟨(some 27), .app 3 8 1 #[(.int .i64 0)] (.tmp 24) (.tmp 26), none⟩,
  ⟨(some 5), .mv (.tmp 27), none⟩]) .skip))))) (.region false [⟨(some 28), .arith .add .i64 (.tmp 12) (.const (.int .i64 1)), none⟩,
  ⟨(some 12), .mv (.tmp 28), none⟩]))))))) (.seq (.region false [⟨(some 29), .mv (.tmp 5), none⟩,
  ⟨(some 4), .mv (.tmp 29), none⟩]) .ret))))
def loops50 : List (List (Nat × Shp)) := [[(5, .slice), (12, .int .i64)]]
def ret50 : List RV := [.tmp 4]
theorem comp50 : compF Try.prog Try.f50 loops50 = some (30, ret50, code50) := by kernel_rfl
def J50_1  (P : Program) (xA : (Option Addr)) (xN : Nat) (yA : (Option Addr)) (yN : Nat) (yC : Nat) (outA : (Option Addr)) (outN : Nat) (outC : Nat) (t : Int) (next_ : ((Option Addr × Nat × Nat) × Int → Heap → Prop)) (h_1 : Heap) : Prop :=
 0 ≤ (t : Int) ∧ (t : Int) < (xN : Nat) ∧ AtP xA fun ad => ∃ (t1 : Int), cellH h_1 (Addr.add ad (Int.toNat t * 1)) = some (.int .i64 t1) ∧ CallsH P 53 #[(.slice yA yN yC), (.int .i64 t1)] h_1 fun v h_2 =>
 ∃ (t2 : Int), ∃ (t3 : Bool), v = (.tuple #[(.int .i64 t2), (.bool t3)]) ∧ BIf (!t3) (let h_3 : Heap := (h_2).push (.cells #[(.int .i64 t1)] 3); ∃ ys : List Value, ReadL h_3 (some (Addr.mk (h_2).size 0 none)) ys ∧ ys.length = 1 * 1 ∧ AppS h_3 outA outN outC 3 8 1 #[(.int .i64 0)] ys 1 fun apA apN apC h_4 => next_ ((apA, apN, apC), (IntKind.wrap .i64 (t + 1))) h_4) (next_ ((outA, outN, outC), (IntKind.wrap .i64 (t + 1))) h_2)
def J50_0  (R : Value → Heap → Prop) (outA1 : Option Addr) (outN1 : Nat) (outC1 : Nat) (h_5 : Heap) : Prop :=
 R (.slice outA1 outN1 outC1) h_5
def B50_3 (P : Program) (R : Value → Heap → Prop) (xA : (Option Addr)) (xN : Nat) (yA : (Option Addr)) (yN : Nat) (yC : Nat) (outA : Option Addr) (outN : Nat) (outC : Nat) (t : Int) (h_ : Heap) (next_ : (Option Addr × Nat × Nat) × Int → Heap → Prop) : Prop :=
 PIf ((t : Int) < ((xN : Nat) : Int))
 (J50_1 P xA xN yA yN yC outA outN outC t next_ h_)
 (J50_0 R (outA) (outN) (outC) h_)
def VC50 (P : Program) (xA : Option Addr) (xN : Nat) (xC : Nat) (yA : Option Addr) (yN : Nat) (yC : Nat) (R : Value → Heap → Prop) (h : Heap) : Prop :=
 LoopT (σ := (Option Addr × Nat × Nat) × Int) (fun st h next => B50_3 P R xA xN yA yN yC (st.1.1) (st.1.2.1) (st.1.2.2) (st.2) h next) ((none, 0, 0), 0) h
theorem vc50 (P : Program) (xA : Option Addr) (xN : Nat) (xC : Nat) (yA : Option Addr) (yN : Nat) (yC : Nat) (R : Value → Heap → Prop) (h : Heap) : fnC P ret50 code50 [(.slice xA xN xC), (.slice yA yN yC)] h R = VC50 P xA xN xC yA yN yC R h := by kernel_rfl
theorem run50 (xA : Option Addr) (xN : Nat) (xC : Nat) (yA : Option Addr) (yN : Nat) (yC : Nat) (R : Value → Heap → Prop) (h : Heap) (hv : VC50 Try.prog xA xN xC yA yN yC R h) : CallsH Try.prog 50 #[(.slice xA xN xC), (.slice yA yN yC)] h R := calls_of_fnC (Checked.mixed Try.checked) Try.func50 comp50 (Nat.le_of_ble_eq_true rfl) (by rw [vc50]; exact hv)

/-! 51: trestle/trestleref01.both -/
def code51 : SCode := (.seq (.region false [⟨(some 4), .mv (.const (.slice none 0 0)), none⟩,
  ⟨(some 5), .mv (.const (.slice none 0 0)), none⟩,
  ⟨(some 6), .mv (.const (.int .i64 0)), none⟩]) (.seq (.region false [⟨(some 12), .mv (.tmp 0), none⟩,
  ⟨(some 13), .call 45 [(.tmp 12)] (.val (.one (.int .i64))), none⟩,
  ⟨(some 7), .mv (.tmp 13), none⟩]) (.seq (.seq (.region false [⟨(some 14), .mv (.tmp 7), none⟩,
  ⟨(some 15), .icmp .eql .i64 (.tmp 14) (.const (.int .i64 0)), none⟩]) (.cond (.tmp 15) (.region false [⟨(some 16), .mv (.tmp 1), none⟩,
  ⟨(some 17), .call 45 [(.tmp 16)] (.val (.one (.int .i64))), none⟩,
  ⟨(some 7), .mv (.tmp 17), none⟩]) .skip)) (.seq (.seq (.region false [⟨(some 18), .mv (.tmp 7), none⟩,
  ⟨(some 19), .icmp .neq .i64 (.tmp 18) (.const (.int .i64 0)), none⟩]) (.cond (.tmp 19) (.seq (.region false [⟨(some 20), .mv (.tmp 7), none⟩,
  ⟨(some 4), .mv (.const (.slice none 0 0)), none⟩,
  ⟨(some 5), .mv (.const (.slice none 0 0)), none⟩,
  ⟨(some 6), .mv (.tmp 20), none⟩]) .ret) .skip)) (.seq (.region false [⟨(some 22), .mv (.tmp 0), none⟩,
  ⟨(some 23), .call 46 [(.tmp 22)] (.tup [.one (.slice), .one (.bool)]), none⟩,
  ⟨(some 21), .mv (.tmp 23), none⟩,
  ⟨(some 24), .extr (.tmp 21) 0, none⟩,
  ⟨(some 25), .extr (.tmp 21) 1, none⟩,
  ⟨(some 8), .mv (.tmp 24), none⟩,
  ⟨(some 9), .mv (.tmp 25), none⟩]) (.seq (.region false [⟨(some 27), .mv (.tmp 1), none⟩,
  ⟨(some 28), .call 46 [(.tmp 27)] (.tup [.one (.slice), .one (.bool)]), none⟩,
  ⟨(some 26), .mv (.tmp 28), none⟩,
  ⟨(some 29), .extr (.tmp 26) 0, none⟩,
  ⟨(some 30), .extr (.tmp 26) 1, none⟩,
  ⟨(some 10), .mv (.tmp 29), none⟩,
  ⟨(some 11), .mv (.tmp 30), none⟩]) (.seq (.seq (.region false [⟨(some 31), .mv (.tmp 9), none⟩,
  ⟨(some 32), .not (.tmp 31), none⟩,
  ⟨(some 33), .mv (.tmp 32), none⟩,
  ⟨(some 34), .mv (.tmp 11), (some (33, false))⟩,
  ⟨(some 35), .not (.tmp 34), (some (33, false))⟩,
  ⟨(some 36), .pick (.tmp 33) (.const (.bool true)) (.tmp 35), none⟩]) (.cond (.tmp 36) (.seq (.region false [⟨(some 4), .mv (.const (.slice none 0 0)), none⟩,
  ⟨(some 5), .mv (.const (.slice none 0 0)), none⟩,
  ⟨(some 6), .mv (.const (.int .i64 10)), none⟩]) .ret) .skip)) (.seq (.region false [⟨(some 37), .mv (.tmp 8), none⟩,
  ⟨(some 38), .mv (.tmp 10), none⟩,
  ⟨(some 4), .mv (.tmp 37), none⟩,
  ⟨(some 5), .mv (.tmp 38), none⟩,
  ⟨(some 6), .mv (.const (.int .i64 0)), none⟩]) .ret))))))))
def loops51 : List (List (Nat × Shp)) := []
def ret51 : List RV := [.tmp 4, .tmp 5, .tmp 6]
theorem comp51 : compF Try.prog Try.f51 loops51 = some (39, ret51, code51) := by kernel_rfl
def J51_1  (P : Program) (R : Value → Heap → Prop) (aA : (Option Addr)) (aN : Nat) (aC : Nat) (bA : (Option Addr)) (bN : Nat) (bC : Nat) (h_3 : Heap) : Prop :=
 CallsH P 46 #[(.slice aA aN aC)] h_3 fun v2 h_4 =>
 ∃ (A : Option Addr), ∃ (N : Nat), ∃ (C : Nat), ∃ (t2 : Bool), v2 = (.tuple #[(.slice A N C), (.bool t2)]) ∧ CallsH P 46 #[(.slice bA bN bC)] h_4 fun v3 h_5 =>
 ∃ (A1 : Option Addr), ∃ (N1 : Nat), ∃ (C1 : Nat), ∃ (t3 : Bool), v3 = (.tuple #[(.slice A1 N1 C1), (.bool t3)]) ∧ BIf (!t2) (R (.tuple #[(.slice none 0 0), (.slice none 0 0), (.int .i64 10)]) h_5) (BIf (!t3) (R (.tuple #[(.slice none 0 0), (.slice none 0 0), (.int .i64 10)]) h_5) (R (.tuple #[(.slice A N C), (.slice A1 N1 C1), (.int .i64 0)]) h_5))
def J51_0  (P : Program) (R : Value → Heap → Prop) (aA : (Option Addr)) (aN : Nat) (aC : Nat) (bA : (Option Addr)) (bN : Nat) (bC : Nat) (e : Int) (h_2 : Heap) : Prop :=
 PIf ((e : Int) = 0)
 (J51_1 P R aA aN aC bA bN bC h_2)
 (R (.tuple #[(.slice none 0 0), (.slice none 0 0), (.int .i64 e)]) h_2)
def VC51 (P : Program) (aA : Option Addr) (aN : Nat) (aC : Nat) (bA : Option Addr) (bN : Nat) (bC : Nat) (R : Value → Heap → Prop) (h : Heap) : Prop :=
 CallsH P 45 #[(.slice aA aN aC)] h fun v h_ =>
 ∃ (t : Int), v = (.int .i64 t) ∧ PIf ((t : Int) = 0)
 (CallsH P 45 #[(.slice bA bN bC)] h_ fun v1 h_1 =>
 ∃ (t1 : Int), v1 = (.int .i64 t1) ∧ J51_0 P R aA aN aC bA bN bC (t1) h_1)
 (J51_0 P R aA aN aC bA bN bC (t) h_)
theorem vc51 (P : Program) (aA : Option Addr) (aN : Nat) (aC : Nat) (bA : Option Addr) (bN : Nat) (bC : Nat) (R : Value → Heap → Prop) (h : Heap) : fnC P ret51 code51 [(.slice aA aN aC), (.slice bA bN bC)] h R = VC51 P aA aN aC bA bN bC R h := by kernel_rfl
theorem run51 (aA : Option Addr) (aN : Nat) (aC : Nat) (bA : Option Addr) (bN : Nat) (bC : Nat) (R : Value → Heap → Prop) (h : Heap) (hv : VC51 Try.prog aA aN aC bA bN bC R h) : CallsH Try.prog 51 #[(.slice aA aN aC), (.slice bA bN bC)] h R := calls_of_fnC (Checked.mixed Try.checked) Try.func51 comp51 (Nat.le_of_ble_eq_true rfl) (by rw [vc51]; exact hv)

/-! 52: trestle/trestleref01.Has -/
def code52 : SCode := (.seq (.region false [⟨(some 4), .mv (.const (.bool false)), none⟩]) (.seq (.seq (.region false [⟨(some 5), .mv (.const (.int .i64 0)), none⟩]) (.block 0 (.loop [(5, .int .i64)] [6, 7, 8, 9, 12, 13, 14, 15, 16, 17, 4, 10, 11, 5] (.seq (.seq (.region false [⟨(some 6), .mv (.tmp 5), none⟩,
  ⟨(some 7), .mv (.tmp 0), none⟩,
  ⟨(some 8), .len (.tmp 7), none⟩,
  ⟨(some 9), .icmp .lss .i64 (.tmp 6) (.tmp 8), none⟩]) (.cond (.tmp 9) .skip (.exit 0))) (.seq (.block 1 (.seq (.region false [⟨(some 12), .mv (.tmp 0), none⟩,
  ⟨(some 13), .mv (.tmp 5), none⟩,
  ⟨(some 14), .idxA 1 (.tmp 12) (.tmp 13), none⟩,
  ⟨(some 15), .ld (.int .i64) (.tmp 14), none⟩,
  ⟨(some 16), .mv (.tmp 1), none⟩,
  ⟨(some 17), .icmp .eql .i64 (.tmp 15) (.tmp 16), none⟩]) (.cond (.tmp 17) (.seq (.region false [⟨(some 4), .mv (.const (.bool true)), none⟩]) .ret) .skip))) (.region false [⟨(some 10), .mv (.tmp 5), none⟩,
  ⟨(some 11), .arith .add .i64 (.tmp 10) (.const (.int .i64 1)), none⟩,
  ⟨(some 5), .mv (.tmp 11), none⟩])))))) (.seq (.region false [⟨(some 4), .mv (.const (.bool false)), none⟩]) .ret)))
def loops52 : List (List (Nat × Shp)) := [[(5, .int .i64)]]
def ret52 : List RV := [.tmp 4]
theorem comp52 : compF Try.prog Try.f52 loops52 = some (18, ret52, code52) := by kernel_rfl
def J52_1  (R : Value → Heap → Prop) (cA : (Option Addr)) (cN : Nat) (x : Int) (i : Int) (next_ : (Int → Heap → Prop)) (h_1 : Heap) : Prop :=
 0 ≤ (i : Int) ∧ (i : Int) < (cN : Nat) ∧ AtP cA fun ad => ∃ (t : Int), cellH h_1 (Addr.add ad (Int.toNat i * 1)) = some (.int .i64 t) ∧ PIf ((t : Int) = x)
 (R (.bool true) h_1)
 (next_ ((IntKind.wrap .i64 (i + 1))) h_1)
def J52_0  (R : Value → Heap → Prop) (h_2 : Heap) : Prop :=
 R (.bool false) h_2
def B52_2 (R : Value → Heap → Prop) (cA : (Option Addr)) (cN : Nat) (x : Int) (i : Int) (h_ : Heap) (next_ : Int → Heap → Prop) : Prop :=
 PIf ((i : Int) < ((cN : Nat) : Int))
 (J52_1 R cA cN x i next_ h_)
 (J52_0 R h_)
def VC52 (P : Program) (cA : Option Addr) (cN : Nat) (cC : Nat) (x : Int) (R : Value → Heap → Prop) (h : Heap) : Prop :=
 LoopT (σ := Int) (fun st h next => B52_2 R cA cN x (st) h next) (0) h
theorem vc52 (P : Program) (cA : Option Addr) (cN : Nat) (cC : Nat) (x : Int) (R : Value → Heap → Prop) (h : Heap) : fnC P ret52 code52 [(.slice cA cN cC), (.int .i64 x)] h R = VC52 P cA cN cC x R h := by kernel_rfl
theorem run52 (cA : Option Addr) (cN : Nat) (cC : Nat) (x : Int) (R : Value → Heap → Prop) (h : Heap) (hv : VC52 Try.prog cA cN cC x R h) : CallsH Try.prog 52 #[(.slice cA cN cC), (.int .i64 x)] h R := calls_of_fnC (Checked.mixed Try.checked) Try.func52 comp52 (Nat.le_of_ble_eq_true rfl) (by rw [vc52]; exact hv)

/-! 53: trestle/lits.find -/
def code53 : SCode := (.seq (.region false [⟨(some 4), .mv (.const (.int .i64 0)), none⟩,
  ⟨(some 5), .mv (.const (.bool false)), none⟩]) (.seq (.region false [⟨(some 6), .mv (.tmp 0), none⟩,
  ⟨(some 7), .mv (.tmp 1), none⟩,
  ⟨(some 8), .call 64 [(.tmp 6), (.tmp 7), (.func 60)] (.tup [.one (.int .i64), .one (.bool)]), none⟩,
  ⟨(some 9), .extr (.tmp 8) 0, none⟩,
  ⟨(some 10), .extr (.tmp 8) 1, none⟩,
  ⟨(some 4), .mv (.tmp 9), none⟩,
  ⟨(some 5), .mv (.tmp 10), none⟩]) .ret))
def loops53 : List (List (Nat × Shp)) := []
def ret53 : List RV := [.tmp 4, .tmp 5]
theorem comp53 : compF Try.prog Try.f53 loops53 = some (11, ret53, code53) := by kernel_rfl
def VC53 (P : Program) (cA : Option Addr) (cN : Nat) (cC : Nat) (x : Int) (R : Value → Heap → Prop) (h : Heap) : Prop :=
 CallsH P 64 #[(.slice cA cN cC), (.int .i64 x), (.func (.func 60) #[] #[])] h fun v h_ =>
 ∃ (t : Int), ∃ (t1 : Bool), v = (.tuple #[(.int .i64 t), (.bool t1)]) ∧ R (.tuple #[(.int .i64 t), (.bool t1)]) h_
theorem vc53 (P : Program) (cA : Option Addr) (cN : Nat) (cC : Nat) (x : Int) (R : Value → Heap → Prop) (h : Heap) : fnC P ret53 code53 [(.slice cA cN cC), (.int .i64 x)] h R = VC53 P cA cN cC x R h := by kernel_rfl
theorem run53 (cA : Option Addr) (cN : Nat) (cC : Nat) (x : Int) (R : Value → Heap → Prop) (h : Heap) (hv : VC53 Try.prog cA cN cC x R h) : CallsH Try.prog 53 #[(.slice cA cN cC), (.int .i64 x)] h R := calls_of_fnC (Checked.mixed Try.checked) Try.func53 comp53 (Nat.le_of_ble_eq_true rfl) (by rw [vc53]; exact hv)

/-! 54: trestle/lits.drop -/
def code54 : SCode := (.seq (.region false [⟨(some 4), .mv (.const (.slice none 0 0)), none⟩]) (.seq (.seq (.region false [⟨(some 8), .mv (.tmp 0), none⟩,
  ⟨(some 9), .mv (.tmp 1), none⟩,
  ⟨(some 10), .call 53 [(.tmp 8), (.tmp 9)] (.tup [.one (.int .i64), .one (.bool)]), none⟩,
  ⟨(some 7), .mv (.tmp 10), none⟩,
  ⟨(some 11), .extr (.tmp 7) 0, none⟩,
  ⟨(some 12), .extr (.tmp 7) 1, none⟩,
  ⟨(some 5), .mv (.tmp 11), none⟩,
  ⟨(some 6), .mv (.tmp 12), none⟩]) (.seq (.region false [⟨(some 13), .mv (.tmp 6), none⟩]) (.cond (.tmp 13) (.seq (.region false [⟨(some 14), .mv (.tmp 0), none⟩,
  ⟨(some 15), .mv (.tmp 5), none⟩,
  ⟨(some 16), .slc 1 (.tmp 14) none (some (.tmp 15)), none⟩,
  ⟨(some 17), .mv (.tmp 0), none⟩,
  ⟨(some 18), .mv (.tmp 5), none⟩,
  ⟨(some 19), .arith .add .i64 (.tmp 18) (.const (.int .i64 1)), none⟩,
  ⟨(some 20), .slc 1 (.tmp 17) (some (.tmp 19)) none, none⟩,
  ⟨(some 21), .lit 28 2 #[(.slice none 0 0)] [(0, 1, (.tmp 16)), (1, 1, (.tmp 20))], none⟩,
  ⟨(some 22), .call 58 [(.tmp 21)] (.val (.one (.slice))), none⟩,
  ⟨(some 4), .mv (.tmp 22), none⟩]) .ret) .skip))) (.seq (.region false [⟨(some 23), .mv (.tmp 0), none⟩,
  ⟨(some 24), .call 65 [(.tmp 23)] (.val (.one (.slice))), none⟩,
  ⟨(some 4), .mv (.tmp 24), none⟩]) .ret)))
def loops54 : List (List (Nat × Shp)) := []
def ret54 : List RV := [.tmp 4]
theorem comp54 : compF Try.prog Try.f54 loops54 = some (25, ret54, code54) := by kernel_rfl
def VC54 (P : Program) (cA : Option Addr) (cN : Nat) (cC : Nat) (x : Int) (R : Value → Heap → Prop) (h : Heap) : Prop :=
 CallsH P 53 #[(.slice cA cN cC), (.int .i64 x)] h fun v h_ =>
 ∃ (t : Int), ∃ (t1 : Bool), v = (.tuple #[(.int .i64 t), (.bool t1)]) ∧ BIf t1 (0 ≤ (0 : Int) ∧ (0 : Int) ≤ t ∧ (t : Int) ≤ (cC : Nat) ∧ 0 ≤ ((IntKind.wrap .i64 (t + 1)) : Int) ∧ ((IntKind.wrap .i64 (t + 1)) : Int) ≤ ((cN : Nat) : Int) ∧ (((cN : Nat) : Int) : Int) ≤ (cC : Nat) ∧ let h_1 : Heap := (h_).push (.cells #[(.slice (cutA 1 cA cC (Int.toNat 0)) (Int.toNat t - Int.toNat 0) (cC - Int.toNat 0)), (.slice (cutA 1 cA cC (Int.toNat (IntKind.wrap .i64 (t + 1)))) (Int.toNat ((cN : Nat) : Int) - Int.toNat (IntKind.wrap .i64 (t + 1))) (cC - Int.toNat (IntKind.wrap .i64 (t + 1))))] 28); CallsH P 58 #[(.slice (some (Addr.mk (h_).size 0 none)) 2 2)] h_1 fun v1 h_2 =>
 ∃ (A : Option Addr), ∃ (N : Nat), ∃ (C : Nat), v1 = (.slice A N C) ∧ R (.slice A N C) h_2) (CallsH P 65 #[(.slice cA cN cC)] h_ fun v2 h_3 =>
 ∃ (A1 : Option Addr), ∃ (N1 : Nat), ∃ (C1 : Nat), v2 = (.slice A1 N1 C1) ∧ R (.slice A1 N1 C1) h_3)
theorem vc54 (P : Program) (cA : Option Addr) (cN : Nat) (cC : Nat) (x : Int) (R : Value → Heap → Prop) (h : Heap) : fnC P ret54 code54 [(.slice cA cN cC), (.int .i64 x)] h R = VC54 P cA cN cC x R h := by kernel_rfl
theorem run54 (cA : Option Addr) (cN : Nat) (cC : Nat) (x : Int) (R : Value → Heap → Prop) (h : Heap) (hv : VC54 Try.prog cA cN cC x R h) : CallsH Try.prog 54 #[(.slice cA cN cC), (.int .i64 x)] h R := calls_of_fnC (Checked.mixed Try.checked) Try.func54 comp54 (Nat.le_of_ble_eq_true rfl) (by rw [vc54]; exact hv)

/-! 55: trestle/trestleref01.Without -/
def code55 : SCode := (.seq (.region false [⟨(some 4), .mv (.const (.slice none 0 0)), none⟩]) (.seq (.region false [⟨(some 7), .lit 3 0 #[(.int .i64 0)] [], none⟩,
  ⟨(some 5), .mv (.tmp 7), none⟩]) (.seq (.seq (.region false [⟨(some 6), .mv (.const (.int .i64 0)), none⟩]) (.block 0 (.loop [(5, .slice), (6, .int .i64)] [8, 9, 10, 11, 14, 15, 16, 17, 18, 19, 20, 21, 22, 23, 24, 25, 26, 5, 12, 13, 6] (.seq (.seq (.region false [⟨(some 8), .mv (.tmp 6), none⟩,
  ⟨(some 9), .mv (.tmp 0), none⟩,
  ⟨(some 10), .len (.tmp 9), none⟩,
  ⟨(some 11), .icmp .lss .i64 (.tmp 8) (.tmp 10), none⟩]) (.cond (.tmp 11) .skip (.exit 0))) (.seq (.block 1 (.seq (.region false [⟨(some 14), .mv (.tmp 0), none⟩,
  ⟨(some 15), .mv (.tmp 6), none⟩,
  ⟨(some 16), .idxA 1 (.tmp 14) (.tmp 15), none⟩,
  ⟨(some 17), .ld (.int .i64) (.tmp 16), none⟩,
  ⟨(some 18), .mv (.tmp 1), none⟩,
  ⟨(some 19), .icmp .neq .i64 (.tmp 17) (.tmp 18), none⟩]) (.cond (.tmp 19) (.region false [⟨(some 20), .mv (.tmp 5), none⟩,
  ⟨(some 21), .mv (.tmp 0), none⟩,
  ⟨(some 22), .mv (.tmp 6), none⟩,
  ⟨(some 23), .idxA 1 (.tmp 21) (.tmp 22), none⟩,
  ⟨(some 24), .ld (.int .i64) (.tmp 23), none⟩,
  ⟨(some 25), .lit 3 1 #[(.int .i64 0)] [(0, 1, (.tmp 24))], none⟩,
  ⟨(some 26), .app 3 8 1 #[(.int .i64 0)] (.tmp 20) (.tmp 25), none⟩,
  ⟨(some 5), .mv (.tmp 26), none⟩]) .skip))) (.region false [⟨(some 12), .mv (.tmp 6), none⟩,
  ⟨(some 13), .arith .add .i64 (.tmp 12) (.const (.int .i64 1)), none⟩,
  ⟨(some 6), .mv (.tmp 13), none⟩])))))) (.seq (.region false [⟨(some 27), .mv (.tmp 5), none⟩,
  ⟨(some 4), .mv (.tmp 27), none⟩]) .ret))))
def loops55 : List (List (Nat × Shp)) := [[(5, .slice), (6, .int .i64)]]
def ret55 : List RV := [.tmp 4]
theorem comp55 : compF Try.prog Try.f55 loops55 = some (28, ret55, code55) := by kernel_rfl
def J55_1  (cA : (Option Addr)) (cN : Nat) (x : Int) (outA : (Option Addr)) (outN : Nat) (outC : Nat) (i : Int) (next_ : ((Option Addr × Nat × Nat) × Int → Heap → Prop)) (h_2 : Heap) : Prop :=
 0 ≤ (i : Int) ∧ (i : Int) < (cN : Nat) ∧ AtP cA fun ad => ∃ (t : Int), cellH h_2 (Addr.add ad (Int.toNat i * 1)) = some (.int .i64 t) ∧ PIf ((t : Int) = x)
 (next_ ((outA, outN, outC), (IntKind.wrap .i64 (i + 1))) h_2)
 (0 ≤ (i : Int) ∧ (i : Int) < (cN : Nat) ∧ AtP cA fun ad1 => ∃ (t1 : Int), cellH h_2 (Addr.add ad1 (Int.toNat i * 1)) = some (.int .i64 t1) ∧ let h_3 : Heap := (h_2).push (.cells #[(.int .i64 t1)] 3); ∃ ys : List Value, ReadL h_3 (some (Addr.mk (h_2).size 0 none)) ys ∧ ys.length = 1 * 1 ∧ AppS h_3 outA outN outC 3 8 1 #[(.int .i64 0)] ys 1 fun apA apN apC h_4 => next_ ((apA, apN, apC), (IntKind.wrap .i64 (i + 1))) h_4)
def J55_0  (R : Value → Heap → Prop) (outA1 : Option Addr) (outN1 : Nat) (outC1 : Nat) (h_5 : Heap) : Prop :=
 R (.slice outA1 outN1 outC1) h_5
def B55_2 (R : Value → Heap → Prop) (cA : (Option Addr)) (cN : Nat) (x : Int) (outA : Option Addr) (outN : Nat) (outC : Nat) (i : Int) (h_1 : Heap) (next_ : (Option Addr × Nat × Nat) × Int → Heap → Prop) : Prop :=
 PIf ((i : Int) < ((cN : Nat) : Int))
 (J55_1 cA cN x outA outN outC i next_ h_1)
 (J55_0 R (outA) (outN) (outC) h_1)
def VC55 (P : Program) (cA : Option Addr) (cN : Nat) (cC : Nat) (x : Int) (R : Value → Heap → Prop) (h : Heap) : Prop :=
 let h_ : Heap := (h).push (.cells #[] 3); LoopT (σ := (Option Addr × Nat × Nat) × Int) (fun st h next => B55_2 R cA cN x (st.1.1) (st.1.2.1) (st.1.2.2) (st.2) h next) (((some (Addr.mk (h).size 0 none)), 0, 0), 0) h_
theorem vc55 (P : Program) (cA : Option Addr) (cN : Nat) (cC : Nat) (x : Int) (R : Value → Heap → Prop) (h : Heap) : fnC P ret55 code55 [(.slice cA cN cC), (.int .i64 x)] h R = VC55 P cA cN cC x R h := by kernel_rfl
theorem run55 (cA : Option Addr) (cN : Nat) (cC : Nat) (x : Int) (R : Value → Heap → Prop) (h : Heap) (hv : VC55 Try.prog cA cN cC x R h) : CallsH Try.prog 55 #[(.slice cA cN cC), (.int .i64 x)] h R := calls_of_fnC (Checked.mixed Try.checked) Try.func55 comp55 (Nat.le_of_ble_eq_true rfl) (by rw [vc55]; exact hv)

/-! 56: trestle/trestlebook.CopyInts -/
def code56 : SCode := (.seq (.region false [⟨(some 2), .mv (.const (.slice none 0 0)), none⟩]) (.seq (.region false [⟨(some 3), .lit 3 0 #[(.int .i64 0)] [], none⟩,
  ⟨(some 4), .mv (.tmp 0), none⟩,
  ⟨(some 5), .app 3 8 1 #[(.int .i64 0)] (.tmp 3) (.tmp 4), none⟩,
  ⟨(some 2), .mv (.tmp 5), none⟩]) .ret))
def loops56 : List (List (Nat × Shp)) := []
def ret56 : List RV := [.tmp 2]
theorem comp56 : compF Try.prog Try.f56 loops56 = some (6, ret56, code56) := by kernel_rfl
def VC56 (P : Program) (lA : Option Addr) (lN : Nat) (lC : Nat) (R : Value → Heap → Prop) (h : Heap) : Prop :=
 let h_ : Heap := (h).push (.cells #[] 3); ∃ ys : List Value, ReadL h_ lA ys ∧ ys.length = lN * 1 ∧ AppS h_ (some (Addr.mk (h).size 0 none)) 0 0 3 8 1 #[(.int .i64 0)] ys lN fun apA apN apC h_1 => R (.slice apA apN apC) h_1
theorem vc56 (P : Program) (lA : Option Addr) (lN : Nat) (lC : Nat) (R : Value → Heap → Prop) (h : Heap) : fnC P ret56 code56 [(.slice lA lN lC)] h R = VC56 P lA lN lC R h := by kernel_rfl
theorem run56 (lA : Option Addr) (lN : Nat) (lC : Nat) (R : Value → Heap → Prop) (h : Heap) (hv : VC56 Try.prog lA lN lC R h) : CallsH Try.prog 56 #[(.slice lA lN lC)] h R := calls_of_fnC (Checked.mixed Try.checked) Try.func56 comp56 (Nat.le_of_ble_eq_true rfl) (by rw [vc56]; exact hv)

/-! 57: trestle/trestleref01.wrongly -/
def code57 : SCode := (.seq (.region false [⟨(some 2), .mv (.const (.int .i64 0)), none⟩]) (.seq (.seq (.region false [⟨(some 7), .mv (.tmp 0), none⟩,
  ⟨(some 8), .len (.tmp 7), none⟩,
  ⟨(some 9), .icmp .gtr .i64 (.tmp 8) (.const (.int .i64 262144)), none⟩]) (.cond (.tmp 9) (.seq (.region false [⟨(some 2), .mv (.const (.int .i64 2)), none⟩]) .ret) .skip)) (.seq (.seq (.region false [⟨(some 3), .mv (.const (.int .i64 0)), none⟩]) (.block 0 (.loop [(3, .int .i64)] [10, 11, 12, 13, 16, 17, 18, 19, 20, 21, 2, 14, 15, 3] (.seq (.seq (.region false [⟨(some 10), .mv (.tmp 3), none⟩,
  ⟨(some 11), .mv (.tmp 0), none⟩,
  ⟨(some 12), .len (.tmp 11), none⟩,
  ⟨(some 13), .icmp .lss .i64 (.tmp 10) (.tmp 12), none⟩]) (.cond (.tmp 13) .skip (.exit 0))) (.seq (.block 1 (.seq (.region false [⟨(some 16), .mv (.tmp 0), none⟩,
  ⟨(some 17), .mv (.tmp 3), none⟩,
  ⟨(some 18), .idxA 1 (.tmp 16) (.tmp 17), none⟩,
  ⟨(some 19), .ld (.int .i64) (.tmp 18), none⟩,
  ⟨(some 20), .call 40 [(.tmp 19)] (.val (.one (.bool))), none⟩,
  ⟨(some 21), .not (.tmp 20), none⟩]) (.cond (.tmp 21) (.seq (.region false [⟨(some 2), .mv (.const (.int .i64 1)), none⟩]) .ret) .skip))) (.region false [⟨(some 14), .mv (.tmp 3), none⟩,
  ⟨(some 15), .arith .add .i64 (.tmp 14) (.const (.int .i64 1)), none⟩,
  ⟨(some 3), .mv (.tmp 15), none⟩])))))) (.seq (.region false [⟨(some 22), .mkS 3 8 1 #[(.int .i64 0)] (.const (.int .i64 262145)) (.const (.int .i64 262145)), none⟩,
  ⟨(some 4), .mv (.tmp 22), none⟩]) (.seq (.seq (.region false [⟨(some 5), .mv (.const (.int .i64 0)), none⟩]) (.block 2 (.loop [(5, .int .i64)] [23, 24, 25, 26, 29, 30, 31, 32, 33, 6, 34, 35, 36, 37, 38, 39, 40, 41, 42, 43, 44, 45, 46, 47, 48, 49, 2, 50, 51, 52, 53, 54, 55, 56, 27, 28, 5] (.seq (.seq (.region false [⟨(some 23), .mv (.tmp 5), none⟩,
  ⟨(some 24), .mv (.tmp 0), none⟩,
  ⟨(some 25), .len (.tmp 24), none⟩,
  ⟨(some 26), .icmp .lss .i64 (.tmp 23) (.tmp 25), none⟩]) (.cond (.tmp 26) .skip (.exit 2))) (.seq (.block 3 (.seq (.region false [⟨(some 29), .mv (.tmp 0), none⟩,
  ⟨(some 30), .mv (.tmp 5), none⟩,
  ⟨(some 31), .idxA 1 (.tmp 29) (.tmp 30), none⟩,
  ⟨(some 32), .ld (.int .i64) (.tmp 31), none⟩,
  ⟨(some 33), .call 41 [(.tmp 32)] (.val (.one (.int .i64))), none⟩,
  ⟨(some 6), .mv (.tmp 33), none⟩]) (.seq (.seq (.region false [⟨(some 34), .mv (.tmp 4), none⟩,
  ⟨(some 35), .mv (.tmp 6), none⟩,
  ⟨(some 36), .idxA 1 (.tmp 34) (.tmp 35), none⟩,
  ⟨(some 37), .ld (.int .i64) (.tmp 36), none⟩,
  ⟨(some 38), .icmp .neq .i64 (.tmp 37) (.const (.int .i64 0)), none⟩,
  ⟨(some 39), .mv (.tmp 38), none⟩,
  ⟨(some 40), .mv (.tmp 4), (some (39, true))⟩,
  ⟨(some 41), .mv (.tmp 6), (some (39, true))⟩,
  ⟨(some 42), .idxA 1 (.tmp 40) (.tmp 41), (some (39, true))⟩,
  ⟨(some 43), .ld (.int .i64) (.tmp 42), (some (39, true))⟩,
  ⟨(some 44), .mv (.tmp 0), (some (39, true))⟩,
  ⟨(some 45), .mv (.tmp 5), (some (39, true))⟩,
  ⟨(some 46), .idxA 1 (.tmp 44) (.tmp 45), (some (39, true))⟩,
  ⟨(some 47), .ld (.int .i64) (.tmp 46), (some (39, true))⟩,
  ⟨(some 48), .icmp .neq .i64 (.tmp 43) (.tmp 47), (some (39, true))⟩,
  ⟨(some 49), .pick (.tmp 39) (.tmp 48) (.const (.bool false)), none⟩]) (.cond (.tmp 49) (.seq (.region false [⟨(some 2), .mv (.const (.int .i64 4)), none⟩]) .ret) .skip)) (.region false [⟨(some 50), .mv (.tmp 4), none⟩,
  ⟨(some 51), .mv (.tmp 6), none⟩,
  ⟨(some 52), .mv (.tmp 0), none⟩,
  ⟨(some 53), .mv (.tmp 5), none⟩,
  ⟨(some 54), .idxA 1 (.tmp 52) (.tmp 53), none⟩,
  ⟨(some 55), .ld (.int .i64) (.tmp 54), none⟩,
  ⟨(some 56), .idxA 1 (.tmp 50) (.tmp 51), none⟩,
  ⟨none, .st 1 (.tmp 56) (.tmp 55), none⟩])))) (.region false [⟨(some 27), .mv (.tmp 5), none⟩,
  ⟨(some 28), .arith .add .i64 (.tmp 27) (.const (.int .i64 1)), none⟩,
  ⟨(some 5), .mv (.tmp 28), none⟩])))))) (.seq (.region false [⟨(some 2), .mv (.const (.int .i64 0)), none⟩]) .ret))))))
def loops57 : List (List (Nat × Shp)) := [[(3, .int .i64)], [(5, .int .i64)]]
def ret57 : List RV := [.tmp 2]
theorem comp57 : compF Try.prog Try.f57 loops57 = some (57, ret57, code57) := by kernel_rfl
def J57_2  (P : Program) (R : Value → Heap → Prop) (lA : (Option Addr)) (lN : Nat) (i : Int) (next_ : (Int → Heap → Prop)) (h_2 : Heap) : Prop :=
 0 ≤ (i : Int) ∧ (i : Int) < (lN : Nat) ∧ AtP lA fun ad => ∃ (t : Int), cellH h_2 (Addr.add ad (Int.toNat i * 1)) = some (.int .i64 t) ∧ CallsH P 40 #[(.int .i64 t)] h_2 fun v h_3 =>
 ∃ (t1 : Bool), v = (.bool t1) ∧ BIf (!t1) (R (.int .i64 1) h_3) (next_ ((IntKind.wrap .i64 (i + 1))) h_3)
def J57_5  (lA : (Option Addr)) (lN : Nat) (h_4 : Heap) (i1 : Int) (next_1 : (Int → Heap → Prop)) (t3 : Int) (h_9 : Heap) : Prop :=
 0 ≤ (i1 : Int) ∧ (i1 : Int) < (lN : Nat) ∧ AtP lA fun ad3 => ∃ (t7 : Int), cellH h_9 (Addr.add ad3 (Int.toNat i1 * 1)) = some (.int .i64 t7) ∧ 0 ≤ (t3 : Int) ∧ (t3 : Int) < ((Int.toNat 262145) : Nat) ∧ StoreH h_9 (Addr.add (Addr.mk (h_4).size 0 none) (Int.toNat t3 * 1)) [(.int .i64 t7)] fun h_10 => next_1 ((IntKind.wrap .i64 (i1 + 1))) h_10
def J57_4  (P : Program) (R : Value → Heap → Prop) (lA : (Option Addr)) (lN : Nat) (h_4 : Heap) (i1 : Int) (next_1 : (Int → Heap → Prop)) (h_7 : Heap) : Prop :=
 0 ≤ (i1 : Int) ∧ (i1 : Int) < (lN : Nat) ∧ AtP lA fun ad1 => ∃ (t2 : Int), cellH h_7 (Addr.add ad1 (Int.toNat i1 * 1)) = some (.int .i64 t2) ∧ CallsH P 41 #[(.int .i64 t2)] h_7 fun v1 h_8 =>
 ∃ (t3 : Int), v1 = (.int .i64 t3) ∧ 0 ≤ (t3 : Int) ∧ (t3 : Int) < ((Int.toNat 262145) : Nat) ∧ ∃ (t4 : Int), cellH h_8 (Addr.add (Addr.mk (h_4).size 0 none) (Int.toNat t3 * 1)) = some (.int .i64 t4) ∧ PIf ((t4 : Int) = 0)
 (J57_5 lA lN h_4 i1 next_1 t3 h_8)
 (0 ≤ (t3 : Int) ∧ (t3 : Int) < ((Int.toNat 262145) : Nat) ∧ ∃ (t5 : Int), cellH h_8 (Addr.add (Addr.mk (h_4).size 0 none) (Int.toNat t3 * 1)) = some (.int .i64 t5) ∧ 0 ≤ (i1 : Int) ∧ (i1 : Int) < (lN : Nat) ∧ AtP lA fun ad2 => ∃ (t6 : Int), cellH h_8 (Addr.add ad2 (Int.toNat i1 * 1)) = some (.int .i64 t6) ∧ PIf ((t5 : Int) = t6)
 (J57_5 lA lN h_4 i1 next_1 t3 h_8)
 (R (.int .i64 4) h_8))
def J57_3  (R : Value → Heap → Prop) (h_11 : Heap) : Prop :=
 R (.int .i64 0) h_11
def B57_6 (P : Program) (R : Value → Heap → Prop) (lA : (Option Addr)) (lN : Nat) (h_4 : Heap) (i1 : Int) (h_6 : Heap) (next_1 : Int → Heap → Prop) : Prop :=
 PIf ((i1 : Int) < ((lN : Nat) : Int))
 (J57_4 P R lA lN h_4 i1 next_1 h_6)
 (J57_3 R h_6)
def J57_1  (P : Program) (R : Value → Heap → Prop) (h : Heap) (lA : (Option Addr)) (lN : Nat) (h_4 : Heap) : Prop :=
 0 ≤ (262145 : Int) ∧ (262145 : Int) ≤ 262145 ∧ (8 : Int) * 262145 ≤ 281474976710656 ∧ let h_5 : Heap := (h_4).push (.cells (zeroRow #[(.int .i64 0)] (Int.toNat 262145 * 1)).toArray 3); LoopT (σ := Int) (fun st h next => B57_6 P R lA lN h_4 (st) h next) (0) h_5
def B57_7 (P : Program) (R : Value → Heap → Prop) (h : Heap) (lA : (Option Addr)) (lN : Nat) (i : Int) (h_1 : Heap) (next_ : Int → Heap → Prop) : Prop :=
 PIf ((i : Int) < ((lN : Nat) : Int))
 (J57_2 P R lA lN i next_ h_1)
 (J57_1 P R h lA lN h_1)
def J57_0  (P : Program) (R : Value → Heap → Prop) (h : Heap) (lA : (Option Addr)) (lN : Nat) (h_ : Heap) : Prop :=
 LoopT (σ := Int) (fun st h next => B57_7 P R h lA lN (st) h next) (0) h_
def VC57 (P : Program) (lA : Option Addr) (lN : Nat) (lC : Nat) (R : Value → Heap → Prop) (h : Heap) : Prop :=
 PIf ((262144 : Int) < ((lN : Nat) : Int))
 (R (.int .i64 2) h)
 (J57_0 P R h lA lN h)
theorem vc57 (P : Program) (lA : Option Addr) (lN : Nat) (lC : Nat) (R : Value → Heap → Prop) (h : Heap) : fnC P ret57 code57 [(.slice lA lN lC)] h R = VC57 P lA lN lC R h := by kernel_rfl
theorem run57 (lA : Option Addr) (lN : Nat) (lC : Nat) (R : Value → Heap → Prop) (h : Heap) (hv : VC57 Try.prog lA lN lC R h) : CallsH Try.prog 57 #[(.slice lA lN lC)] h R := calls_of_fnC (Checked.mixed Try.checked) Try.func57 comp57 (Nat.le_of_ble_eq_true rfl) (by rw [vc57]; exact hv)

/-! 58: slices.Concat[trestle/api.Clause,int] -/
def code58 : SCode := (.seq (.region false [⟨(some 2), .mv (.const (.slice none 0 0)), none⟩]) (.seq (.region false [⟨(some 3), .mv (.const (.int .i64 0)), none⟩]) (.seq (.seq (.region false [⟨(some 9), .mv (.tmp 0), none⟩,
  ⟨(some 10), .len (.tmp 9), none⟩,
  ⟨(some 11), .mv (.const (.int .i64 0)), none⟩]) (.block 0 (.loop [(3, .int .i64), (11, .int .i64)] [12, 13, 14, 5, 15, 16, 17, 18, 3, 19, 20, 21, 22, 11] (.seq (.region false [⟨(some 12), .icmp .lss .i64 (.tmp 11) (.tmp 10), none⟩]) (.seq (.cond (.tmp 12) .skip (.exit 0)) (.seq (.block 1 (.seq (.region false [⟨(some 13), .idxA 1 (.tmp 9) (.tmp 11), none⟩,
  ⟨(some 14), .ld (.slice) (.tmp 13), none⟩,
  ⟨(some 5), .mv (.tmp 14), none⟩]) (.seq (.region false [⟨(some 15), .mv (.tmp 3), none⟩,
  ⟨(some 16), .mv (.tmp 5), none⟩,
  ⟨(some 17), .len (.tmp 16), none⟩,
  ⟨(some 18), .arith .add .i64 (.tmp 15) (.tmp 17), none⟩,
  ⟨(some 3), .mv (.tmp 18), none⟩]) (.seq (.region false [⟨(some 19), .mv (.tmp 3), none⟩,
  ⟨(some 20), .icmp .lss .i64 (.tmp 19) (.const (.int .i64 0)), none⟩]) (.cond (.tmp 20) (.region false [⟨(some 21), .ifc 9 (.const (.string (ByteArray.mk #[108, 101, 110, 32, 111, 117, 116, 32, 111, 102, 32, 114, 97, 110, 103, 101]))), none⟩,
  ⟨none, .halt, none⟩]) .skip))))) (.region false [⟨(some 22), .arith .add .i64 (.tmp 11) (.const (.int .i64 1)), none⟩,
  ⟨(some 11), .mv (.tmp 22), none⟩]))))))) (.seq (.region false [⟨(some 23), .mv (.tmp 3), none⟩,
  ⟨(some 24), .call 66 [(.const (.slice none 0 0)), (.tmp 23)] (.val (.one (.slice))), none⟩,
  ⟨(some 6), .mv (.tmp 24), none⟩]) (.seq (.seq (.region false [⟨(some 25), .mv (.tmp 0), none⟩,
  ⟨(some 26), .len (.tmp 25), none⟩,
  ⟨(some 27), .mv (.const (.int .i64 0)), none⟩]) (.block 2 (.loop [(6, .slice), (27, .int .i64)] [28, 29, 30, 8, 31, 32, 33, 6, 34, 27] (.seq (.region false [⟨(some 28), .icmp .lss .i64 (.tmp 27) (.tmp 26), none⟩]) (.seq (.cond (.tmp 28) .skip (.exit 2)) (.seq (.block 3 (.seq (.region false [⟨(some 29), .idxA 1 (.tmp 25) (.tmp 27), none⟩,
  ⟨(some 30), .ld (.slice) (.tmp 29), none⟩,
  ⟨(some 8), .mv (.tmp 30), none⟩]) (.region false [⟨(some 31), .mv (.tmp 6), none⟩,
  ⟨(some 32), .mv (.tmp 8), none⟩,
  ⟨(some 33), .app 3 8 1 #[(.int .i64 0)] (.tmp 31) (.tmp 32), none⟩,
  ⟨(some 6), .mv (.tmp 33), none⟩]))) (.region false [⟨(some 34), .arith .add .i64 (.tmp 27) (.const (.int .i64 1)), none⟩,
  ⟨(some 27), .mv (.tmp 34), none⟩]))))))) (.seq (.region false [⟨(some 35), .mv (.tmp 6), none⟩,
  ⟨(some 2), .mv (.tmp 35), none⟩]) .ret))))))
def loops58 : List (List (Nat × Shp)) := [[(3, .int .i64), (11, .int .i64)], [(6, .slice), (27, .int .i64)]]
def ret58 : List RV := [.tmp 2]
theorem comp58 : compF Try.prog Try.f58 loops58 = some (36, ret58, code58) := by kernel_rfl
def J58_1  (slicesA : (Option Addr)) (slicesN : Nat) (size : Int) (t : Int) (next_ : (Int × Int → Heap → Prop)) (h_1 : Heap) : Prop :=
 0 ≤ (t : Int) ∧ (t : Int) < (slicesN : Nat) ∧ AtP slicesA fun ad => ∃ (A : Option Addr), ∃ (N : Nat), ∃ (C : Nat), cellH h_1 (Addr.add ad (Int.toNat t * 1)) = some (.slice A N C) ∧ PIf (((IntKind.wrap .i64 (size + ((N : Nat) : Int))) : Int) < 0)
 (False)
 (next_ ((IntKind.wrap .i64 (size + ((N : Nat) : Int))), (IntKind.wrap .i64 (t + 1))) h_1)
def J58_4  (slicesA : (Option Addr)) (slicesN : Nat) (newsliceA : (Option Addr)) (newsliceN : Nat) (newsliceC : Nat) (t1 : Int) (next_1 : ((Option Addr × Nat × Nat) × Int → Heap → Prop)) (h_5 : Heap) : Prop :=
 0 ≤ (t1 : Int) ∧ (t1 : Int) < (slicesN : Nat) ∧ AtP slicesA fun ad1 => ∃ (A2 : Option Addr), ∃ (N2 : Nat), ∃ (C2 : Nat), cellH h_5 (Addr.add ad1 (Int.toNat t1 * 1)) = some (.slice A2 N2 C2) ∧ ∃ ys : List Value, ReadL h_5 A2 ys ∧ ys.length = N2 * 1 ∧ AppS h_5 newsliceA newsliceN newsliceC 3 8 1 #[(.int .i64 0)] ys N2 fun apA apN apC h_6 => next_1 ((apA, apN, apC), (IntKind.wrap .i64 (t1 + 1))) h_6
def J58_3  (R : Value → Heap → Prop) (newsliceA1 : Option Addr) (newsliceN1 : Nat) (newsliceC1 : Nat) (h_7 : Heap) : Prop :=
 R (.slice newsliceA1 newsliceN1 newsliceC1) h_7
def B58_6 (R : Value → Heap → Prop) (slicesA : (Option Addr)) (slicesN : Nat) (newsliceA : Option Addr) (newsliceN : Nat) (newsliceC : Nat) (t1 : Int) (h_4 : Heap) (next_1 : (Option Addr × Nat × Nat) × Int → Heap → Prop) : Prop :=
 PIf ((t1 : Int) < ((slicesN : Nat) : Int))
 (J58_4 slicesA slicesN newsliceA newsliceN newsliceC t1 next_1 h_4)
 (J58_3 R (newsliceA) (newsliceN) (newsliceC) h_4)
def J58_0  (P : Program) (R : Value → Heap → Prop) (h : Heap) (slicesA : (Option Addr)) (slicesN : Nat) (size1 : Int) (h_2 : Heap) : Prop :=
 CallsH P 66 #[(.slice none 0 0), (.int .i64 size1)] h_2 fun v h_3 =>
 ∃ (A1 : Option Addr), ∃ (N1 : Nat), ∃ (C1 : Nat), v = (.slice A1 N1 C1) ∧ LoopT (σ := (Option Addr × Nat × Nat) × Int) (fun st h next => B58_6 R slicesA slicesN (st.1.1) (st.1.2.1) (st.1.2.2) (st.2) h next) ((A1, N1, C1), 0) h_3
def B58_7 (P : Program) (R : Value → Heap → Prop) (h : Heap) (slicesA : (Option Addr)) (slicesN : Nat) (size : Int) (t : Int) (h_ : Heap) (next_ : Int × Int → Heap → Prop) : Prop :=
 PIf ((t : Int) < ((slicesN : Nat) : Int))
 (J58_1 slicesA slicesN size t next_ h_)
 (J58_0 P R h slicesA slicesN (size) h_)
def VC58 (P : Program) (slicesA : Option Addr) (slicesN : Nat) (slicesC : Nat) (R : Value → Heap → Prop) (h : Heap) : Prop :=
 LoopT (σ := Int × Int) (fun st h next => B58_7 P R h slicesA slicesN (st.1) (st.2) h next) (0, 0) h
theorem vc58 (P : Program) (slicesA : Option Addr) (slicesN : Nat) (slicesC : Nat) (R : Value → Heap → Prop) (h : Heap) : fnC P ret58 code58 [(.slice slicesA slicesN slicesC)] h R = VC58 P slicesA slicesN slicesC R h := by kernel_rfl
theorem run58 (slicesA : Option Addr) (slicesN : Nat) (slicesC : Nat) (R : Value → Heap → Prop) (h : Heap) (hv : VC58 Try.prog slicesA slicesN slicesC R h) : CallsH Try.prog 58 #[(.slice slicesA slicesN slicesC)] h R := calls_of_fnC (Checked.mixed Try.checked) Try.func58 comp58 (Nat.le_of_ble_eq_true rfl) (by rw [vc58]; exact hv)

/-! 59: slices.SortFunc[trestle/api.Clause,int] -/
def code59 : SCode := (.seq (.region false [⟨(some 5), .mv (.tmp 0), none⟩,
  ⟨(some 6), .len (.tmp 5), none⟩,
  ⟨(some 4), .mv (.tmp 6), none⟩]) (.region false [⟨(some 7), .mv (.tmp 0), none⟩,
  ⟨(some 8), .mv (.tmp 4), none⟩,
  ⟨(some 9), .mv (.tmp 4), none⟩,
  ⟨(some 10), .conv .u64 (.tmp 9), none⟩,
  ⟨(some 11), .call 68 [(.tmp 10)] (.val (.one (.int .i64))), none⟩,
  ⟨(some 12), .mv (.tmp 1), none⟩,
  ⟨(some 13), .call 67 [(.tmp 7), (.const (.int .i64 0)), (.tmp 8), (.tmp 11), (.tmp 12)] (.tup []), none⟩]))
def loops59 : List (List (Nat × Shp)) := []
def ret59 : List RV := []
theorem comp59 : compF Try.prog Try.f59 loops59 = some (14, ret59, code59) := by kernel_rfl
def VC59 (P : Program) (xA : Option Addr) (xN : Nat) (xC : Nat) (cmp : Value) (R : Value → Heap → Prop) (h : Heap) : Prop :=
 CallsH P 68 #[(.int .u64 (IntKind.wrap .u64 ((xN : Nat) : Int)))] h fun v h_ =>
 ∃ (t : Int), v = (.int .i64 t) ∧ CallsH P 67 #[(.slice xA xN xC), (.int .i64 0), (.int .i64 ((xN : Nat) : Int)), (.int .i64 t), cmp] h_ fun v1 h_1 =>
 v1 = (.tuple #[]) ∧ R (.tuple #[]) h_1
theorem vc59 (P : Program) (xA : Option Addr) (xN : Nat) (xC : Nat) (cmp : Value) (R : Value → Heap → Prop) (h : Heap) : fnC P ret59 code59 [(.slice xA xN xC), cmp] h R = VC59 P xA xN xC cmp R h := by kernel_rfl
theorem run59 (xA : Option Addr) (xN : Nat) (xC : Nat) (cmp : Value) (R : Value → Heap → Prop) (h : Heap) (hv : VC59 Try.prog xA xN xC cmp R h) : CallsH Try.prog 59 #[(.slice xA xN xC), cmp] h R := calls_of_fnC (Checked.mixed Try.checked) Try.func59 comp59 (Nat.le_of_ble_eq_true rfl) (by rw [vc59]; exact hv)

/-! 60: trestle/lits.order -/
def code60 : SCode := (.seq (.region false [⟨(some 4), .mv (.const (.int .i64 0)), none⟩]) (.seq (.seq (.region false [⟨(some 5), .mv (.tmp 0), none⟩,
  ⟨(some 6), .call 39 [(.tmp 5)] (.val (.one (.int .i64))), none⟩,
  ⟨(some 7), .mv (.tmp 1), none⟩,
  ⟨(some 8), .call 39 [(.tmp 7)] (.val (.one (.int .i64))), none⟩,
  ⟨(some 9), .icmp .neq .i64 (.tmp 6) (.tmp 8), none⟩]) (.cond (.tmp 9) (.seq (.region false [⟨(some 10), .mv (.tmp 0), none⟩,
  ⟨(some 11), .call 39 [(.tmp 10)] (.val (.one (.int .i64))), none⟩,
  ⟨(some 12), .mv (.tmp 1), none⟩,
  ⟨(some 13), .call 39 [(.tmp 12)] (.val (.one (.int .i64))), none⟩,
  ⟨(some 14), .arith .sub .i64 (.tmp 11) (.tmp 13), none⟩,
  ⟨(some 4), .mv (.tmp 14), none⟩]) .ret) .skip)) (.seq (.region false [⟨(some 15), .mv (.tmp 0), none⟩,
  ⟨(some 16), .mv (.tmp 1), none⟩,
  ⟨(some 17), .arith .sub .i64 (.tmp 15) (.tmp 16), none⟩,
  ⟨(some 4), .mv (.tmp 17), none⟩]) .ret)))
def loops60 : List (List (Nat × Shp)) := []
def ret60 : List RV := [.tmp 4]
theorem comp60 : compF Try.prog Try.f60 loops60 = some (18, ret60, code60) := by kernel_rfl
def VC60 (P : Program) (x : Int) (y : Int) (R : Value → Heap → Prop) (h : Heap) : Prop :=
 CallsH P 39 #[(.int .i64 x)] h fun v h_ =>
 ∃ (t : Int), v = (.int .i64 t) ∧ CallsH P 39 #[(.int .i64 y)] h_ fun v1 h_1 =>
 ∃ (t1 : Int), v1 = (.int .i64 t1) ∧ PIf ((t : Int) = t1)
 (R (.int .i64 (IntKind.wrap .i64 (x - y))) h_1)
 (CallsH P 39 #[(.int .i64 x)] h_1 fun v2 h_2 =>
 ∃ (t2 : Int), v2 = (.int .i64 t2) ∧ CallsH P 39 #[(.int .i64 y)] h_2 fun v3 h_3 =>
 ∃ (t3 : Int), v3 = (.int .i64 t3) ∧ R (.int .i64 (IntKind.wrap .i64 (t2 - t3))) h_3)
theorem vc60 (P : Program) (x : Int) (y : Int) (R : Value → Heap → Prop) (h : Heap) : fnC P ret60 code60 [(.int .i64 x), (.int .i64 y)] h R = VC60 P x y R h := by kernel_rfl
theorem run60 (x : Int) (y : Int) (R : Value → Heap → Prop) (h : Heap) (hv : VC60 Try.prog x y R h) : CallsH Try.prog 60 #[(.int .i64 x), (.int .i64 y)] h R := calls_of_fnC (Checked.mixed Try.checked) Try.func60 comp60 (Nat.le_of_ble_eq_true rfl) (by rw [vc60]; exact hv)

/-! 61: slices.Compact[trestle/api.Clause,int] -/
def code61 : SCode := (.seq (.region false [⟨(some 2), .mv (.const (.slice none 0 0)), none⟩]) (.seq (.seq (.region false [⟨(some 6), .mv (.tmp 0), none⟩,
  ⟨(some 7), .len (.tmp 6), none⟩,
  ⟨(some 8), .icmp .lss .i64 (.tmp 7) (.const (.int .i64 2)), none⟩]) (.cond (.tmp 8) (.seq (.region false [⟨(some 9), .mv (.tmp 0), none⟩,
  ⟨(some 2), .mv (.tmp 9), none⟩]) .ret) .skip)) (.seq (.seq (.region false [⟨(some 3), .mv (.const (.int .i64 1)), none⟩]) (.block 0 (.loop [(3, .int .i64)] [10, 11, 12, 13, 16, 17, 18, 19, 20, 21, 22, 23, 24, 25, 26, 27, 28, 4, 5, 29, 30, 31, 32, 35, 36, 37, 38, 39, 40, 41, 42, 43, 44, 45, 46, 47, 48, 49, 50, 51, 52, 53, 3, 33, 34, 5, 54, 55, 56, 57, 58, 59, 2, 14, 15, 3] (.seq (.seq (.region false [⟨(some 10), .mv (.tmp 3), none⟩,
  ⟨(some 11), .mv (.tmp 0), none⟩,
  ⟨(some 12), .len (.tmp 11), none⟩,
  ⟨(some 13), .icmp .lss .i64 (.tmp 10) (.tmp 12), none⟩]) (.cond (.tmp 13) .skip (.exit 0))) (.seq (.block 1 (.seq (.region false [⟨(some 16), .mv (.tmp 0), none⟩,
  ⟨(some 17), .mv (.tmp 3), none⟩,
  ⟨(some 18), .idxA 1 (.tmp 16) (.tmp 17), none⟩,
  ⟨(some 19), .ld (.int .i64) (.tmp 18), none⟩,
  ⟨(some 20), .mv (.tmp 0), none⟩,
  ⟨(some 21), .mv (.tmp 3), none⟩,
  ⟨(some 22), .arith .sub .i64 (.tmp 21) (.const (.int .i64 1)), none⟩,
  ⟨(some 23), .idxA 1 (.tmp 20) (.tmp 22), none⟩,
  ⟨(some 24), .ld (.int .i64) (.tmp 23), none⟩,
  ⟨(some 25), .icmp .eql .i64 (.tmp 19) (.tmp 24), none⟩]) (.cond (.tmp 25) (.seq (.region false [⟨(some 26), .mv (.tmp 0), none⟩,
  ⟨(some 27), .mv (.tmp 3), none⟩,
  ⟨(some 28), .slc 1 (.tmp 26) (some (.tmp 27)) none, none⟩,
  ⟨(some 4), .mv (.tmp 28), none⟩]) (.seq (.seq (.region false [⟨(some 5), .mv (.const (.int .i64 1)), none⟩]) (.block 2 (.loop [(3, .int .i64), (5, .int .i64)] [29, 30, 31, 32, 35, 36, 37, 38, 39, 40, 41, 42, 43, 44, 45, 46, 47, 48, 49, 50, 51, 52, 53, 3, 33, 34, 5] (.seq (.seq (.region false [⟨(some 29), .mv (.tmp 5), none⟩,
  ⟨(some 30), .mv (.tmp 4), none⟩,
  ⟨(some 31), .len (.tmp 30), none⟩,
  ⟨(some 32), .icmp .lss .i64 (.tmp 29) (.tmp 31), none⟩]) (.cond (.tmp 32) .skip (.exit 2))) (.seq (.block 3 (.seq (.region false [⟨(some 35), .mv (.tmp 4), none⟩,
  ⟨(some 36), .mv (.tmp 5), none⟩,
  ⟨(some 37), .idxA 1 (.tmp 35) (.tmp 36), none⟩,
  ⟨(some 38), .ld (.int .i64) (.tmp 37), none⟩,
  ⟨(some 39), .mv (.tmp 4), none⟩,
  ⟨(some 40), .mv (.tmp 5), none⟩,
  ⟨(some 41), .arith .sub .i64 (.tmp 40) (.const (.int .i64 1)), none⟩,
  ⟨(some 42), .idxA 1 (.tmp 39) (.tmp 41), none⟩,
  ⟨(some 43), .ld (.int .i64) (.tmp 42), none⟩,
  ⟨(some 44), .icmp .neq .i64 (.tmp 38) (.tmp 43), none⟩]) (.cond (.tmp 44) (.seq (.region false [⟨(some 45), .mv (.tmp 0), none⟩,
  ⟨(some 46), .mv (.tmp 3), none⟩,
  ⟨(some 47), .mv (.tmp 4), none⟩,
  ⟨(some 48), .mv (.tmp 5), none⟩,
  ⟨(some 49), .idxA 1 (.tmp 47) (.tmp 48), none⟩,
  ⟨(some 50), .ld (.int .i64) (.tmp 49), none⟩,
  ⟨(some 51), .idxA 1 (.tmp 45) (.tmp 46), none⟩,
  ⟨none, .st 1 (.tmp 51) (.tmp 50), none⟩]) (.region false [⟨(some 52), .mv (.tmp 3), none⟩,
  ⟨(some 53), .arith .add .i64 (.tmp 52) (.const (.int .i64 1)), none⟩,
  ⟨(some 3), .mv (.tmp 53), none⟩])) .skip))) (.region false [⟨(some 33), .mv (.tmp 5), none⟩,
  ⟨(some 34), .arith .add .i64 (.tmp 33) (.const (.int .i64 1)), none⟩,
  ⟨(some 5), .mv (.tmp 34), none⟩])))))) (.seq (.region false [⟨(some 54), .mv (.tmp 0), none⟩,
  ⟨(some 55), .mv (.tmp 3), none⟩,
  ⟨(some 56), .slc 1 (.tmp 54) (some (.tmp 55)) none, none⟩,
  ⟨none, .clr 1 #[(.int .i64 0)] (.tmp 56), none⟩]) (.seq (.region false [⟨(some 57), .mv (.tmp 0), none⟩,
  ⟨(some 58), .mv (.tmp 3), none⟩,
  ⟨(some 59), .slc 1 (.tmp 57) none (some (.tmp 58)), none⟩,
  ⟨(some 2), .mv (.tmp 59), none⟩]) .ret)))) .skip))) (.region false [⟨(some 14), .mv (.tmp 3), none⟩,
  ⟨(some 15), .arith .add .i64 (.tmp 14) (.const (.int .i64 1)), none⟩,
  ⟨(some 3), .mv (.tmp 15), none⟩])))))) (.seq (.region false [⟨(some 60), .mv (.tmp 0), none⟩,
  ⟨(some 2), .mv (.tmp 60), none⟩]) .ret))))
def loops61 : List (List (Nat × Shp)) := [[(3, .int .i64)], [(3, .int .i64), (5, .int .i64)]]
def ret61 : List RV := [.tmp 2]
theorem comp61 : compF Try.prog Try.f61 loops61 = some (61, ret61, code61) := by kernel_rfl
def J61_5  (sA : (Option Addr)) (sN : Nat) (sC : Nat) (k : Int) (k1 : Int) (k2 : Int) (next_1 : (Int × Int → Heap → Prop)) (h_4 : Heap) : Prop :=
 0 ≤ (k2 : Int) ∧ (k2 : Int) < ((Int.toNat ((sN : Nat) : Int) - Int.toNat k) : Nat) ∧ AtP (cutA 1 sA sC (Int.toNat k)) fun ad2 => ∃ (t2 : Int), cellH h_4 (Addr.add ad2 (Int.toNat k2 * 1)) = some (.int .i64 t2) ∧ 0 ≤ ((IntKind.wrap .i64 (k2 - 1)) : Int) ∧ ((IntKind.wrap .i64 (k2 - 1)) : Int) < ((Int.toNat ((sN : Nat) : Int) - Int.toNat k) : Nat) ∧ AtP (cutA 1 sA sC (Int.toNat k)) fun ad3 => ∃ (t3 : Int), cellH h_4 (Addr.add ad3 (Int.toNat (IntKind.wrap .i64 (k2 - 1)) * 1)) = some (.int .i64 t3) ∧ PIf ((t2 : Int) = t3)
 (next_1 (k1, (IntKind.wrap .i64 (k2 + 1))) h_4)
 (0 ≤ (k2 : Int) ∧ (k2 : Int) < ((Int.toNat ((sN : Nat) : Int) - Int.toNat k) : Nat) ∧ AtP (cutA 1 sA sC (Int.toNat k)) fun ad4 => ∃ (t4 : Int), cellH h_4 (Addr.add ad4 (Int.toNat k2 * 1)) = some (.int .i64 t4) ∧ 0 ≤ (k1 : Int) ∧ (k1 : Int) < (sN : Nat) ∧ AtP sA fun ad5 => StoreH h_4 (Addr.add ad5 (Int.toNat k1 * 1)) [(.int .i64 t4)] fun h_5 => next_1 ((IntKind.wrap .i64 (k1 + 1)), (IntKind.wrap .i64 (k2 + 1))) h_5)
def J61_4  (R : Value → Heap → Prop) (sA : (Option Addr)) (sN : Nat) (sC : Nat) (k3 : Int) (h_6 : Heap) : Prop :=
 0 ≤ (k3 : Int) ∧ (k3 : Int) ≤ ((sN : Nat) : Int) ∧ (((sN : Nat) : Int) : Int) ≤ (sC : Nat) ∧ CpyH h_6 (cutA 1 sA sC (Int.toNat k3)) (zeroRow #[(.int .i64 0)] ((Int.toNat ((sN : Nat) : Int) - Int.toNat k3) * 1)) fun h_7 => 0 ≤ (0 : Int) ∧ (0 : Int) ≤ k3 ∧ (k3 : Int) ≤ (sC : Nat) ∧ R (.slice (cutA 1 sA sC (Int.toNat 0)) (Int.toNat k3 - Int.toNat 0) (sC - Int.toNat 0)) h_7
def B61_6 (R : Value → Heap → Prop) (sA : (Option Addr)) (sN : Nat) (sC : Nat) (k : Int) (k1 : Int) (k2 : Int) (h_3 : Heap) (next_1 : Int × Int → Heap → Prop) : Prop :=
 PIf ((k2 : Int) < (((Int.toNat ((sN : Nat) : Int) - Int.toNat k) : Nat) : Int))
 (J61_5 sA sN sC k k1 k2 next_1 h_3)
 (J61_4 R sA sN sC (k1) h_3)
def J61_3  (next_ : (Int → Heap → Prop)) (k4 : Int) (h_8 : Heap) : Prop :=
 next_ ((IntKind.wrap .i64 (k4 + 1))) h_8
def J61_2  (R : Value → Heap → Prop) (h : Heap) (sA : (Option Addr)) (sN : Nat) (sC : Nat) (k : Int) (next_ : (Int → Heap → Prop)) (h_2 : Heap) : Prop :=
 0 ≤ (k : Int) ∧ (k : Int) < (sN : Nat) ∧ AtP sA fun ad => ∃ (t : Int), cellH h_2 (Addr.add ad (Int.toNat k * 1)) = some (.int .i64 t) ∧ 0 ≤ ((IntKind.wrap .i64 (k - 1)) : Int) ∧ ((IntKind.wrap .i64 (k - 1)) : Int) < (sN : Nat) ∧ AtP sA fun ad1 => ∃ (t1 : Int), cellH h_2 (Addr.add ad1 (Int.toNat (IntKind.wrap .i64 (k - 1)) * 1)) = some (.int .i64 t1) ∧ PIf ((t : Int) = t1)
 (0 ≤ (k : Int) ∧ (k : Int) ≤ ((sN : Nat) : Int) ∧ (((sN : Nat) : Int) : Int) ≤ (sC : Nat) ∧ LoopT (σ := Int × Int) (fun st h next => B61_6 R sA sN sC k (st.1) (st.2) h next) (k, 1) h_2)
 (J61_3 next_ (k) h_2)
def J61_1  (R : Value → Heap → Prop) (sA : (Option Addr)) (sN : Nat) (sC : Nat) (h_9 : Heap) : Prop :=
 R (.slice sA sN sC) h_9
def B61_7 (R : Value → Heap → Prop) (h : Heap) (sA : (Option Addr)) (sN : Nat) (sC : Nat) (k : Int) (h_1 : Heap) (next_ : Int → Heap → Prop) : Prop :=
 PIf ((k : Int) < ((sN : Nat) : Int))
 (J61_2 R h sA sN sC k next_ h_1)
 (J61_1 R sA sN sC h_1)
def J61_0  (R : Value → Heap → Prop) (h : Heap) (sA : (Option Addr)) (sN : Nat) (sC : Nat) (h_ : Heap) : Prop :=
 LoopT (σ := Int) (fun st h next => B61_7 R h sA sN sC (st) h next) (1) h_
def VC61 (P : Program) (sA : Option Addr) (sN : Nat) (sC : Nat) (R : Value → Heap → Prop) (h : Heap) : Prop :=
 PIf ((((sN : Nat) : Int) : Int) < 2)
 (R (.slice sA sN sC) h)
 (J61_0 R h sA sN sC h)
theorem vc61 (P : Program) (sA : Option Addr) (sN : Nat) (sC : Nat) (R : Value → Heap → Prop) (h : Heap) : fnC P ret61 code61 [(.slice sA sN sC)] h R = VC61 P sA sN sC R h := by kernel_rfl
theorem run61 (sA : Option Addr) (sN : Nat) (sC : Nat) (R : Value → Heap → Prop) (h : Heap) (hv : VC61 Try.prog sA sN sC R h) : CallsH Try.prog 61 #[(.slice sA sN sC)] h R := calls_of_fnC (Checked.mixed Try.checked) Try.func61 comp61 (Nat.le_of_ble_eq_true rfl) (by rw [vc61]; exact hv)

/-! 62: slices.Clip[trestle/api.Clause,int] -/
def code62 : SCode := (.seq (.region false [⟨(some 2), .mv (.const (.slice none 0 0)), none⟩]) (.seq (.region false [⟨(some 3), .mv (.tmp 0), none⟩,
  ⟨(some 4), .mv (.tmp 0), none⟩,
  ⟨(some 5), .len (.tmp 4), none⟩,
  ⟨(some 6), .mv (.tmp 0), none⟩,
  ⟨(some 7), .len (.tmp 6), none⟩,
  ⟨(some 8), .slc3 1 (.tmp 3) none (.tmp 5) (.tmp 7), none⟩,
  ⟨(some 2), .mv (.tmp 8), none⟩]) .ret))
def loops62 : List (List (Nat × Shp)) := []
def ret62 : List RV := [.tmp 2]
theorem comp62 : compF Try.prog Try.f62 loops62 = some (9, ret62, code62) := by kernel_rfl
def VC62 (P : Program) (sA : Option Addr) (sN : Nat) (sC : Nat) (R : Value → Heap → Prop) (h : Heap) : Prop :=
 0 ≤ (0 : Int) ∧ (0 : Int) ≤ ((sN : Nat) : Int) ∧ (((sN : Nat) : Int) : Int) ≤ ((sN : Nat) : Int) ∧ (((sN : Nat) : Int) : Int) ≤ (sC : Nat) ∧ R (.slice (cutA 1 sA (Int.toNat ((sN : Nat) : Int)) (Int.toNat 0)) (Int.toNat ((sN : Nat) : Int) - Int.toNat 0) (Int.toNat ((sN : Nat) : Int) - Int.toNat 0)) h
theorem vc62 (P : Program) (sA : Option Addr) (sN : Nat) (sC : Nat) (R : Value → Heap → Prop) (h : Heap) : fnC P ret62 code62 [(.slice sA sN sC)] h R = VC62 P sA sN sC R h := by kernel_rfl
theorem run62 (sA : Option Addr) (sN : Nat) (sC : Nat) (R : Value → Heap → Prop) (h : Heap) (hv : VC62 Try.prog sA sN sC R h) : CallsH Try.prog 62 #[(.slice sA sN sC)] h R := calls_of_fnC (Checked.mixed Try.checked) Try.func62 comp62 (Nat.le_of_ble_eq_true rfl) (by rw [vc62]; exact hv)

/-! 63: trestle/trestleref01.Put -/
def code63 : SCode := (.seq (.region false [⟨(some 4), .mv (.const (.slice none 0 0)), none⟩,
  ⟨(some 5), .mv (.const (.bool false)), none⟩]) (.seq (.region false [⟨(some 6), .mv (.const (.int .i64 0)), none⟩]) (.seq (.block 0 (.loop [(6, .int .i64)] [8, 9, 10, 11, 12, 13, 14, 15, 16, 17, 18, 19, 20, 21, 22, 23, 6] (.seq (.seq (.region false [⟨(some 8), .mv (.tmp 6), none⟩,
  ⟨(some 9), .mv (.tmp 0), none⟩,
  ⟨(some 10), .len (.tmp 9), none⟩,
  ⟨(some 11), .icmp .lss .i64 (.tmp 8) (.tmp 10), none⟩,
  ⟨(some 12), .mv (.tmp 11), none⟩,
  ⟨(some 13), .mv (.tmp 0), (some (12, true))⟩,
  ⟨(some 14), .mv (.tmp 6), (some (12, true))⟩,
  ⟨(some 15), .idxA 1 (.tmp 13) (.tmp 14), (some (12, true))⟩,
  ⟨(some 16), .ld (.int .i64) (.tmp 15), (some (12, true))⟩,
  ⟨(some 17), .call 41 [(.tmp 16)] (.val (.one (.int .i64))), (some (12, true))⟩,
  ⟨(some 18), .mv (.tmp 1), (some (12, true))⟩,
  ⟨(some 19), .call 41 [(.tmp 18)] (.val (.one (.int .i64))), (some (12, true))⟩,
  ⟨(some 20), .icmp .lss .i64 (.tmp 17) (.tmp 19), (some (12, true))⟩,
  ⟨(some 21), .pick (.tmp 12) (.tmp 20) (.const (.bool false)), none⟩]) (.cond (.tmp 21) .skip (.exit 0))) (.block 1 (.region false [⟨(some 22), .mv (.tmp 6), none⟩,
  ⟨(some 23), .arith .add .i64 (.tmp 22) (.const (.int .i64 1)), none⟩,
  ⟨(some 6), .mv (.tmp 23), none⟩]))))) (.seq (.seq (.region false [⟨(some 24), .mv (.tmp 6), none⟩,
  ⟨(some 25), .mv (.tmp 0), none⟩,
  ⟨(some 26), .len (.tmp 25), none⟩,
  ⟨(some 27), .icmp .lss .i64 (.tmp 24) (.tmp 26), none⟩,
  ⟨(some 28), .mv (.tmp 27), none⟩,
  ⟨(some 29), .mv (.tmp 0), (some (28, true))⟩,
  ⟨(some 30), .mv (.tmp 6), (some (28, true))⟩,
  ⟨(some 31), .idxA 1 (.tmp 29) (.tmp 30), (some (28, true))⟩,
  ⟨(some 32), .ld (.int .i64) (.tmp 31), (some (28, true))⟩,
  ⟨(some 33), .call 41 [(.tmp 32)] (.val (.one (.int .i64))), (some (28, true))⟩,
  ⟨(some 34), .mv (.tmp 1), (some (28, true))⟩,
  ⟨(some 35), .call 41 [(.tmp 34)] (.val (.one (.int .i64))), (some (28, true))⟩,
  ⟨(some 36), .icmp .eql .i64 (.tmp 33) (.tmp 35), (some (28, true))⟩,
  ⟨(some 37), .pick (.tmp 28) (.tmp 36) (.const (.bool false)), none⟩]) (.cond (.tmp 37) (.seq (.region false [⟨(some 38), .mv (.tmp 0), none⟩,
  ⟨(some 39), .mv (.tmp 0), none⟩,
  ⟨(some 40), .mv (.tmp 6), none⟩,
  ⟨(some 41), .idxA 1 (.tmp 39) (.tmp 40), none⟩,
  ⟨(some 42), .ld (.int .i64) (.tmp 41), none⟩,
  ⟨(some 43), .mv (.tmp 1), none⟩,
  ⟨(some 44), .icmp .eql .i64 (.tmp 42) (.tmp 43), none⟩,
  ⟨(some 4), .mv (.tmp 38), none⟩,
  ⟨(some 5), .mv (.tmp 44), none⟩]) .ret) .skip)) (.seq (.region false [⟨(some 45), .lit 3 0 #[(.int .i64 0)] [], none⟩,
  ⟨(some 46), .mv (.tmp 0), none⟩,
  ⟨(some 47), .mv (.tmp 6), none⟩,
  ⟨(some 48), .slc 1 (.tmp 46) none (some (.tmp 47)), none⟩,
  ⟨(some 49), .app 3 8 1 #[(.int .i64 0)] (.tmp 45) (.tmp 48), none⟩,
  ⟨(some 7), .mv (.tmp 49), none⟩]) (.seq (.region false [⟨(some 50), .mv (.tmp 7), none⟩,
  ⟨(some 51), .mv (.tmp 1), none⟩,
  ⟨(some 52), .lit 3 1 #[(.int .i64 0)] [(0, 1, (.tmp 51))], none⟩,
  ⟨(some 53), .app 3 8 1 #[(.int .i64 0)] (.tmp 50) (.tmp 52), none⟩,
  ⟨(some 7), .mv (.tmp 53), none⟩]) (.seq (.region false [⟨(some 54), .mv (.tmp 7), none⟩,
  ⟨(some 55), .mv (.tmp 0), none⟩,
  ⟨(some 56), .mv (.tmp 6), none⟩,
  ⟨(some 57), .slc 1 (.tmp 55) (some (.tmp 56)) none, none⟩,
  ⟨(some 58), .app 3 8 1 #[(.int .i64 0)] (.tmp 54) (.tmp 57), none⟩,
  ⟨(some 4), .mv (.tmp 58), none⟩,
  ⟨(some 5), .mv (.const (.bool true)), none⟩]) .ret)))))))
def loops63 : List (List (Nat × Shp)) := [[(6, .int .i64)]]
def ret63 : List RV := [.tmp 4, .tmp 5]
theorem comp63 : compF Try.prog Try.f63 loops63 = some (59, ret63, code63) := by kernel_rfl
def J63_1  (R : Value → Heap → Prop) (cA : (Option Addr)) (cN : Nat) (cC : Nat) (x : Int) (k1 : Int) (h_6 : Heap) : Prop :=
 let h_7 : Heap := (h_6).push (.cells #[] 3); 0 ≤ (0 : Int) ∧ (0 : Int) ≤ k1 ∧ (k1 : Int) ≤ (cC : Nat) ∧ ∃ ys : List Value, ReadL h_7 (cutA 1 cA cC (Int.toNat 0)) ys ∧ ys.length = (Int.toNat k1 - Int.toNat 0) * 1 ∧ AppS h_7 (some (Addr.mk (h_6).size 0 none)) 0 0 3 8 1 #[(.int .i64 0)] ys (Int.toNat k1 - Int.toNat 0) fun apA apN apC h_8 => let h_9 : Heap := (h_8).push (.cells #[(.int .i64 x)] 3); ∃ ys1 : List Value, ReadL h_9 (some (Addr.mk (h_8).size 0 none)) ys1 ∧ ys1.length = 1 * 1 ∧ AppS h_9 apA apN apC 3 8 1 #[(.int .i64 0)] ys1 1 fun apA1 apN1 apC1 h_10 => 0 ≤ (k1 : Int) ∧ (k1 : Int) ≤ ((cN : Nat) : Int) ∧ (((cN : Nat) : Int) : Int) ≤ (cC : Nat) ∧ ∃ ys2 : List Value, ReadL h_10 (cutA 1 cA cC (Int.toNat k1)) ys2 ∧ ys2.length = (Int.toNat ((cN : Nat) : Int) - Int.toNat k1) * 1 ∧ AppS h_10 apA1 apN1 apC1 3 8 1 #[(.int .i64 0)] ys2 (Int.toNat ((cN : Nat) : Int) - Int.toNat k1) fun apA2 apN2 apC2 h_11 => R (.tuple #[(.slice apA2 apN2 apC2), (.bool true)]) h_11
def J63_0  (P : Program) (R : Value → Heap → Prop) (cA : (Option Addr)) (cN : Nat) (cC : Nat) (x : Int) (k1 : Int) (h_3 : Heap) : Prop :=
 PIf ((k1 : Int) < ((cN : Nat) : Int))
 (0 ≤ (k1 : Int) ∧ (k1 : Int) < (cN : Nat) ∧ AtP cA fun ad1 => ∃ (t3 : Int), cellH h_3 (Addr.add ad1 (Int.toNat k1 * 1)) = some (.int .i64 t3) ∧ CallsH P 41 #[(.int .i64 t3)] h_3 fun v2 h_4 =>
 ∃ (t4 : Int), v2 = (.int .i64 t4) ∧ CallsH P 41 #[(.int .i64 x)] h_4 fun v3 h_5 =>
 ∃ (t5 : Int), v3 = (.int .i64 t5) ∧ PIf ((t4 : Int) = t5)
 (0 ≤ (k1 : Int) ∧ (k1 : Int) < (cN : Nat) ∧ AtP cA fun ad2 => ∃ (t6 : Int), cellH h_5 (Addr.add ad2 (Int.toNat k1 * 1)) = some (.int .i64 t6) ∧ PIf ((t6 : Int) = x)
 (R (.tuple #[(.slice cA cN cC), (.bool true)]) h_5)
 (R (.tuple #[(.slice cA cN cC), (.bool false)]) h_5))
 (J63_1 R cA cN cC x k1 h_5))
 (J63_1 R cA cN cC x k1 h_3)
def B63_2 (P : Program) (R : Value → Heap → Prop) (cA : (Option Addr)) (cN : Nat) (cC : Nat) (x : Int) (k : Int) (h_ : Heap) (next_ : Int → Heap → Prop) : Prop :=
 PIf ((k : Int) < ((cN : Nat) : Int))
 (0 ≤ (k : Int) ∧ (k : Int) < (cN : Nat) ∧ AtP cA fun ad => ∃ (t : Int), cellH h_ (Addr.add ad (Int.toNat k * 1)) = some (.int .i64 t) ∧ CallsH P 41 #[(.int .i64 t)] h_ fun v h_1 =>
 ∃ (t1 : Int), v = (.int .i64 t1) ∧ CallsH P 41 #[(.int .i64 x)] h_1 fun v1 h_2 =>
 ∃ (t2 : Int), v1 = (.int .i64 t2) ∧ PIf ((t1 : Int) < t2)
 (next_ ((IntKind.wrap .i64 (k + 1))) h_2)
 (J63_0 P R cA cN cC x (k) h_2))
 (J63_0 P R cA cN cC x (k) h_)
def VC63 (P : Program) (cA : Option Addr) (cN : Nat) (cC : Nat) (x : Int) (R : Value → Heap → Prop) (h : Heap) : Prop :=
 LoopT (σ := Int) (fun st h next => B63_2 P R cA cN cC x (st) h next) (0) h
theorem vc63 (P : Program) (cA : Option Addr) (cN : Nat) (cC : Nat) (x : Int) (R : Value → Heap → Prop) (h : Heap) : fnC P ret63 code63 [(.slice cA cN cC), (.int .i64 x)] h R = VC63 P cA cN cC x R h := by kernel_rfl
theorem run63 (cA : Option Addr) (cN : Nat) (cC : Nat) (x : Int) (R : Value → Heap → Prop) (h : Heap) (hv : VC63 Try.prog cA cN cC x R h) : CallsH Try.prog 63 #[(.slice cA cN cC), (.int .i64 x)] h R := calls_of_fnC (Checked.mixed Try.checked) Try.func63 comp63 (Nat.le_of_ble_eq_true rfl) (by rw [vc63]; exact hv)

/-! 64: slices.BinarySearchFunc[trestle/api.Clause,int,int] -/
def code64 : SCode := (.seq (.region false [⟨(some 6), .mv (.const (.int .i64 0)), none⟩,
  ⟨(some 7), .mv (.const (.bool false)), none⟩]) (.seq (.region false [⟨(some 12), .mv (.tmp 0), none⟩,
  ⟨(some 13), .len (.tmp 12), none⟩,
  ⟨(some 8), .mv (.tmp 13), none⟩]) (.seq (.region false [⟨(some 14), .mv (.tmp 8), none⟩,
  ⟨(some 9), .mv (.const (.int .i64 0)), none⟩,
  ⟨(some 10), .mv (.tmp 14), none⟩]) (.seq (.block 0 (.loop [(9, .int .i64), (10, .int .i64)] [15, 16, 17, 18, 19, 20, 21, 22, 23, 11, 24, 25, 26, 27, 28, 29, 30, 31, 32, 33, 9, 34, 10] (.seq (.seq (.region false [⟨(some 15), .mv (.tmp 9), none⟩,
  ⟨(some 16), .mv (.tmp 10), none⟩,
  ⟨(some 17), .icmp .lss .i64 (.tmp 15) (.tmp 16), none⟩]) (.cond (.tmp 17) .skip (.exit 0))) (.block 1 (.seq (.region false [⟨(some 18), .mv (.tmp 9), none⟩,
  ⟨(some 19), .mv (.tmp 10), none⟩,
  ⟨(some 20), .arith .add .i64 (.tmp 18) (.tmp 19), none⟩,
  ⟨(some 21), .conv .u64 (.tmp 20), none⟩,
  ⟨(some 22), .shc .shr .u64 (.tmp 21) 1, none⟩,
  ⟨(some 23), .conv .i64 (.tmp 22), none⟩,
  ⟨(some 11), .mv (.tmp 23), none⟩]) (.seq (.region false [⟨(some 24), .mv (.tmp 2), none⟩,
  ⟨(some 25), .mv (.tmp 0), none⟩,
  ⟨(some 26), .mv (.tmp 11), none⟩,
  ⟨(some 27), .idxA 1 (.tmp 25) (.tmp 26), none⟩,
  ⟨(some 28), .ld (.int .i64) (.tmp 27), none⟩,
  ⟨(some 29), .mv (.tmp 1), none⟩,
  ⟨(some 30), .callv (.tmp 24) [(.tmp 28), (.tmp 29)] (.val (.one (.int .i64))), none⟩,
  ⟨(some 31), .icmp .lss .i64 (.tmp 30) (.const (.int .i64 0)), none⟩]) (.cond (.tmp 31) (.region false [⟨(some 32), .mv (.tmp 11), none⟩,
  ⟨(some 33), .arith .add .i64 (.tmp 32) (.const (.int .i64 1)), none⟩,
  ⟨(some 9), .mv (.tmp 33), none⟩]) (.region false [⟨(some 34), .mv (.tmp 11), none⟩,
  ⟨(some 10), .mv (.tmp 34), none⟩])))))))) (.seq (.region false [⟨(some 35), .mv (.tmp 9), none⟩,
  ⟨(some 36), .mv (.tmp 9), none⟩,
  ⟨(some 37), .mv (.tmp 8), none⟩,
  ⟨(some 38), .icmp .lss .i64 (.tmp 36) (.tmp 37), none⟩,
  ⟨(some 39), .mv (.tmp 38), none⟩,
  ⟨(some 40), .mv (.tmp 2), (some (39, true))⟩,
  ⟨(some 41), .mv (.tmp 0), (some (39, true))⟩,
  ⟨(some 42), .mv (.tmp 9), (some (39, true))⟩,
  ⟨(some 43), .idxA 1 (.tmp 41) (.tmp 42), (some (39, true))⟩,
  ⟨(some 44), .ld (.int .i64) (.tmp 43), (some (39, true))⟩,
  ⟨(some 45), .mv (.tmp 1), (some (39, true))⟩,
  ⟨(some 46), .callv (.tmp 40) [(.tmp 44), (.tmp 45)] (.val (.one (.int .i64))), (some (39, true))⟩,
  ⟨(some 47), .icmp .eql .i64 (.tmp 46) (.const (.int .i64 0)), (some (39, true))⟩,
  ⟨(some 48), .pick (.tmp 39) (.tmp 47) (.const (.bool false)), none⟩,
  ⟨(some 6), .mv (.tmp 35), none⟩,
  ⟨(some 7), .mv (.tmp 48), none⟩]) .ret)))))
def loops64 : List (List (Nat × Shp)) := [[(9, .int .i64), (10, .int .i64)]]
def ret64 : List RV := [.tmp 6, .tmp 7]
theorem comp64 : compF Try.prog Try.f64 loops64 = some (49, ret64, code64) := by kernel_rfl
def J64_1  (P : Program) (xA : (Option Addr)) (xN : Nat) (target : Int) (cmp : Value) (i : Int) (j : Int) (next_ : (Int × Int → Heap → Prop)) (h_1 : Heap) : Prop :=
 0 ≤ ((IntKind.wrap .i64 ((IntKind.wrap .u64 (IntKind.wrap .i64 (i + j))) / ((2 ^ 1 : Nat) : Int))) : Int) ∧ ((IntKind.wrap .i64 ((IntKind.wrap .u64 (IntKind.wrap .i64 (i + j))) / ((2 ^ 1 : Nat) : Int))) : Int) < (xN : Nat) ∧ AtP xA fun ad => ∃ (t : Int), cellH h_1 (Addr.add ad (Int.toNat (IntKind.wrap .i64 ((IntKind.wrap .u64 (IntKind.wrap .i64 (i + j))) / ((2 ^ 1 : Nat) : Int))) * 1)) = some (.int .i64 t) ∧ CallV P cmp [(.int .i64 t), (.int .i64 target)] h_1 fun v h_2 =>
 ∃ (t1 : Int), v = (.int .i64 t1) ∧ PIf ((t1 : Int) < 0)
 (next_ ((IntKind.wrap .i64 ((IntKind.wrap .i64 ((IntKind.wrap .u64 (IntKind.wrap .i64 (i + j))) / ((2 ^ 1 : Nat) : Int))) + 1)), j) h_2)
 (next_ (i, (IntKind.wrap .i64 ((IntKind.wrap .u64 (IntKind.wrap .i64 (i + j))) / ((2 ^ 1 : Nat) : Int)))) h_2)
def J64_0  (P : Program) (R : Value → Heap → Prop) (xA : (Option Addr)) (xN : Nat) (target : Int) (cmp : Value) (i1 : Int) (h_3 : Heap) : Prop :=
 PIf ((i1 : Int) < ((xN : Nat) : Int))
 (0 ≤ (i1 : Int) ∧ (i1 : Int) < (xN : Nat) ∧ AtP xA fun ad1 => ∃ (t2 : Int), cellH h_3 (Addr.add ad1 (Int.toNat i1 * 1)) = some (.int .i64 t2) ∧ CallV P cmp [(.int .i64 t2), (.int .i64 target)] h_3 fun v1 h_4 =>
 ∃ (t3 : Int), v1 = (.int .i64 t3) ∧ PIf ((t3 : Int) = 0)
 (R (.tuple #[(.int .i64 i1), (.bool true)]) h_4)
 (R (.tuple #[(.int .i64 i1), (.bool false)]) h_4))
 (R (.tuple #[(.int .i64 i1), (.bool false)]) h_3)
def B64_2 (P : Program) (R : Value → Heap → Prop) (xA : (Option Addr)) (xN : Nat) (target : Int) (cmp : Value) (i : Int) (j : Int) (h_ : Heap) (next_ : Int × Int → Heap → Prop) : Prop :=
 PIf ((i : Int) < j)
 (J64_1 P xA xN target cmp i j next_ h_)
 (J64_0 P R xA xN target cmp (i) h_)
def VC64 (P : Program) (xA : Option Addr) (xN : Nat) (xC : Nat) (target : Int) (cmp : Value) (R : Value → Heap → Prop) (h : Heap) : Prop :=
 LoopT (σ := Int × Int) (fun st h next => B64_2 P R xA xN target cmp (st.1) (st.2) h next) (0, ((xN : Nat) : Int)) h
theorem vc64 (P : Program) (xA : Option Addr) (xN : Nat) (xC : Nat) (target : Int) (cmp : Value) (R : Value → Heap → Prop) (h : Heap) : fnC P ret64 code64 [(.slice xA xN xC), (.int .i64 target), cmp] h R = VC64 P xA xN xC target cmp R h := by kernel_rfl
theorem run64 (xA : Option Addr) (xN : Nat) (xC : Nat) (target : Int) (cmp : Value) (R : Value → Heap → Prop) (h : Heap) (hv : VC64 Try.prog xA xN xC target cmp R h) : CallsH Try.prog 64 #[(.slice xA xN xC), (.int .i64 target), cmp] h R := calls_of_fnC (Checked.mixed Try.checked) Try.func64 comp64 (Nat.le_of_ble_eq_true rfl) (by rw [vc64]; exact hv)

/-! 65: slices.Clone[trestle/api.Clause,int] -/
def code65 : SCode := (.seq (.region false [⟨(some 2), .mv (.const (.slice none 0 0)), none⟩]) (.seq (.seq (.region false [⟨(some 3), .mv (.tmp 0), none⟩,
  ⟨(some 4), .isnil .sl false (.tmp 3), none⟩]) (.cond (.tmp 4) (.seq (.region false [⟨(some 2), .mv (.const (.slice none 0 0)), none⟩]) .ret) .skip)) (.seq (.region false [⟨(some 5), .lit 3 0 #[(.int .i64 0)] [], none⟩,
  ⟨(some 6), .mv (.tmp 0), none⟩,
  ⟨(some 7), .app 3 8 1 #[(.int .i64 0)] (.tmp 5) (.tmp 6), none⟩,
  ⟨(some 2), .mv (.tmp 7), none⟩]) .ret)))
def loops65 : List (List (Nat × Shp)) := []
def ret65 : List RV := [.tmp 2]
theorem comp65 : compF Try.prog Try.f65 loops65 = some (8, ret65, code65) := by kernel_rfl
def VC65 (P : Program) (sA : Option Addr) (sN : Nat) (sC : Nat) (R : Value → Heap → Prop) (h : Heap) : Prop :=
 PIf ((sA : Option Addr) = none)
 (R (.slice none 0 0) h)
 (let h_ : Heap := (h).push (.cells #[] 3); ∃ ys : List Value, ReadL h_ sA ys ∧ ys.length = sN * 1 ∧ AppS h_ (some (Addr.mk (h).size 0 none)) 0 0 3 8 1 #[(.int .i64 0)] ys sN fun apA apN apC h_1 => R (.slice apA apN apC) h_1)
theorem vc65 (P : Program) (sA : Option Addr) (sN : Nat) (sC : Nat) (R : Value → Heap → Prop) (h : Heap) : fnC P ret65 code65 [(.slice sA sN sC)] h R = VC65 P sA sN sC R h := by kernel_rfl
theorem run65 (sA : Option Addr) (sN : Nat) (sC : Nat) (R : Value → Heap → Prop) (h : Heap) (hv : VC65 Try.prog sA sN sC R h) : CallsH Try.prog 65 #[(.slice sA sN sC)] h R := calls_of_fnC (Checked.mixed Try.checked) Try.func65 comp65 (Nat.le_of_ble_eq_true rfl) (by rw [vc65]; exact hv)

/-! 66: slices.Grow[trestle/api.Clause,int] -/
def code66 : SCode := (.seq (.region false [⟨(some 4), .mv (.const (.slice none 0 0)), none⟩]) (.seq (.seq (.region false [⟨(some 5), .mv (.tmp 1), none⟩,
  ⟨(some 6), .icmp .lss .i64 (.tmp 5) (.const (.int .i64 0)), none⟩]) (.cond (.tmp 6) (.region false [⟨(some 7), .ifc 9 (.const (.string (ByteArray.mk #[99, 97, 110, 110, 111, 116, 32, 98, 101, 32, 110, 101, 103, 97, 116, 105, 118, 101]))), none⟩,
  ⟨none, .halt, none⟩]) .skip)) (.seq (.seq (.region false [⟨(some 8), .mv (.tmp 1), none⟩,
  ⟨(some 9), .mv (.tmp 0), none⟩,
  ⟨(some 10), .cap (.tmp 9), none⟩,
  ⟨(some 11), .mv (.tmp 0), none⟩,
  ⟨(some 12), .len (.tmp 11), none⟩,
  ⟨(some 13), .arith .sub .i64 (.tmp 10) (.tmp 12), none⟩,
  ⟨(some 14), .arith .sub .i64 (.tmp 8) (.tmp 13), none⟩,
  ⟨(some 1), .mv (.tmp 14), none⟩]) (.seq (.region false [⟨(some 15), .mv (.tmp 1), none⟩,
  ⟨(some 16), .icmp .gtr .i64 (.tmp 15) (.const (.int .i64 0)), none⟩]) (.cond (.tmp 16) (.region false [⟨(some 17), .mv (.tmp 0), none⟩,
  ⟨(some 18), .mv (.tmp 0), none⟩,
  ⟨(some 19), .cap (.tmp 18), none⟩,
  ⟨(some 20), .slc 1 (.tmp 17) none (some (.tmp 19)), none⟩,
  ⟨(some 21), .mv (.tmp 1), none⟩,
  ⟨(some 22), .appZ 3 8 1 #[(.int .i64 0)] (.tmp 20) (.tmp 21), none⟩,
  ⟨(some 23), .mv (.tmp 0), none⟩,
  ⟨(some 24), .len (.tmp 23), none⟩,
  ⟨(some 25), .slc 1 (.tmp 22) none (some (.tmp 24)), none⟩,
  ⟨(some 0), .mv (.tmp 25), none⟩]) .skip))) (.seq (.region false [⟨(some 26), .mv (.tmp 0), none⟩,
  ⟨(some 4), .mv (.tmp 26), none⟩]) .ret))))
def loops66 : List (List (Nat × Shp)) := []
def ret66 : List RV := [.tmp 4]
theorem comp66 : compF Try.prog Try.f66 loops66 = some (27, ret66, code66) := by kernel_rfl
def J66_0  (R : Value → Heap → Prop) (sA : (Option Addr)) (sN : Nat) (sC : Nat) (n : Int) (h_ : Heap) : Prop :=
 PIf ((0 : Int) < (IntKind.wrap .i64 (n - (IntKind.wrap .i64 (((sC : Nat) : Int) - ((sN : Nat) : Int))))))
 (0 ≤ (0 : Int) ∧ (0 : Int) ≤ ((sC : Nat) : Int) ∧ (((sC : Nat) : Int) : Int) ≤ (sC : Nat) ∧ 0 ≤ ((IntKind.wrap .i64 (n - (IntKind.wrap .i64 (((sC : Nat) : Int) - ((sN : Nat) : Int))))) : Int) ∧ ((IntKind.wrap .i64 (n - (IntKind.wrap .i64 (((sC : Nat) : Int) - ((sN : Nat) : Int))))) : Int) * 8 ≤ 140737488355328 ∧ AppS h_ (cutA 1 sA sC (Int.toNat 0)) (Int.toNat ((sC : Nat) : Int) - Int.toNat 0) (sC - Int.toNat 0) 3 8 1 #[(.int .i64 0)] (zeroRow #[(.int .i64 0)] (Int.toNat (IntKind.wrap .i64 (n - (IntKind.wrap .i64 (((sC : Nat) : Int) - ((sN : Nat) : Int))))) * 1)) (Int.toNat (IntKind.wrap .i64 (n - (IntKind.wrap .i64 (((sC : Nat) : Int) - ((sN : Nat) : Int)))))) fun apA apN apC h_1 => 0 ≤ (0 : Int) ∧ (0 : Int) ≤ ((sN : Nat) : Int) ∧ (((sN : Nat) : Int) : Int) ≤ (apC : Nat) ∧ R (.slice (cutA 1 apA apC (Int.toNat 0)) (Int.toNat ((sN : Nat) : Int) - Int.toNat 0) (apC - Int.toNat 0)) h_1)
 (R (.slice sA sN sC) h_)
def VC66 (P : Program) (sA : Option Addr) (sN : Nat) (sC : Nat) (n : Int) (R : Value → Heap → Prop) (h : Heap) : Prop :=
 PIf ((n : Int) < 0)
 (False)
 (J66_0 R sA sN sC n h)
theorem vc66 (P : Program) (sA : Option Addr) (sN : Nat) (sC : Nat) (n : Int) (R : Value → Heap → Prop) (h : Heap) : fnC P ret66 code66 [(.slice sA sN sC), (.int .i64 n)] h R = VC66 P sA sN sC n R h := by kernel_rfl
theorem run66 (sA : Option Addr) (sN : Nat) (sC : Nat) (n : Int) (R : Value → Heap → Prop) (h : Heap) (hv : VC66 Try.prog sA sN sC n R h) : CallsH Try.prog 66 #[(.slice sA sN sC), (.int .i64 n)] h R := calls_of_fnC (Checked.mixed Try.checked) Try.func66 comp66 (Nat.le_of_ble_eq_true rfl) (by rw [vc66]; exact hv)
end Go.Proofs.Ytbfejkmnkkpkhaa
