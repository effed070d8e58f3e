/- Words and facts that the claim's proof leans on. No condition. -/
import Derived.Test.YtbgjbokcngdnfaaDoorHxL
import Derived.Test.YtbgjbokcngdnfaaDoorChecked
set_option maxRecDepth 100000
set_option linter.unusedVariables false
namespace Go.Proofs.YtbgjbokcngdnfaaDoor
open Go.Hx

/-! 13: trestle/words.Get -/
def code13 : SCode := (.seq (.region false [⟨(some 4), .mv (.const (.int .i64 0)), none⟩,
  ⟨(some 5), .mv (.const (.int .i64 0)), none⟩,
  ⟨(some 6), .alloc 25 (.agg #[(.int .i64 0), (.int .i64 0)]), none⟩]) (.seq (.seq (.region false [⟨(some 10), .mv (.tmp 0), none⟩,
  ⟨(some 11), .mv (.tmp 1), none⟩,
  ⟨(some 12), .call 44 [(.tmp 10), (.tmp 11)] (.val (.agg [.int .i64, .int .i64])), none⟩,
  ⟨(some 7), .alloc 25 (.agg #[(.int .i64 0), (.int .i64 0)]), none⟩,
  ⟨none, .st 2 (.tmp 7) (.tmp 12), none⟩]) (.seq (.region false [⟨(some 13), .ldn [.int .i64, .int .i64] (.tmp 7), none⟩,
  ⟨(some 14), .mkAgg #[(.int .i64 0), (.int .i64 0)] [], none⟩,
  ⟨(some 15), .eqagg true [.int .i64, .int .i64] (.tmp 13) (.tmp 14), none⟩]) (.cond (.tmp 15) (.seq (.region false [⟨(some 16), .ldn [.int .i64, .int .i64] (.tmp 7), none⟩,
  ⟨(some 4), .mv (.const (.int .i64 0)), none⟩,
  ⟨(some 5), .mv (.const (.int .i64 0)), none⟩,
  ⟨none, .st 2 (.tmp 6) (.tmp 16), none⟩]) .ret) .skip))) (.seq (.region false [⟨(some 8), .mv (.const (.int .u64 0)), none⟩]) (.seq (.seq (.region false [⟨(some 17), .mv (.tmp 1), none⟩,
  ⟨(some 9), .mv (.tmp 17), none⟩]) (.block 0 (.loop [(8, .int .u64), (9, .int .i64)] [18, 19, 20, 21, 22, 23, 24, 25, 26, 27, 30, 31, 32, 33, 34, 35, 36, 37, 38, 39, 40, 41, 8, 42, 43, 44, 45, 46, 47, 48, 49, 50, 51, 52, 53, 54, 55, 56, 57, 58, 59, 60, 61, 62, 63, 4, 5, 28, 29, 9] (.seq (.seq (.region false [⟨(some 18), .mv (.tmp 9), none⟩,
  ⟨(some 19), .mv (.tmp 0), none⟩,
  ⟨(some 20), .lenS (.tmp 19), none⟩,
  ⟨(some 21), .icmp .lss .i64 (.tmp 18) (.tmp 20), none⟩,
  ⟨(some 22), .mv (.tmp 21), none⟩,
  ⟨(some 23), .mv (.tmp 9), (some (22, true))⟩,
  ⟨(some 24), .mv (.tmp 1), (some (22, true))⟩,
  ⟨(some 25), .arith .sub .i64 (.tmp 23) (.tmp 24), (some (22, true))⟩,
  ⟨(some 26), .icmp .lss .i64 (.tmp 25) (.const (.int .i64 5)), (some (22, true))⟩,
  ⟨(some 27), .pick (.tmp 22) (.tmp 26) (.const (.bool false)), none⟩]) (.cond (.tmp 27) .skip (.exit 0))) (.seq (.block 1 (.seq (.region false [⟨(some 30), .mv (.tmp 8), none⟩,
  ⟨(some 31), .mv (.tmp 0), none⟩,
  ⟨(some 32), .mv (.tmp 9), none⟩,
  ⟨(some 33), .idxS (.tmp 31) (.tmp 32), none⟩,
  ⟨(some 34), .bits .and .u8 (.tmp 33) (.const (.int .u8 127)), none⟩,
  ⟨(some 35), .conv .u64 (.tmp 34), none⟩,
  ⟨(some 36), .mv (.tmp 9), none⟩,
  ⟨(some 37), .mv (.tmp 1), none⟩,
  ⟨(some 38), .arith .sub .i64 (.tmp 36) (.tmp 37), none⟩,
  ⟨(some 39), .arith .mul .i64 (.const (.int .i64 7)) (.tmp 38), none⟩,
  ⟨(some 40), .shv .shl .u64 (.tmp 35) (.tmp 39), none⟩,
  ⟨(some 41), .bits .or .u64 (.tmp 30) (.tmp 40), none⟩,
  ⟨(some 8), .mv (.tmp 41), none⟩]) (.seq (.seq (.region false [⟨(some 42), .mv (.tmp 0), none⟩,
  ⟨(some 43), .mv (.tmp 9), none⟩,
  ⟨(some 44), .idxS (.tmp 42) (.tmp 43), none⟩,
  ⟨(some 45), .icmp .gtr .u8 (.tmp 44) (.const (.int .u8 127)), none⟩]) (.cond (.tmp 45) (.exit 1) .skip)) (.seq (.seq (.region false [⟨(some 46), .mv (.tmp 0), none⟩,
  ⟨(some 47), .mv (.tmp 9), none⟩,
  ⟨(some 48), .idxS (.tmp 46) (.tmp 47), none⟩,
  ⟨(some 49), .icmp .eql .u8 (.tmp 48) (.const (.int .u8 0)), none⟩,
  ⟨(some 50), .mv (.tmp 49), none⟩,
  ⟨(some 51), .mv (.tmp 9), (some (50, true))⟩,
  ⟨(some 52), .mv (.tmp 1), (some (50, true))⟩,
  ⟨(some 53), .icmp .gtr .i64 (.tmp 51) (.tmp 52), (some (50, true))⟩,
  ⟨(some 54), .pick (.tmp 50) (.tmp 53) (.const (.bool false)), none⟩,
  ⟨(some 55), .mv (.tmp 54), none⟩,
  ⟨(some 56), .mv (.tmp 8), (some (55, false))⟩,
  ⟨(some 57), .icmp .gtr .u64 (.tmp 56) (.const (.int .u64 2147483647)), (some (55, false))⟩,
  ⟨(some 58), .pick (.tmp 55) (.const (.bool true)) (.tmp 57), none⟩]) (.cond (.tmp 58) (.exit 0) .skip)) (.seq (.region false [⟨(some 59), .mv (.tmp 8), none⟩,
  ⟨(some 60), .conv .i64 (.tmp 59), none⟩,
  ⟨(some 61), .mv (.tmp 9), none⟩,
  ⟨(some 62), .arith .add .i64 (.tmp 61) (.const (.int .i64 1)), none⟩,
  ⟨(some 63), .mkAgg #[(.int .i64 0), (.int .i64 0)] [], none⟩,
  ⟨(some 4), .mv (.tmp 60), none⟩,
  ⟨(some 5), .mv (.tmp 62), none⟩,
  ⟨none, .st 2 (.tmp 6) (.tmp 63), none⟩]) .ret))))) (.region false [⟨(some 28), .mv (.tmp 9), none⟩,
  ⟨(some 29), .arith .add .i64 (.tmp 28) (.const (.int .i64 1)), none⟩,
  ⟨(some 9), .mv (.tmp 29), none⟩])))))) (.seq (.region false [⟨(some 64), .mv (.tmp 1), none⟩,
  ⟨(some 65), .mkAgg #[(.int .i64 0), (.int .i64 0)] [(0, 1, (.tmp 64)), (1, 1, (.const (.int .i64 20)))], none⟩,
  ⟨(some 4), .mv (.const (.int .i64 0)), none⟩,
  ⟨(some 5), .mv (.const (.int .i64 0)), none⟩,
  ⟨none, .st 2 (.tmp 6) (.tmp 65), none⟩]) .ret)))))
def loops13 : List (List (Nat × Shp)) := [[(8, .int .u64), (9, .int .i64)]]
def ret13 : List RV := [.tmp 4, .tmp 5, .cellN 6 [.int .i64, .int .i64]]
theorem comp13 : compF Tryd.prog Tryd.f13 loops13 = some (66, ret13, code13) := by kernel_rfl
def J13_1  (R : Value → Heap → Prop) (h : Heap) (at_ : Int) (h_8 : Heap) : Prop :=
 StoreH h_8 (Addr.mk (h).size 0 none) [(.int .i64 at_), (.int .i64 20)] fun h_9 => ∃ (t4 : Int), ∃ (t5 : Int), cellsH h_9 (Addr.mk (h).size 0 none) 0 [(.int .i64 t4), (.int .i64 t5)] ∧ R (.tuple #[(.int .i64 0), (.int .i64 0), (.agg #[(.int .i64 t4), (.int .i64 t5)])]) h_9
def J13_4  (R : Value → Heap → Prop) (h : Heap) (s : ByteArray) (at_ : Int) (n : Int) (i : Int) (h_10 : Heap) : Prop :=
 StoreH h_10 (Addr.mk (h).size 0 none) [(.int .i64 0), (.int .i64 0)] fun h_11 => ∃ (t6 : Int), ∃ (t7 : Int), cellsH h_11 (Addr.mk (h).size 0 none) 0 [(.int .i64 t6), (.int .i64 t7)] ∧ R (.tuple #[(.int .i64 (IntKind.wrap .i64 (bop .or .u64 n (IntKind.wrap .u64 ((IntKind.wrap .u64 (bop .and .u8 (byteAt s i) 127)) * 2 ^ min (Int.toNat (IntKind.wrap .i64 (7 * (IntKind.wrap .i64 (i - at_))))) (IntKind.bits .u64)))))), (.int .i64 (IntKind.wrap .i64 (i + 1))), (.agg #[(.int .i64 t6), (.int .i64 t7)])]) h_11
def J13_3  (R : Value → Heap → Prop) (h : Heap) (s : ByteArray) (at_ : Int) (n : Int) (i : Int) (h_7 : Heap) : Prop :=
 0 ≤ (i : Int) ∧ (i : Int) < (s.size : Nat) ∧ PIf (((byteAt s i) : Int) = 0)
 (PIf ((at_ : Int) < i)
 (J13_1 R h at_ h_7)
 (PIf ((2147483647 : Int) < (bop .or .u64 n (IntKind.wrap .u64 ((IntKind.wrap .u64 (bop .and .u8 (byteAt s i) 127)) * 2 ^ min (Int.toNat (IntKind.wrap .i64 (7 * (IntKind.wrap .i64 (i - at_))))) (IntKind.bits .u64)))))
 (J13_1 R h at_ h_7)
 (J13_4 R h s at_ n i h_7)))
 (PIf ((2147483647 : Int) < (bop .or .u64 n (IntKind.wrap .u64 ((IntKind.wrap .u64 (bop .and .u8 (byteAt s i) 127)) * 2 ^ min (Int.toNat (IntKind.wrap .i64 (7 * (IntKind.wrap .i64 (i - at_))))) (IntKind.bits .u64)))))
 (J13_1 R h at_ h_7)
 (J13_4 R h s at_ n i h_7))
def J13_2  (R : Value → Heap → Prop) (h : Heap) (s : ByteArray) (at_ : Int) (n : Int) (i : Int) (next_ : (Int × Int → Heap → Prop)) (h_6 : Heap) : Prop :=
 0 ≤ (i : Int) ∧ (i : Int) < (s.size : Nat) ∧ 0 ≤ ((IntKind.wrap .i64 (7 * (IntKind.wrap .i64 (i - at_)))) : Int) ∧ 0 ≤ (i : Int) ∧ (i : Int) < (s.size : Nat) ∧ PIf ((127 : Int) < (byteAt s i))
 (next_ ((bop .or .u64 n (IntKind.wrap .u64 ((IntKind.wrap .u64 (bop .and .u8 (byteAt s i) 127)) * 2 ^ min (Int.toNat (IntKind.wrap .i64 (7 * (IntKind.wrap .i64 (i - at_))))) (IntKind.bits .u64)))), (IntKind.wrap .i64 (i + 1))) h_6)
 (J13_3 R h s at_ n i h_6)
def B13_5 (R : Value → Heap → Prop) (h : Heap) (s : ByteArray) (at_ : Int) (n : Int) (i : Int) (h_5 : Heap) (next_ : Int × Int → Heap → Prop) : Prop :=
 PIf ((i : Int) < ((s.size : Nat) : Int))
 (PIf (((IntKind.wrap .i64 (i - at_)) : Int) < 5)
 (J13_2 R h s at_ n i next_ h_5)
 (J13_1 R h at_ h_5))
 (J13_1 R h at_ h_5)
def J13_0  (R : Value → Heap → Prop) (h : Heap) (s : ByteArray) (at_ : Int) (h_4 : Heap) : Prop :=
 LoopT (σ := Int × Int) (fun st_ h_st nx_st => B13_5 R h s at_ (st_.1) (st_.2) h_st nx_st) (0, at_) h_4
def VC13 (P : Program) (s : ByteArray) (at_ : Int) (R : Value → Heap → Prop) (h : Heap) : Prop :=
 let h_ : Heap := (h).push (.cells #[(.int .i64 0), (.int .i64 0)] 25); CallsH P 44 #[(.string s), (.int .i64 at_)] h_ fun v h_1 =>
 ∃ (t : Int), ∃ (t1 : Int), v = (.agg #[(.int .i64 t), (.int .i64 t1)]) ∧ let h_2 : Heap := (h_1).push (.cells #[(.int .i64 0), (.int .i64 0)] 25); StoreH h_2 (Addr.mk (h_1).size 0 none) [(.int .i64 t), (.int .i64 t1)] fun h_3 => ∃ (t2 : Int), ∃ (t3 : Int), cellsH h_3 (Addr.mk (h_1).size 0 none) 0 [(.int .i64 t2), (.int .i64 t3)] ∧ PIf ((#[(.int .i64 t2), (.int .i64 t3)] : Array Value) = #[(.int .i64 0), (.int .i64 0)])
 (J13_0 R h s at_ h_3)
 (∃ (t8 : Int), ∃ (t9 : Int), cellsH h_3 (Addr.mk (h_1).size 0 none) 0 [(.int .i64 t8), (.int .i64 t9)] ∧ StoreH h_3 (Addr.mk (h).size 0 none) [(.int .i64 t8), (.int .i64 t9)] fun h_12 => ∃ (t10 : Int), ∃ (t11 : Int), cellsH h_12 (Addr.mk (h).size 0 none) 0 [(.int .i64 t10), (.int .i64 t11)] ∧ R (.tuple #[(.int .i64 0), (.int .i64 0), (.agg #[(.int .i64 t10), (.int .i64 t11)])]) h_12)
theorem vc13 (P : Program) (s : ByteArray) (at_ : Int) (R : Value → Heap → Prop) (h : Heap) : fnC P ret13 code13 [(.string s), (.int .i64 at_)] h R = VC13 P s at_ R h := by kernel_rfl
theorem run13 (s : ByteArray) (at_ : Int) (R : Value → Heap → Prop) (h : Heap) (hv : VC13 Tryd.prog s at_ R h) : CallsH Tryd.prog 13 #[(.string s), (.int .i64 at_)] h R := calls_of_fnC (Checked.mixed Tryd.checked) Tryd.func13 comp13 (Nat.le_of_ble_eq_true rfl) (by rw [vc13]; exact hv)

/-! 14: trestle/words.Put -/
def code14 : SCode := (.seq (.region false [⟨(some 2), .mv (.const (.string (ByteArray.mk #[]))), none⟩,
  ⟨(some 3), .mv (.const (.int .i64 0)), none⟩]) (.seq (.seq (.region false [⟨(some 6), .mv (.tmp 0), none⟩,
  ⟨(some 7), .icmp .lss .i64 (.tmp 6) (.const (.int .i64 0)), none⟩,
  ⟨(some 8), .mv (.tmp 7), none⟩,
  ⟨(some 9), .mv (.tmp 0), (some (8, false))⟩,
  ⟨(some 10), .icmp .gtr .i64 (.tmp 9) (.const (.int .i64 2147483647)), (some (8, false))⟩,
  ⟨(some 11), .pick (.tmp 8) (.const (.bool true)) (.tmp 10), none⟩]) (.cond (.tmp 11) (.seq (.region false [⟨(some 2), .mv (.const (.string (ByteArray.mk #[]))), none⟩,
  ⟨(some 3), .mv (.const (.int .i64 1)), none⟩]) .ret) .skip)) (.seq (.region false [⟨(some 13), .mv (.tmp 0), none⟩,
  ⟨(some 14), .conv .u32 (.tmp 13), none⟩,
  ⟨(some 15), .call 45 [(.tmp 14)] (.tup [.agg [.int .u8, .int .u8, .int .u8, .int .u8, .int .u8, .int .u8, .int .u8, .int .u8, .int .u8, .int .u8], .one (.int .i64)]), none⟩,
  ⟨(some 12), .mv (.tmp 15), none⟩,
  ⟨(some 16), .extr (.tmp 12) 0, none⟩,
  ⟨(some 17), .extr (.tmp 12) 1, none⟩,
  ⟨(some 4), .alloc 56 (.agg #[(.int .u8 0), (.int .u8 0), (.int .u8 0), (.int .u8 0), (.int .u8 0), (.int .u8 0), (.int .u8 0), (.int .u8 0), (.int .u8 0), (.int .u8 0)]), none⟩,
  ⟨none, .st 10 (.tmp 4) (.tmp 16), none⟩,
  ⟨(some 5), .mv (.tmp 17), none⟩]) (.seq (.region false [⟨(some 18), .mv (.tmp 5), none⟩,
  ⟨(some 19), .slcA 10 1 (.tmp 4) none (some (.tmp 18)), none⟩,
  ⟨(some 20), .toStr (.tmp 19), none⟩,
  ⟨(some 2), .mv (.tmp 20), none⟩,
  ⟨(some 3), .mv (.const (.int .i64 0)), none⟩]) .ret))))
def loops14 : List (List (Nat × Shp)) := []
def ret14 : List RV := [.tmp 2, .tmp 3]
theorem comp14 : compF Tryd.prog Tryd.f14 loops14 = some (21, ret14, code14) := by kernel_rfl
def J14_0  (P : Program) (R : Value → Heap → Prop) (n : Int) (h_ : Heap) : Prop :=
 CallsH P 45 #[(.int .u32 (IntKind.wrap .u32 n))] h_ fun v h_1 =>
 ∃ (t : Int), ∃ (t1 : Int), ∃ (t2 : Int), ∃ (t3 : Int), ∃ (t4 : Int), ∃ (t5 : Int), ∃ (t6 : Int), ∃ (t7 : Int), ∃ (t8 : Int), ∃ (t9 : Int), ∃ (t10 : Int), v = (.tuple #[(.agg #[(.int .u8 t), (.int .u8 t1), (.int .u8 t2), (.int .u8 t3), (.int .u8 t4), (.int .u8 t5), (.int .u8 t6), (.int .u8 t7), (.int .u8 t8), (.int .u8 t9)]), (.int .i64 t10)]) ∧ let h_2 : Heap := (h_1).push (.cells #[(.int .u8 0), (.int .u8 0), (.int .u8 0), (.int .u8 0), (.int .u8 0), (.int .u8 0), (.int .u8 0), (.int .u8 0), (.int .u8 0), (.int .u8 0)] 56); StoreH h_2 (Addr.mk (h_1).size 0 none) [(.int .u8 t), (.int .u8 t1), (.int .u8 t2), (.int .u8 t3), (.int .u8 t4), (.int .u8 t5), (.int .u8 t6), (.int .u8 t7), (.int .u8 t8), (.int .u8 t9)] fun h_3 => 0 ≤ (0 : Int) ∧ (0 : Int) ≤ t10 ∧ (t10 : Int) ≤ (10 : Nat) ∧ ∃ b : ByteArray, b.size = (Int.toNat t10 - Int.toNat 0) ∧ ReadL h_3 (some (cutR 1 (Addr.mk (h_1).size 0 none) 10 (Int.toNat 0))) (bytesV b) ∧ R (.tuple #[(.string b), (.int .i64 0)]) h_3
def VC14 (P : Program) (n : Int) (R : Value → Heap → Prop) (h : Heap) : Prop :=
 PIf ((n : Int) < 0)
 (R (.tuple #[(.string (ByteArray.mk #[])), (.int .i64 1)]) h)
 (PIf ((2147483647 : Int) < n)
 (R (.tuple #[(.string (ByteArray.mk #[])), (.int .i64 1)]) h)
 (J14_0 P R n h))
theorem vc14 (P : Program) (n : Int) (R : Value → Heap → Prop) (h : Heap) : fnC P ret14 code14 [(.int .i64 n)] h R = VC14 P n R h := by kernel_rfl
theorem run14 (n : Int) (R : Value → Heap → Prop) (h : Heap) (hv : VC14 Tryd.prog n R h) : CallsH Tryd.prog 14 #[(.int .i64 n)] h R := calls_of_fnC (Checked.mixed Tryd.checked) Tryd.func14 comp14 (Nat.le_of_ble_eq_true rfl) (by rw [vc14]; exact hv)

/-! 15: trestle/words.Meet -/
def code15 : SCode := (.seq (.region false [⟨(some 4), .mv (.const (.slice none 0 0)), none⟩,
  ⟨(some 5), .mv (.const (.int .i64 0)), none⟩]) (.seq (.region false [⟨(some 6), .mv (.tmp 0), none⟩,
  ⟨(some 7), .mv (.tmp 1), none⟩,
  ⟨(some 8), .call 46 [(.tmp 6), (.tmp 7), (.func 47)] (.tup [.one (.slice), .one (.int .i64)]), none⟩,
  ⟨(some 9), .extr (.tmp 8) 0, none⟩,
  ⟨(some 10), .extr (.tmp 8) 1, none⟩,
  ⟨(some 4), .mv (.tmp 9), none⟩,
  ⟨(some 5), .mv (.tmp 10), none⟩]) .ret))
def loops15 : List (List (Nat × Shp)) := []
def ret15 : List RV := [.tmp 4, .tmp 5]
theorem comp15 : compF Tryd.prog Tryd.f15 loops15 = some (11, ret15, code15) := by kernel_rfl
def VC15 (P : Program) (aA : Option Addr) (aN : Nat) (aC : Nat) (bA : Option Addr) (bN : Nat) (bC : Nat) (R : Value → Heap → Prop) (h : Heap) : Prop :=
 CallsH P 46 #[(.slice aA aN aC), (.slice bA bN bC), (.func (.func 47) #[] #[])] h fun v h_ =>
 ∃ (A : Option Addr), ∃ (N : Nat), ∃ (C : Nat), ∃ (t : Int), v = (.tuple #[(.slice A N C), (.int .i64 t)]) ∧ R (.tuple #[(.slice A N C), (.int .i64 t)]) h_
theorem vc15 (P : Program) (aA : Option Addr) (aN : Nat) (aC : Nat) (bA : Option Addr) (bN : Nat) (bC : Nat) (R : Value → Heap → Prop) (h : Heap) : fnC P ret15 code15 [(.slice aA aN aC), (.slice bA bN bC)] h R = VC15 P aA aN aC bA bN bC R h := by kernel_rfl
theorem run15 (aA : Option Addr) (aN : Nat) (aC : Nat) (bA : Option Addr) (bN : Nat) (bC : Nat) (R : Value → Heap → Prop) (h : Heap) (hv : VC15 Tryd.prog aA aN aC bA bN bC R h) : CallsH Tryd.prog 15 #[(.slice aA aN aC), (.slice bA bN bC)] h R := calls_of_fnC (Checked.mixed Tryd.checked) Tryd.func15 comp15 (Nat.le_of_ble_eq_true rfl) (by rw [vc15]; exact hv)

/-! 16: trestle/trestleref02.Meet -/
def code16 : SCode := (.seq (.region false [⟨(some 4), .mv (.const (.slice none 0 0)), none⟩,
  ⟨(some 5), .mv (.const (.int .i64 0)), none⟩]) (.seq (.region false [⟨(some 6), .mv (.tmp 0), none⟩,
  ⟨(some 7), .mv (.tmp 1), none⟩,
  ⟨(some 8), .call 48 [(.tmp 6), (.tmp 7), (.const (.bool true))] (.tup [.one (.slice), .one (.int .i64)]), none⟩,
  ⟨(some 9), .extr (.tmp 8) 0, none⟩,
  ⟨(some 10), .extr (.tmp 8) 1, none⟩,
  ⟨(some 4), .mv (.tmp 9), none⟩,
  ⟨(some 5), .mv (.tmp 10), none⟩]) .ret))
def loops16 : List (List (Nat × Shp)) := []
def ret16 : List RV := [.tmp 4, .tmp 5]
theorem comp16 : compF Tryd.prog Tryd.f16 loops16 = some (11, ret16, code16) := by kernel_rfl
def VC16 (P : Program) (aA : Option Addr) (aN : Nat) (aC : Nat) (bA : Option Addr) (bN : Nat) (bC : Nat) (R : Value → Heap → Prop) (h : Heap) : Prop :=
 CallsH P 48 #[(.slice aA aN aC), (.slice bA bN bC), (.bool true)] h fun v h_ =>
 ∃ (A : Option Addr), ∃ (N : Nat), ∃ (C : Nat), ∃ (t : Int), v = (.tuple #[(.slice A N C), (.int .i64 t)]) ∧ R (.tuple #[(.slice A N C), (.int .i64 t)]) h_
theorem vc16 (P : Program) (aA : Option Addr) (aN : Nat) (aC : Nat) (bA : Option Addr) (bN : Nat) (bC : Nat) (R : Value → Heap → Prop) (h : Heap) : fnC P ret16 code16 [(.slice aA aN aC), (.slice bA bN bC)] h R = VC16 P aA aN aC bA bN bC R h := by kernel_rfl
theorem run16 (aA : Option Addr) (aN : Nat) (aC : Nat) (bA : Option Addr) (bN : Nat) (bC : Nat) (R : Value → Heap → Prop) (h : Heap) (hv : VC16 Tryd.prog aA aN aC bA bN bC R h) : CallsH Tryd.prog 16 #[(.slice aA aN aC), (.slice bA bN bC)] h R := calls_of_fnC (Checked.mixed Tryd.checked) Tryd.func16 comp16 (Nat.le_of_ble_eq_true rfl) (by rw [vc16]; exact hv)

/-! 17: trestle/words.Differ -/
def code17 : SCode := (.seq (.region false [⟨(some 4), .mv (.const (.slice none 0 0)), none⟩,
  ⟨(some 5), .mv (.const (.int .i64 0)), none⟩]) (.seq (.region false [⟨(some 6), .mv (.tmp 0), none⟩,
  ⟨(some 7), .mv (.tmp 1), none⟩,
  ⟨(some 8), .call 46 [(.tmp 6), (.tmp 7), (.func 49)] (.tup [.one (.slice), .one (.int .i64)]), none⟩,
  ⟨(some 9), .extr (.tmp 8) 0, none⟩,
  ⟨(some 10), .extr (.tmp 8) 1, none⟩,
  ⟨(some 4), .mv (.tmp 9), none⟩,
  ⟨(some 5), .mv (.tmp 10), none⟩]) .ret))
def loops17 : List (List (Nat × Shp)) := []
def ret17 : List RV := [.tmp 4, .tmp 5]
theorem comp17 : compF Tryd.prog Tryd.f17 loops17 = some (11, ret17, code17) := by kernel_rfl
def VC17 (P : Program) (aA : Option Addr) (aN : Nat) (aC : Nat) (bA : Option Addr) (bN : Nat) (bC : Nat) (R : Value → Heap → Prop) (h : Heap) : Prop :=
 CallsH P 46 #[(.slice aA aN aC), (.slice bA bN bC), (.func (.func 49) #[] #[])] h fun v h_ =>
 ∃ (A : Option Addr), ∃ (N : Nat), ∃ (C : Nat), ∃ (t : Int), v = (.tuple #[(.slice A N C), (.int .i64 t)]) ∧ R (.tuple #[(.slice A N C), (.int .i64 t)]) h_
theorem vc17 (P : Program) (aA : Option Addr) (aN : Nat) (aC : Nat) (bA : Option Addr) (bN : Nat) (bC : Nat) (R : Value → Heap → Prop) (h : Heap) : fnC P ret17 code17 [(.slice aA aN aC), (.slice bA bN bC)] h R = VC17 P aA aN aC bA bN bC R h := by kernel_rfl
theorem run17 (aA : Option Addr) (aN : Nat) (aC : Nat) (bA : Option Addr) (bN : Nat) (bC : Nat) (R : Value → Heap → Prop) (h : Heap) (hv : VC17 Tryd.prog aA aN aC bA bN bC R h) : CallsH Tryd.prog 17 #[(.slice aA aN aC), (.slice bA bN bC)] h R := calls_of_fnC (Checked.mixed Tryd.checked) Tryd.func17 comp17 (Nat.le_of_ble_eq_true rfl) (by rw [vc17]; exact hv)

/-! 18: trestle/trestleref02.Differ -/
def code18 : SCode := (.seq (.region false [⟨(some 4), .mv (.const (.slice none 0 0)), none⟩,
  ⟨(some 5), .mv (.const (.int .i64 0)), none⟩]) (.seq (.region false [⟨(some 6), .mv (.tmp 0), none⟩,
  ⟨(some 7), .mv (.tmp 1), none⟩,
  ⟨(some 8), .call 48 [(.tmp 6), (.tmp 7), (.const (.bool false))] (.tup [.one (.slice), .one (.int .i64)]), none⟩,
  ⟨(some 9), .extr (.tmp 8) 0, none⟩,
  ⟨(some 10), .extr (.tmp 8) 1, none⟩,
  ⟨(some 4), .mv (.tmp 9), none⟩,
  ⟨(some 5), .mv (.tmp 10), none⟩]) .ret))
def loops18 : List (List (Nat × Shp)) := []
def ret18 : List RV := [.tmp 4, .tmp 5]
theorem comp18 : compF Tryd.prog Tryd.f18 loops18 = some (11, ret18, code18) := by kernel_rfl
def VC18 (P : Program) (aA : Option Addr) (aN : Nat) (aC : Nat) (bA : Option Addr) (bN : Nat) (bC : Nat) (R : Value → Heap → Prop) (h : Heap) : Prop :=
 CallsH P 48 #[(.slice aA aN aC), (.slice bA bN bC), (.bool false)] h fun v h_ =>
 ∃ (A : Option Addr), ∃ (N : Nat), ∃ (C : Nat), ∃ (t : Int), v = (.tuple #[(.slice A N C), (.int .i64 t)]) ∧ R (.tuple #[(.slice A N C), (.int .i64 t)]) h_
theorem vc18 (P : Program) (aA : Option Addr) (aN : Nat) (aC : Nat) (bA : Option Addr) (bN : Nat) (bC : Nat) (R : Value → Heap → Prop) (h : Heap) : fnC P ret18 code18 [(.slice aA aN aC), (.slice bA bN bC)] h R = VC18 P aA aN aC bA bN bC R h := by kernel_rfl
theorem run18 (aA : Option Addr) (aN : Nat) (aC : Nat) (bA : Option Addr) (bN : Nat) (bC : Nat) (R : Value → Heap → Prop) (h : Heap) (hv : VC18 Tryd.prog aA aN aC bA bN bC R h) : CallsH Tryd.prog 18 #[(.slice aA aN aC), (.slice bA bN bC)] h R := calls_of_fnC (Checked.mixed Tryd.checked) Tryd.func18 comp18 (Nat.le_of_ble_eq_true rfl) (by rw [vc18]; exact hv)

/-! 19: trestle/trestleref02.Same -/
def code19 : SCode := (.seq (.region false [⟨(some 4), .mv (.const (.bool false)), none⟩]) (.seq (.seq (.region false [⟨(some 6), .mv (.tmp 0), none⟩,
  ⟨(some 7), .len (.tmp 6), none⟩,
  ⟨(some 8), .mv (.tmp 1), none⟩,
  ⟨(some 9), .len (.tmp 8), none⟩,
  ⟨(some 10), .icmp .neq .i64 (.tmp 7) (.tmp 9), none⟩]) (.cond (.tmp 10) (.seq (.region false [⟨(some 4), .mv (.const (.bool false)), none⟩]) .ret) .skip)) (.seq (.seq (.region false [⟨(some 5), .mv (.const (.int .i64 0)), none⟩]) (.block 0 (.loop [(5, .int .i64)] [11, 12, 13, 14, 17, 18, 19, 20, 21, 22, 23, 24, 25, 4, 15, 16, 5] (.seq (.seq (.region false [⟨(some 11), .mv (.tmp 5), none⟩,
  ⟨(some 12), .mv (.tmp 0), none⟩,
  ⟨(some 13), .len (.tmp 12), none⟩,
  ⟨(some 14), .icmp .lss .i64 (.tmp 11) (.tmp 13), none⟩]) (.cond (.tmp 14) .skip (.exit 0))) (.seq (.block 1 (.seq (.region false [⟨(some 17), .mv (.tmp 0), none⟩,
  ⟨(some 18), .mv (.tmp 5), none⟩,
  ⟨(some 19), .idxA 1 (.tmp 17) (.tmp 18), none⟩,
  ⟨(some 20), .ld (.int .u64) (.tmp 19), none⟩,
  ⟨(some 21), .mv (.tmp 1), none⟩,
  ⟨(some 22), .mv (.tmp 5), none⟩,
  ⟨(some 23), .idxA 1 (.tmp 21) (.tmp 22), none⟩,
  ⟨(some 24), .ld (.int .u64) (.tmp 23), none⟩,
  ⟨(some 25), .icmp .neq .u64 (.tmp 20) (.tmp 24), none⟩]) (.cond (.tmp 25) (.seq (.region false [⟨(some 4), .mv (.const (.bool false)), none⟩]) .ret) .skip))) (.region false [⟨(some 15), .mv (.tmp 5), none⟩,
  ⟨(some 16), .arith .add .i64 (.tmp 15) (.const (.int .i64 1)), none⟩,
  ⟨(some 5), .mv (.tmp 16), none⟩])))))) (.seq (.region false [⟨(some 4), .mv (.const (.bool true)), none⟩]) .ret))))
def loops19 : List (List (Nat × Shp)) := [[(5, .int .i64)]]
def ret19 : List RV := [.tmp 4]
theorem comp19 : compF Tryd.prog Tryd.f19 loops19 = some (26, ret19, code19) := by kernel_rfl
def J19_2  (R : Value → Heap → Prop) (aA : (Option Addr)) (aN : Nat) (bA : (Option Addr)) (bN : Nat) (i : Int) (next_ : (Int → Heap → Prop)) (h_2 : Heap) : Prop :=
 0 ≤ (i : Int) ∧ (i : Int) < (aN : Nat) ∧ AtP aA fun ad => ∃ (t : Int), cellH h_2 (Addr.add ad (Int.toNat i * 1)) = some (.int .u64 t) ∧ 0 ≤ (i : Int) ∧ (i : Int) < (bN : Nat) ∧ AtP bA fun ad1 => ∃ (t1 : Int), cellH h_2 (Addr.add ad1 (Int.toNat i * 1)) = some (.int .u64 t1) ∧ PIf ((t : Int) = t1)
 (next_ ((IntKind.wrap .i64 (i + 1))) h_2)
 (R (.bool false) h_2)
def J19_1  (R : Value → Heap → Prop) (h_3 : Heap) : Prop :=
 R (.bool true) h_3
def B19_3 (R : Value → Heap → Prop) (aA : (Option Addr)) (aN : Nat) (bA : (Option Addr)) (bN : Nat) (i : Int) (h_1 : Heap) (next_ : Int → Heap → Prop) : Prop :=
 PIf ((i : Int) < ((aN : Nat) : Int))
 (J19_2 R aA aN bA bN i next_ h_1)
 (J19_1 R h_1)
def J19_0  (R : Value → Heap → Prop) (aA : (Option Addr)) (aN : Nat) (bA : (Option Addr)) (bN : Nat) (h_ : Heap) : Prop :=
 LoopT (σ := Int) (fun st_ h_st nx_st => B19_3 R aA aN bA bN (st_) h_st nx_st) (0) h_
def VC19 (P : Program) (aA : Option Addr) (aN : Nat) (aC : Nat) (bA : Option Addr) (bN : Nat) (bC : Nat) (R : Value → Heap → Prop) (h : Heap) : Prop :=
 PIf ((((aN : Nat) : Int) : Int) = ((bN : Nat) : Int))
 (J19_0 R aA aN bA bN h)
 (R (.bool false) h)
theorem vc19 (P : Program) (aA : Option Addr) (aN : Nat) (aC : Nat) (bA : Option Addr) (bN : Nat) (bC : Nat) (R : Value → Heap → Prop) (h : Heap) : fnC P ret19 code19 [(.slice aA aN aC), (.slice bA bN bC)] h R = VC19 P aA aN aC bA bN bC R h := by kernel_rfl
theorem run19 (aA : Option Addr) (aN : Nat) (aC : Nat) (bA : Option Addr) (bN : Nat) (bC : Nat) (R : Value → Heap → Prop) (h : Heap) (hv : VC19 Tryd.prog aA aN aC bA bN bC R h) : CallsH Tryd.prog 19 #[(.slice aA aN aC), (.slice bA bN bC)] h R := calls_of_fnC (Checked.mixed Tryd.checked) Tryd.func19 comp19 (Nat.le_of_ble_eq_true rfl) (by rw [vc19]; exact hv)

/-! 20: trestle/words.Pack -/
def code20 : SCode := (.seq (.region false [⟨(some 2), .mv (.const (.slice none 0 0)), none⟩,
  ⟨(some 3), .mv (.const (.int .i64 0)), none⟩]) (.seq (.seq (.region false [⟨(some 4), .mv (.tmp 0), none⟩,
  ⟨(some 5), .len (.tmp 4), none⟩,
  ⟨(some 6), .icmp .gtr .i64 (.tmp 5) (.const (.int .i64 16384)), none⟩]) (.cond (.tmp 6) (.seq (.region false [⟨(some 2), .mv (.const (.slice none 0 0)), none⟩,
  ⟨(some 3), .mv (.const (.int .i64 2)), none⟩]) .ret) .skip)) (.seq (.region false [⟨(some 7), .mv (.tmp 0), none⟩,
  ⟨(some 8), .call 50 [(.tmp 7)] (.val (.one (.slice))), none⟩,
  ⟨(some 2), .mv (.tmp 8), none⟩,
  ⟨(some 3), .mv (.const (.int .i64 0)), none⟩]) .ret)))
def loops20 : List (List (Nat × Shp)) := []
def ret20 : List RV := [.tmp 2, .tmp 3]
theorem comp20 : compF Tryd.prog Tryd.f20 loops20 = some (9, ret20, code20) := by kernel_rfl
def VC20 (P : Program) (bitsA : Option Addr) (bitsN : Nat) (bitsC : Nat) (R : Value → Heap → Prop) (h : Heap) : Prop :=
 PIf ((16384 : Int) < ((bitsN : Nat) : Int))
 (R (.tuple #[(.slice none 0 0), (.int .i64 2)]) h)
 (CallsH P 50 #[(.slice bitsA bitsN bitsC)] h fun v h_ =>
 ∃ (A : Option Addr), ∃ (N : Nat), ∃ (C : Nat), v = (.slice A N C) ∧ R (.tuple #[(.slice A N C), (.int .i64 0)]) h_)
theorem vc20 (P : Program) (bitsA : Option Addr) (bitsN : Nat) (bitsC : Nat) (R : Value → Heap → Prop) (h : Heap) : fnC P ret20 code20 [(.slice bitsA bitsN bitsC)] h R = VC20 P bitsA bitsN bitsC R h := by kernel_rfl
theorem run20 (bitsA : Option Addr) (bitsN : Nat) (bitsC : Nat) (R : Value → Heap → Prop) (h : Heap) (hv : VC20 Tryd.prog bitsA bitsN bitsC R h) : CallsH Tryd.prog 20 #[(.slice bitsA bitsN bitsC)] h R := calls_of_fnC (Checked.mixed Tryd.checked) Tryd.func20 comp20 (Nat.le_of_ble_eq_true rfl) (by rw [vc20]; exact hv)

/-! 21: trestle/trestleref02.Pack -/
def code21 : SCode := (.seq (.region false [⟨(some 2), .mv (.const (.slice none 0 0)), none⟩,
  ⟨(some 3), .mv (.const (.int .i64 0)), none⟩]) (.seq (.seq (.region false [⟨(some 4), .mv (.tmp 0), none⟩,
  ⟨(some 5), .len (.tmp 4), none⟩,
  ⟨(some 6), .icmp .gtr .i64 (.tmp 5) (.const (.int .i64 16384)), none⟩]) (.cond (.tmp 6) (.seq (.region false [⟨(some 2), .mv (.const (.slice none 0 0)), none⟩,
  ⟨(some 3), .mv (.const (.int .i64 2)), none⟩]) .ret) .skip)) (.seq (.region false [⟨(some 7), .mv (.tmp 0), none⟩,
  ⟨(some 8), .call 51 [(.tmp 7)] (.val (.one (.slice))), none⟩,
  ⟨(some 2), .mv (.tmp 8), none⟩,
  ⟨(some 3), .mv (.const (.int .i64 0)), none⟩]) .ret)))
def loops21 : List (List (Nat × Shp)) := []
def ret21 : List RV := [.tmp 2, .tmp 3]
theorem comp21 : compF Tryd.prog Tryd.f21 loops21 = some (9, ret21, code21) := by kernel_rfl
def VC21 (P : Program) (bitsA : Option Addr) (bitsN : Nat) (bitsC : Nat) (R : Value → Heap → Prop) (h : Heap) : Prop :=
 PIf ((16384 : Int) < ((bitsN : Nat) : Int))
 (R (.tuple #[(.slice none 0 0), (.int .i64 2)]) h)
 (CallsH P 51 #[(.slice bitsA bitsN bitsC)] h fun v h_ =>
 ∃ (A : Option Addr), ∃ (N : Nat), ∃ (C : Nat), v = (.slice A N C) ∧ R (.tuple #[(.slice A N C), (.int .i64 0)]) h_)
theorem vc21 (P : Program) (bitsA : Option Addr) (bitsN : Nat) (bitsC : Nat) (R : Value → Heap → Prop) (h : Heap) : fnC P ret21 code21 [(.slice bitsA bitsN bitsC)] h R = VC21 P bitsA bitsN bitsC R h := by kernel_rfl
theorem run21 (bitsA : Option Addr) (bitsN : Nat) (bitsC : Nat) (R : Value → Heap → Prop) (h : Heap) (hv : VC21 Tryd.prog bitsA bitsN bitsC R h) : CallsH Tryd.prog 21 #[(.slice bitsA bitsN bitsC)] h R := calls_of_fnC (Checked.mixed Tryd.checked) Tryd.func21 comp21 (Nat.le_of_ble_eq_true rfl) (by rw [vc21]; exact hv)

/-! 22: trestle/words.Text -/
def code22 : SCode := (.seq (.region false [⟨(some 2), .mv (.const (.string (ByteArray.mk #[]))), none⟩,
  ⟨(some 3), .mv (.const (.int .i64 0)), none⟩]) (.seq (.seq (.region false [⟨(some 7), .mv (.tmp 0), none⟩,
  ⟨(some 8), .len (.tmp 7), none⟩,
  ⟨(some 9), .icmp .gtr .i64 (.tmp 8) (.const (.int .i64 16384)), none⟩]) (.cond (.tmp 9) (.seq (.region false [⟨(some 2), .mv (.const (.string (ByteArray.mk #[]))), none⟩,
  ⟨(some 3), .mv (.const (.int .i64 2)), none⟩]) .ret) .skip)) (.seq (.region false [⟨(some 10), .mv (.tmp 0), none⟩,
  ⟨(some 11), .len (.tmp 10), none⟩,
  ⟨(some 12), .mkS 5 1 1 #[(.int .u8 0)] (.tmp 11) (.tmp 11), none⟩,
  ⟨(some 4), .mv (.tmp 12), none⟩]) (.seq (.seq (.region false [⟨(some 13), .mv (.tmp 0), none⟩,
  ⟨(some 14), .len (.tmp 13), none⟩,
  ⟨(some 15), .mv (.const (.int .i64 0)), none⟩]) (.block 0 (.loop [(15, .int .i64)] [16, 17, 18, 19, 5, 6, 20, 21, 22, 23, 24, 25, 26, 27, 28, 29, 30, 15] (.seq (.region false [⟨(some 16), .icmp .lss .i64 (.tmp 15) (.tmp 14), none⟩]) (.seq (.cond (.tmp 16) .skip (.exit 0)) (.seq (.block 1 (.seq (.region false [⟨(some 17), .mv (.tmp 15), none⟩,
  ⟨(some 18), .idxA 1 (.tmp 13) (.tmp 15), none⟩,
  ⟨(some 19), .ld (.bool) (.tmp 18), none⟩,
  ⟨(some 5), .mv (.tmp 17), none⟩,
  ⟨(some 6), .mv (.tmp 19), none⟩]) (.seq (.region false [⟨(some 20), .mv (.tmp 4), none⟩,
  ⟨(some 21), .mv (.tmp 5), none⟩,
  ⟨(some 22), .idxA 1 (.tmp 20) (.tmp 21), none⟩,
  ⟨none, .st 1 (.tmp 22) (.const (.int .u8 48)), none⟩]) (.seq (.region false [⟨(some 23), .mv (.tmp 6), none⟩]) (.cond (.tmp 23) (.region false [⟨(some 24), .mv (.tmp 4), none⟩,
  ⟨(some 25), .mv (.tmp 5), none⟩,
  ⟨(some 26), .idxA 1 (.tmp 24) (.tmp 25), none⟩,
  ⟨(some 27), .ld (.int .u8) (.tmp 26), none⟩,
  ⟨(some 28), .arith .add .u8 (.tmp 27) (.const (.int .u8 1)), none⟩,
  ⟨(some 29), .idxA 1 (.tmp 24) (.tmp 25), none⟩,
  ⟨none, .st 1 (.tmp 29) (.tmp 28), none⟩]) .skip))))) (.region false [⟨(some 30), .arith .add .i64 (.tmp 15) (.const (.int .i64 1)), none⟩,
  ⟨(some 15), .mv (.tmp 30), none⟩]))))))) (.seq (.region false [⟨(some 31), .mv (.tmp 4), none⟩,
  ⟨(some 32), .toStr (.tmp 31), none⟩,
  ⟨(some 2), .mv (.tmp 32), none⟩,
  ⟨(some 3), .mv (.const (.int .i64 0)), none⟩]) .ret)))))
def loops22 : List (List (Nat × Shp)) := [[(15, .int .i64)]]
def ret22 : List RV := [.tmp 2, .tmp 3]
theorem comp22 : compF Tryd.prog Tryd.f22 loops22 = some (33, ret22, code22) := by kernel_rfl
def J22_2  (bitsA : (Option Addr)) (bitsN : Nat) (h_ : Heap) (t : Int) (next_ : (Int → Heap → Prop)) (h_3 : Heap) : Prop :=
 0 ≤ (t : Int) ∧ (t : Int) < (bitsN : Nat) ∧ AtP bitsA fun ad => ∃ (t1 : Bool), cellH h_3 (Addr.add ad (Int.toNat t * 1)) = some (.bool t1) ∧ 0 ≤ (t : Int) ∧ (t : Int) < ((Int.toNat ((bitsN : Nat) : Int)) : Nat) ∧ StoreH h_3 (Addr.add (Addr.mk (h_).size 0 none) (Int.toNat t * 1)) [(.int .u8 48)] fun h_4 => BIf t1 (0 ≤ (t : Int) ∧ (t : Int) < ((Int.toNat ((bitsN : Nat) : Int)) : Nat) ∧ ∃ (t2 : Int), cellH h_4 (Addr.add (Addr.mk (h_).size 0 none) (Int.toNat t * 1)) = some (.int .u8 t2) ∧ 0 ≤ (t : Int) ∧ (t : Int) < ((Int.toNat ((bitsN : Nat) : Int)) : Nat) ∧ StoreH h_4 (Addr.add (Addr.mk (h_).size 0 none) (Int.toNat t * 1)) [(.int .u8 (IntKind.wrap .u8 (t2 + 1)))] fun h_5 => next_ ((IntKind.wrap .i64 (t + 1))) h_5) (next_ ((IntKind.wrap .i64 (t + 1))) h_4)
def J22_1  (R : Value → Heap → Prop) (bitsN : Nat) (h_ : Heap) (h_6 : Heap) : Prop :=
 ∃ b : ByteArray, b.size = (Int.toNat ((bitsN : Nat) : Int)) ∧ ReadL h_6 (some (Addr.mk (h_).size 0 none)) (bytesV b) ∧ R (.tuple #[(.string b), (.int .i64 0)]) h_6
def B22_4 (R : Value → Heap → Prop) (bitsA : (Option Addr)) (bitsN : Nat) (h_ : Heap) (t : Int) (h_2 : Heap) (next_ : Int → Heap → Prop) : Prop :=
 PIf ((t : Int) < ((bitsN : Nat) : Int))
 (J22_2 bitsA bitsN h_ t next_ h_2)
 (J22_1 R bitsN h_ h_2)
def J22_0  (R : Value → Heap → Prop) (bitsA : (Option Addr)) (bitsN : Nat) (h_ : Heap) : Prop :=
 0 ≤ (((bitsN : Nat) : Int) : Int) ∧ (((bitsN : Nat) : Int) : Int) ≤ ((bitsN : Nat) : Int) ∧ (1 : Int) * ((bitsN : Nat) : Int) ≤ 281474976710656 ∧ let h_1 : Heap := (h_).push (.cells (zeroRow #[(.int .u8 0)] (Int.toNat ((bitsN : Nat) : Int) * 1)).toArray 5); LoopT (σ := Int) (fun st_ h_st nx_st => B22_4 R bitsA bitsN h_ (st_) h_st nx_st) (0) h_1
def VC22 (P : Program) (bitsA : Option Addr) (bitsN : Nat) (bitsC : Nat) (R : Value → Heap → Prop) (h : Heap) : Prop :=
 PIf ((16384 : Int) < ((bitsN : Nat) : Int))
 (R (.tuple #[(.string (ByteArray.mk #[])), (.int .i64 2)]) h)
 (J22_0 R bitsA bitsN h)
theorem vc22 (P : Program) (bitsA : Option Addr) (bitsN : Nat) (bitsC : Nat) (R : Value → Heap → Prop) (h : Heap) : fnC P ret22 code22 [(.slice bitsA bitsN bitsC)] h R = VC22 P bitsA bitsN bitsC R h := by kernel_rfl
theorem run22 (bitsA : Option Addr) (bitsN : Nat) (bitsC : Nat) (R : Value → Heap → Prop) (h : Heap) (hv : VC22 Tryd.prog bitsA bitsN bitsC R h) : CallsH Tryd.prog 22 #[(.slice bitsA bitsN bitsC)] h R := calls_of_fnC (Checked.mixed Tryd.checked) Tryd.func22 comp22 (Nat.le_of_ble_eq_true rfl) (by rw [vc22]; exact hv)

/-! 23: trestle/trestleref02.Text -/
def code23 : SCode := (.seq (.region false [⟨(some 2), .mv (.const (.string (ByteArray.mk #[]))), none⟩,
  ⟨(some 3), .mv (.const (.int .i64 0)), none⟩]) (.seq (.seq (.region false [⟨(some 4), .mv (.tmp 0), none⟩,
  ⟨(some 5), .len (.tmp 4), none⟩,
  ⟨(some 6), .icmp .gtr .i64 (.tmp 5) (.const (.int .i64 16384)), none⟩]) (.cond (.tmp 6) (.seq (.region false [⟨(some 2), .mv (.const (.string (ByteArray.mk #[]))), none⟩,
  ⟨(some 3), .mv (.const (.int .i64 2)), none⟩]) .ret) .skip)) (.seq (.region false [⟨(some 7), .mv (.tmp 0), none⟩,
  ⟨(some 8), .call 52 [(.tmp 7)] (.val (.one (.str))), none⟩,
  ⟨(some 2), .mv (.tmp 8), none⟩,
  ⟨(some 3), .mv (.const (.int .i64 0)), none⟩]) .ret)))
def loops23 : List (List (Nat × Shp)) := []
def ret23 : List RV := [.tmp 2, .tmp 3]
theorem comp23 : compF Tryd.prog Tryd.f23 loops23 = some (9, ret23, code23) := by kernel_rfl
def VC23 (P : Program) (bitsA : Option Addr) (bitsN : Nat) (bitsC : Nat) (R : Value → Heap → Prop) (h : Heap) : Prop :=
 PIf ((16384 : Int) < ((bitsN : Nat) : Int))
 (R (.tuple #[(.string (ByteArray.mk #[])), (.int .i64 2)]) h)
 (CallsH P 52 #[(.slice bitsA bitsN bitsC)] h fun v h_ =>
 ∃ (t : ByteArray), v = (.string t) ∧ R (.tuple #[(.string t), (.int .i64 0)]) h_)
theorem vc23 (P : Program) (bitsA : Option Addr) (bitsN : Nat) (bitsC : Nat) (R : Value → Heap → Prop) (h : Heap) : fnC P ret23 code23 [(.slice bitsA bitsN bitsC)] h R = VC23 P bitsA bitsN bitsC R h := by kernel_rfl
theorem run23 (bitsA : Option Addr) (bitsN : Nat) (bitsC : Nat) (R : Value → Heap → Prop) (h : Heap) (hv : VC23 Tryd.prog bitsA bitsN bitsC R h) : CallsH Tryd.prog 23 #[(.slice bitsA bitsN bitsC)] h R := calls_of_fnC (Checked.mixed Tryd.checked) Tryd.func23 comp23 (Nat.le_of_ble_eq_true rfl) (by rw [vc23]; exact hv)

/-! 24: trestle/words.Index -/
def code24 : SCode := (.seq (.region false [⟨(some 2), .mv (.const (.int .i64 0)), none⟩,
  ⟨(some 3), .mv (.const (.int .i64 0)), none⟩]) (.seq (.seq (.region false [⟨(some 4), .mv (.tmp 0), none⟩,
  ⟨(some 5), .len (.tmp 4), none⟩,
  ⟨(some 6), .icmp .gtr .i64 (.tmp 5) (.const (.int .i64 62)), none⟩]) (.cond (.tmp 6) (.seq (.region false [⟨(some 2), .mv (.const (.int .i64 0)), none⟩,
  ⟨(some 3), .mv (.const (.int .i64 2)), none⟩]) .ret) .skip)) (.seq (.seq (.region false [⟨(some 7), .mv (.tmp 0), none⟩,
  ⟨(some 8), .len (.tmp 7), none⟩,
  ⟨(some 9), .icmp .eql .i64 (.tmp 8) (.const (.int .i64 0)), none⟩]) (.cond (.tmp 9) (.seq (.region false [⟨(some 2), .mv (.const (.int .i64 0)), none⟩,
  ⟨(some 3), .mv (.const (.int .i64 0)), none⟩]) .ret) .skip)) (.seq (.region false [⟨(some 10), .mv (.tmp 0), none⟩,
  ⟨(some 11), .call 50 [(.tmp 10)] (.val (.one (.slice))), none⟩,
  ⟨(some 12), .idxA 1 (.tmp 11) (.const (.int .i64 0)), none⟩,
  ⟨(some 13), .ld (.int .u64) (.tmp 12), none⟩,
  ⟨(some 14), .conv .i64 (.tmp 13), none⟩,
  ⟨(some 2), .mv (.tmp 14), none⟩,
  ⟨(some 3), .mv (.const (.int .i64 0)), none⟩]) .ret))))
def loops24 : List (List (Nat × Shp)) := []
def ret24 : List RV := [.tmp 2, .tmp 3]
theorem comp24 : compF Tryd.prog Tryd.f24 loops24 = some (15, ret24, code24) := by kernel_rfl
def J24_1  (P : Program) (R : Value → Heap → Prop) (bitsA : (Option Addr)) (bitsN : Nat) (bitsC : Nat) (h_1 : Heap) : Prop :=
 CallsH P 50 #[(.slice bitsA bitsN bitsC)] h_1 fun v h_2 =>
 ∃ (A : Option Addr), ∃ (N : Nat), ∃ (C : Nat), v = (.slice A N C) ∧ 0 ≤ (0 : Int) ∧ (0 : Int) < (N : Nat) ∧ AtP A fun ad => ∃ (t : Int), cellH h_2 (Addr.add ad (Int.toNat 0 * 1)) = some (.int .u64 t) ∧ R (.tuple #[(.int .i64 (IntKind.wrap .i64 t)), (.int .i64 0)]) h_2
def J24_0  (P : Program) (R : Value → Heap → Prop) (bitsA : (Option Addr)) (bitsN : Nat) (bitsC : Nat) (h_ : Heap) : Prop :=
 PIf ((((bitsN : Nat) : Int) : Int) = 0)
 (R (.tuple #[(.int .i64 0), (.int .i64 0)]) h_)
 (J24_1 P R bitsA bitsN bitsC h_)
def VC24 (P : Program) (bitsA : Option Addr) (bitsN : Nat) (bitsC : Nat) (R : Value → Heap → Prop) (h : Heap) : Prop :=
 PIf ((62 : Int) < ((bitsN : Nat) : Int))
 (R (.tuple #[(.int .i64 0), (.int .i64 2)]) h)
 (J24_0 P R bitsA bitsN bitsC h)
theorem vc24 (P : Program) (bitsA : Option Addr) (bitsN : Nat) (bitsC : Nat) (R : Value → Heap → Prop) (h : Heap) : fnC P ret24 code24 [(.slice bitsA bitsN bitsC)] h R = VC24 P bitsA bitsN bitsC R h := by kernel_rfl
theorem run24 (bitsA : Option Addr) (bitsN : Nat) (bitsC : Nat) (R : Value → Heap → Prop) (h : Heap) (hv : VC24 Tryd.prog bitsA bitsN bitsC R h) : CallsH Tryd.prog 24 #[(.slice bitsA bitsN bitsC)] h R := calls_of_fnC (Checked.mixed Tryd.checked) Tryd.func24 comp24 (Nat.le_of_ble_eq_true rfl) (by rw [vc24]; exact hv)

/-! 25: trestle/trestleref02.Index -/
def code25 : SCode := (.seq (.region false [⟨(some 2), .mv (.const (.int .i64 0)), none⟩,
  ⟨(some 3), .mv (.const (.int .i64 0)), none⟩]) (.seq (.seq (.region false [⟨(some 6), .mv (.tmp 0), none⟩,
  ⟨(some 7), .len (.tmp 6), none⟩,
  ⟨(some 8), .icmp .gtr .i64 (.tmp 7) (.const (.int .i64 62)), none⟩]) (.cond (.tmp 8) (.seq (.region false [⟨(some 2), .mv (.const (.int .i64 0)), none⟩,
  ⟨(some 3), .mv (.const (.int .i64 2)), none⟩]) .ret) .skip)) (.seq (.region false [⟨(some 4), .mv (.const (.int .i64 0)), none⟩]) (.seq (.seq (.region false [⟨(some 5), .mv (.const (.int .i64 0)), none⟩]) (.block 0 (.loop [(4, .int .i64), (5, .int .i64)] [9, 10, 11, 12, 15, 16, 17, 18, 19, 20, 21, 22, 23, 4, 13, 14, 5] (.seq (.seq (.region false [⟨(some 9), .mv (.tmp 5), none⟩,
  ⟨(some 10), .mv (.tmp 0), none⟩,
  ⟨(some 11), .len (.tmp 10), none⟩,
  ⟨(some 12), .icmp .lss .i64 (.tmp 9) (.tmp 11), none⟩]) (.cond (.tmp 12) .skip (.exit 0))) (.seq (.block 1 (.seq (.region false [⟨(some 15), .mv (.tmp 0), none⟩,
  ⟨(some 16), .mv (.tmp 5), none⟩,
  ⟨(some 17), .idxA 1 (.tmp 15) (.tmp 16), none⟩,
  ⟨(some 18), .ld (.bool) (.tmp 17), none⟩]) (.cond (.tmp 18) (.region false [⟨(some 19), .mv (.tmp 4), none⟩,
  ⟨(some 20), .mv (.tmp 5), none⟩,
  ⟨(some 21), .call 53 [(.tmp 20)] (.val (.one (.int .u64))), none⟩,
  ⟨(some 22), .conv .i64 (.tmp 21), none⟩,
  ⟨(some 23), .arith .add .i64 (.tmp 19) (.tmp 22), none⟩,
  ⟨(some 4), .mv (.tmp 23), none⟩]) .skip))) (.region false [⟨(some 13), .mv (.tmp 5), none⟩,
  ⟨(some 14), .arith .add .i64 (.tmp 13) (.const (.int .i64 1)), none⟩,
  ⟨(some 5), .mv (.tmp 14), none⟩])))))) (.seq (.region false [⟨(some 24), .mv (.tmp 4), none⟩,
  ⟨(some 2), .mv (.tmp 24), none⟩,
  ⟨(some 3), .mv (.const (.int .i64 0)), none⟩]) .ret)))))
def loops25 : List (List (Nat × Shp)) := [[(4, .int .i64), (5, .int .i64)]]
def ret25 : List RV := [.tmp 2, .tmp 3]
theorem comp25 : compF Tryd.prog Tryd.f25 loops25 = some (25, ret25, code25) := by kernel_rfl
def J25_2  (P : Program) (bitsA : (Option Addr)) (bitsN : Nat) (n : Int) (i : Int) (next_ : (Int × Int → Heap → Prop)) (h_2 : Heap) : Prop :=
 0 ≤ (i : Int) ∧ (i : Int) < (bitsN : Nat) ∧ AtP bitsA fun ad => ∃ (t : Bool), cellH h_2 (Addr.add ad (Int.toNat i * 1)) = some (.bool t) ∧ BIf t (CallsH P 53 #[(.int .i64 i)] h_2 fun v h_3 =>
 ∃ (t1 : Int), v = (.int .u64 t1) ∧ next_ ((IntKind.wrap .i64 (n + (IntKind.wrap .i64 t1))), (IntKind.wrap .i64 (i + 1))) h_3) (next_ (n, (IntKind.wrap .i64 (i + 1))) h_2)
def J25_1  (R : Value → Heap → Prop) (n1 : Int) (h_4 : Heap) : Prop :=
 R (.tuple #[(.int .i64 n1), (.int .i64 0)]) h_4
def B25_3 (P : Program) (R : Value → Heap → Prop) (bitsA : (Option Addr)) (bitsN : Nat) (n : Int) (i : Int) (h_1 : Heap) (next_ : Int × Int → Heap → Prop) : Prop :=
 PIf ((i : Int) < ((bitsN : Nat) : Int))
 (J25_2 P bitsA bitsN n i next_ h_1)
 (J25_1 R (n) h_1)
def J25_0  (P : Program) (R : Value → Heap → Prop) (bitsA : (Option Addr)) (bitsN : Nat) (h_ : Heap) : Prop :=
 LoopT (σ := Int × Int) (fun st_ h_st nx_st => B25_3 P R bitsA bitsN (st_.1) (st_.2) h_st nx_st) (0, 0) h_
def VC25 (P : Program) (bitsA : Option Addr) (bitsN : Nat) (bitsC : Nat) (R : Value → Heap → Prop) (h : Heap) : Prop :=
 PIf ((62 : Int) < ((bitsN : Nat) : Int))
 (R (.tuple #[(.int .i64 0), (.int .i64 2)]) h)
 (J25_0 P R bitsA bitsN h)
theorem vc25 (P : Program) (bitsA : Option Addr) (bitsN : Nat) (bitsC : Nat) (R : Value → Heap → Prop) (h : Heap) : fnC P ret25 code25 [(.slice bitsA bitsN bitsC)] h R = VC25 P bitsA bitsN bitsC R h := by kernel_rfl
theorem run25 (bitsA : Option Addr) (bitsN : Nat) (bitsC : Nat) (R : Value → Heap → Prop) (h : Heap) (hv : VC25 Tryd.prog bitsA bitsN bitsC R h) : CallsH Tryd.prog 25 #[(.slice bitsA bitsN bitsC)] h R := calls_of_fnC (Checked.mixed Tryd.checked) Tryd.func25 comp25 (Nat.le_of_ble_eq_true rfl) (by rw [vc25]; exact hv)

/-! 26: trestle/trestlebook.SameBools -/
def code26 : SCode := (.seq (.region false [⟨(some 4), .mv (.const (.bool false)), none⟩]) (.seq (.seq (.region false [⟨(some 6), .mv (.tmp 0), none⟩,
  ⟨(some 7), .len (.tmp 6), none⟩,
  ⟨(some 8), .mv (.tmp 1), none⟩,
  ⟨(some 9), .len (.tmp 8), none⟩,
  ⟨(some 10), .icmp .neq .i64 (.tmp 7) (.tmp 9), none⟩]) (.cond (.tmp 10) (.seq (.region false [⟨(some 4), .mv (.const (.bool false)), none⟩]) .ret) .skip)) (.seq (.seq (.region false [⟨(some 5), .mv (.const (.int .i64 0)), none⟩]) (.block 0 (.loop [(5, .int .i64)] [11, 12, 13, 14, 17, 18, 19, 20, 21, 22, 23, 24, 25, 4, 15, 16, 5] (.seq (.seq (.region false [⟨(some 11), .mv (.tmp 5), none⟩,
  ⟨(some 12), .mv (.tmp 0), none⟩,
  ⟨(some 13), .len (.tmp 12), none⟩,
  ⟨(some 14), .icmp .lss .i64 (.tmp 11) (.tmp 13), none⟩]) (.cond (.tmp 14) .skip (.exit 0))) (.seq (.block 1 (.seq (.region false [⟨(some 17), .mv (.tmp 0), none⟩,
  ⟨(some 18), .mv (.tmp 5), none⟩,
  ⟨(some 19), .idxA 1 (.tmp 17) (.tmp 18), none⟩,
  ⟨(some 20), .ld (.bool) (.tmp 19), none⟩,
  ⟨(some 21), .mv (.tmp 1), none⟩,
  ⟨(some 22), .mv (.tmp 5), none⟩,
  ⟨(some 23), .idxA 1 (.tmp 21) (.tmp 22), none⟩,
  ⟨(some 24), .ld (.bool) (.tmp 23), none⟩,
  ⟨(some 25), .bcmp true (.tmp 20) (.tmp 24), none⟩]) (.cond (.tmp 25) (.seq (.region false [⟨(some 4), .mv (.const (.bool false)), none⟩]) .ret) .skip))) (.region false [⟨(some 15), .mv (.tmp 5), none⟩,
  ⟨(some 16), .arith .add .i64 (.tmp 15) (.const (.int .i64 1)), none⟩,
  ⟨(some 5), .mv (.tmp 16), none⟩])))))) (.seq (.region false [⟨(some 4), .mv (.const (.bool true)), none⟩]) .ret))))
def loops26 : List (List (Nat × Shp)) := [[(5, .int .i64)]]
def ret26 : List RV := [.tmp 4]
theorem comp26 : compF Tryd.prog Tryd.f26 loops26 = some (26, ret26, code26) := by kernel_rfl
def J26_2  (R : Value → Heap → Prop) (aA : (Option Addr)) (aN : Nat) (bA : (Option Addr)) (bN : Nat) (i : Int) (next_ : (Int → Heap → Prop)) (h_2 : Heap) : Prop :=
 0 ≤ (i : Int) ∧ (i : Int) < (aN : Nat) ∧ AtP aA fun ad => ∃ (t : Bool), cellH h_2 (Addr.add ad (Int.toNat i * 1)) = some (.bool t) ∧ 0 ≤ (i : Int) ∧ (i : Int) < (bN : Nat) ∧ AtP bA fun ad1 => ∃ (t1 : Bool), cellH h_2 (Addr.add ad1 (Int.toNat i * 1)) = some (.bool t1) ∧ PIf ((t : Bool) = t1)
 (next_ ((IntKind.wrap .i64 (i + 1))) h_2)
 (R (.bool false) h_2)
def J26_1  (R : Value → Heap → Prop) (h_3 : Heap) : Prop :=
 R (.bool true) h_3
def B26_3 (R : Value → Heap → Prop) (aA : (Option Addr)) (aN : Nat) (bA : (Option Addr)) (bN : Nat) (i : Int) (h_1 : Heap) (next_ : Int → Heap → Prop) : Prop :=
 PIf ((i : Int) < ((aN : Nat) : Int))
 (J26_2 R aA aN bA bN i next_ h_1)
 (J26_1 R h_1)
def J26_0  (R : Value → Heap → Prop) (aA : (Option Addr)) (aN : Nat) (bA : (Option Addr)) (bN : Nat) (h_ : Heap) : Prop :=
 LoopT (σ := Int) (fun st_ h_st nx_st => B26_3 R aA aN bA bN (st_) h_st nx_st) (0) h_
def VC26 (P : Program) (aA : Option Addr) (aN : Nat) (aC : Nat) (bA : Option Addr) (bN : Nat) (bC : Nat) (R : Value → Heap → Prop) (h : Heap) : Prop :=
 PIf ((((aN : Nat) : Int) : Int) = ((bN : Nat) : Int))
 (J26_0 R aA aN bA bN h)
 (R (.bool false) h)
theorem vc26 (P : Program) (aA : Option Addr) (aN : Nat) (aC : Nat) (bA : Option Addr) (bN : Nat) (bC : Nat) (R : Value → Heap → Prop) (h : Heap) : fnC P ret26 code26 [(.slice aA aN aC), (.slice bA bN bC)] h R = VC26 P aA aN aC bA bN bC R h := by kernel_rfl
theorem run26 (aA : Option Addr) (aN : Nat) (aC : Nat) (bA : Option Addr) (bN : Nat) (bC : Nat) (R : Value → Heap → Prop) (h : Heap) (hv : VC26 Tryd.prog aA aN aC bA bN bC R h) : CallsH Tryd.prog 26 #[(.slice aA aN aC), (.slice bA bN bC)] h R := calls_of_fnC (Checked.mixed Tryd.checked) Tryd.func26 comp26 (Nat.le_of_ble_eq_true rfl) (by rw [vc26]; exact hv)

/-! 27: trestle/trestleref02.Put -/
def code27 : SCode := (.seq (.region false [⟨(some 2), .mv (.const (.string (ByteArray.mk #[]))), none⟩,
  ⟨(some 3), .mv (.const (.int .i64 0)), none⟩]) (.seq (.seq (.region false [⟨(some 5), .mv (.tmp 0), none⟩,
  ⟨(some 6), .icmp .lss .i64 (.tmp 5) (.const (.int .i64 0)), none⟩,
  ⟨(some 7), .mv (.tmp 6), none⟩,
  ⟨(some 8), .mv (.tmp 0), (some (7, false))⟩,
  ⟨(some 9), .icmp .gtr .i64 (.tmp 8) (.const (.int .i64 2147483647)), (some (7, false))⟩,
  ⟨(some 10), .pick (.tmp 7) (.const (.bool true)) (.tmp 9), none⟩]) (.cond (.tmp 10) (.seq (.region false [⟨(some 2), .mv (.const (.string (ByteArray.mk #[]))), none⟩,
  ⟨(some 3), .mv (.const (.int .i64 1)), none⟩]) .ret) .skip)) (.seq (.region false [⟨(some 4), .mv (.const (.slice none 0 0)), none⟩]) (.seq (.block 0 (.loop [(0, .int .i64), (4, .slice)] [11, 12, 13, 14, 15, 16, 17, 18, 19, 4, 20, 21, 0] (.seq (.seq (.region false [⟨(some 11), .mv (.tmp 0), none⟩,
  ⟨(some 12), .icmp .geq .i64 (.tmp 11) (.const (.int .i64 128)), none⟩]) (.cond (.tmp 12) .skip (.exit 0))) (.block 1 (.seq (.region false [⟨(some 13), .mv (.tmp 4), none⟩,
  ⟨(some 14), .mv (.tmp 0), none⟩,
  ⟨(some 15), .divc .rem .i64 (.tmp 14) 128, none⟩,
  ⟨(some 16), .arith .add .i64 (.tmp 15) (.const (.int .i64 128)), none⟩,
  ⟨(some 17), .conv .u8 (.tmp 16), none⟩,
  ⟨(some 18), .lit 5 1 #[(.int .u8 0)] [(0, 1, (.tmp 17))], none⟩,
  ⟨(some 19), .app 5 1 1 #[(.int .u8 0)] (.tmp 13) (.tmp 18), none⟩,
  ⟨(some 4), .mv (.tmp 19), none⟩]) (.region false [⟨(some 20), .mv (.tmp 0), none⟩,
  ⟨(some 21), .divc .quo .i64 (.tmp 20) 128, none⟩,
  ⟨(some 0), .mv (.tmp 21), none⟩])))))) (.seq (.region false [⟨(some 22), .mv (.tmp 4), none⟩,
  ⟨(some 23), .mv (.tmp 0), none⟩,
  ⟨(some 24), .conv .u8 (.tmp 23), none⟩,
  ⟨(some 25), .lit 5 1 #[(.int .u8 0)] [(0, 1, (.tmp 24))], none⟩,
  ⟨(some 26), .app 5 1 1 #[(.int .u8 0)] (.tmp 22) (.tmp 25), none⟩,
  ⟨(some 27), .toStr (.tmp 26), none⟩,
  ⟨(some 2), .mv (.tmp 27), none⟩,
  ⟨(some 3), .mv (.const (.int .i64 0)), none⟩]) .ret)))))
def loops27 : List (List (Nat × Shp)) := [[(0, .int .i64), (4, .slice)]]
def ret27 : List RV := [.tmp 2, .tmp 3]
theorem comp27 : compF Tryd.prog Tryd.f27 loops27 = some (28, ret27, code27) := by kernel_rfl
def J27_2  (n1 : Int) (outA : (Option Addr)) (outN : Nat) (outC : Nat) (next_ : (Int × (Option Addr × Nat × Nat) → Heap → Prop)) (h_2 : Heap) : Prop :=
 let h_3 : Heap := (h_2).push (.cells #[(.int .u8 (IntKind.wrap .u8 (IntKind.wrap .i64 ((Int.tmod n1 128) + 128))))] 5); ∃ ys : List Value, ReadL h_3 (some (Addr.mk (h_2).size 0 none)) ys ∧ ys.length = 1 * 1 ∧ AppS h_3 outA outN outC 5 1 1 #[(.int .u8 0)] ys 1 fun apA apN apC h_4 => next_ ((IntKind.wrap .i64 (Int.tdiv n1 128)), (apA, apN, apC)) h_4
def J27_1  (R : Value → Heap → Prop) (n2 : Int) (outA1 : Option Addr) (outN1 : Nat) (outC1 : Nat) (h_5 : Heap) : Prop :=
 let h_6 : Heap := (h_5).push (.cells #[(.int .u8 (IntKind.wrap .u8 n2))] 5); ∃ ys1 : List Value, ReadL h_6 (some (Addr.mk (h_5).size 0 none)) ys1 ∧ ys1.length = 1 * 1 ∧ AppS h_6 outA1 outN1 outC1 5 1 1 #[(.int .u8 0)] ys1 1 fun apA1 apN1 apC1 h_7 => ∃ b : ByteArray, b.size = apN1 ∧ ReadL h_7 apA1 (bytesV b) ∧ R (.tuple #[(.string b), (.int .i64 0)]) h_7
def B27_3 (R : Value → Heap → Prop) (n1 : Int) (outA : Option Addr) (outN : Nat) (outC : Nat) (h_1 : Heap) (next_ : Int × (Option Addr × Nat × Nat) → Heap → Prop) : Prop :=
 PIf ((128 : Int) ≤ n1)
 (J27_2 n1 outA outN outC next_ h_1)
 (J27_1 R (n1) (outA) (outN) (outC) h_1)
def J27_0  (R : Value → Heap → Prop) (n : Int) (h_ : Heap) : Prop :=
 LoopT (σ := Int × (Option Addr × Nat × Nat)) (fun st_ h_st nx_st => B27_3 R (st_.1) (st_.2.1) (st_.2.2.1) (st_.2.2.2) h_st nx_st) (n, (none, 0, 0)) h_
def VC27 (P : Program) (n : Int) (R : Value → Heap → Prop) (h : Heap) : Prop :=
 PIf ((n : Int) < 0)
 (R (.tuple #[(.string (ByteArray.mk #[])), (.int .i64 1)]) h)
 (PIf ((2147483647 : Int) < n)
 (R (.tuple #[(.string (ByteArray.mk #[])), (.int .i64 1)]) h)
 (J27_0 R n h))
theorem vc27 (P : Program) (n : Int) (R : Value → Heap → Prop) (h : Heap) : fnC P ret27 code27 [(.int .i64 n)] h R = VC27 P n R h := by kernel_rfl
theorem run27 (n : Int) (R : Value → Heap → Prop) (h : Heap) (hv : VC27 Tryd.prog n R h) : CallsH Tryd.prog 27 #[(.int .i64 n)] h R := calls_of_fnC (Checked.mixed Tryd.checked) Tryd.func27 comp27 (Nat.le_of_ble_eq_true rfl) (by rw [vc27]; exact hv)

/-! 28: trestle/words.Digits -/
def code28 : SCode := (.seq (.region false [⟨(some 2), .mv (.const (.string (ByteArray.mk #[]))), none⟩,
  ⟨(some 3), .mv (.const (.int .i64 0)), none⟩]) (.seq (.seq (.region false [⟨(some 4), .mv (.tmp 0), none⟩,
  ⟨(some 5), .icmp .lss .i64 (.tmp 4) (.const (.int .i64 0)), none⟩,
  ⟨(some 6), .mv (.tmp 5), none⟩,
  ⟨(some 7), .mv (.tmp 0), (some (6, false))⟩,
  ⟨(some 8), .icmp .gtr .i64 (.tmp 7) (.const (.int .i64 2147483647)), (some (6, false))⟩,
  ⟨(some 9), .pick (.tmp 6) (.const (.bool true)) (.tmp 8), none⟩]) (.cond (.tmp 9) (.seq (.region false [⟨(some 2), .mv (.const (.string (ByteArray.mk #[]))), none⟩,
  ⟨(some 3), .mv (.const (.int .i64 1)), none⟩]) .ret) .skip)) (.seq (.region false [⟨(some 10), .mv (.tmp 0), none⟩,
  ⟨(some 11), .call 54 [(.tmp 10)] (.val (.one (.str))), none⟩,
  ⟨(some 2), .mv (.tmp 11), none⟩,
  ⟨(some 3), .mv (.const (.int .i64 0)), none⟩]) .ret)))
def loops28 : List (List (Nat × Shp)) := []
def ret28 : List RV := [.tmp 2, .tmp 3]
theorem comp28 : compF Tryd.prog Tryd.f28 loops28 = some (12, ret28, code28) := by kernel_rfl
def VC28 (P : Program) (n : Int) (R : Value → Heap → Prop) (h : Heap) : Prop :=
 PIf ((n : Int) < 0)
 (R (.tuple #[(.string (ByteArray.mk #[])), (.int .i64 1)]) h)
 (PIf ((2147483647 : Int) < n)
 (R (.tuple #[(.string (ByteArray.mk #[])), (.int .i64 1)]) h)
 (CallsH P 54 #[(.int .i64 n)] h fun v h_ =>
 ∃ (t : ByteArray), v = (.string t) ∧ R (.tuple #[(.string t), (.int .i64 0)]) h_))
theorem vc28 (P : Program) (n : Int) (R : Value → Heap → Prop) (h : Heap) : fnC P ret28 code28 [(.int .i64 n)] h R = VC28 P n R h := by kernel_rfl
theorem run28 (n : Int) (R : Value → Heap → Prop) (h : Heap) (hv : VC28 Tryd.prog n R h) : CallsH Tryd.prog 28 #[(.int .i64 n)] h R := calls_of_fnC (Checked.mixed Tryd.checked) Tryd.func28 comp28 (Nat.le_of_ble_eq_true rfl) (by rw [vc28]; exact hv)

/-! 29: trestle/trestleref02.Digits -/
def code29 : SCode := (.seq (.region false [⟨(some 2), .mv (.const (.string (ByteArray.mk #[]))), none⟩,
  ⟨(some 3), .mv (.const (.int .i64 0)), none⟩]) (.seq (.seq (.region false [⟨(some 4), .mv (.tmp 0), none⟩,
  ⟨(some 5), .icmp .lss .i64 (.tmp 4) (.const (.int .i64 0)), none⟩,
  ⟨(some 6), .mv (.tmp 5), none⟩,
  ⟨(some 7), .mv (.tmp 0), (some (6, false))⟩,
  ⟨(some 8), .icmp .gtr .i64 (.tmp 7) (.const (.int .i64 2147483647)), (some (6, false))⟩,
  ⟨(some 9), .pick (.tmp 6) (.const (.bool true)) (.tmp 8), none⟩]) (.cond (.tmp 9) (.seq (.region false [⟨(some 2), .mv (.const (.string (ByteArray.mk #[]))), none⟩,
  ⟨(some 3), .mv (.const (.int .i64 1)), none⟩]) .ret) .skip)) (.seq (.region false [⟨(some 10), .mv (.tmp 0), none⟩,
  ⟨(some 11), .call 55 [(.tmp 10)] (.val (.one (.str))), none⟩,
  ⟨(some 2), .mv (.tmp 11), none⟩,
  ⟨(some 3), .mv (.const (.int .i64 0)), none⟩]) .ret)))
def loops29 : List (List (Nat × Shp)) := []
def ret29 : List RV := [.tmp 2, .tmp 3]
theorem comp29 : compF Tryd.prog Tryd.f29 loops29 = some (12, ret29, code29) := by kernel_rfl
def VC29 (P : Program) (n : Int) (R : Value → Heap → Prop) (h : Heap) : Prop :=
 PIf ((n : Int) < 0)
 (R (.tuple #[(.string (ByteArray.mk #[])), (.int .i64 1)]) h)
 (PIf ((2147483647 : Int) < n)
 (R (.tuple #[(.string (ByteArray.mk #[])), (.int .i64 1)]) h)
 (CallsH P 55 #[(.int .i64 n)] h fun v h_ =>
 ∃ (t : ByteArray), v = (.string t) ∧ R (.tuple #[(.string t), (.int .i64 0)]) h_))
theorem vc29 (P : Program) (n : Int) (R : Value → Heap → Prop) (h : Heap) : fnC P ret29 code29 [(.int .i64 n)] h R = VC29 P n R h := by kernel_rfl
theorem run29 (n : Int) (R : Value → Heap → Prop) (h : Heap) (hv : VC29 Tryd.prog n R h) : CallsH Tryd.prog 29 #[(.int .i64 n)] h R := calls_of_fnC (Checked.mixed Tryd.checked) Tryd.func29 comp29 (Nat.le_of_ble_eq_true rfl) (by rw [vc29]; exact hv)

/-! 30: trestle/trestlelaw02.names -/
def code30 : SCode := (.seq (.region false [⟨(some 0), .mv (.const (.bool false)), none⟩]) (.seq (.region false [⟨(some 0), .mv (.const (.bool true)), none⟩]) .ret))
def loops30 : List (List (Nat × Shp)) := []
def ret30 : List RV := [.tmp 0]
theorem comp30 : compF Tryd.prog Tryd.f30 loops30 = some (1, ret30, code30) := by kernel_rfl
def VC30 (P : Program) (R : Value → Heap → Prop) (h : Heap) : Prop :=
 R (.bool true) h
theorem vc30 (P : Program) (R : Value → Heap → Prop) (h : Heap) : fnC P ret30 code30 [] h R = VC30 P R h := by kernel_rfl
theorem run30 (R : Value → Heap → Prop) (h : Heap) (hv : VC30 Tryd.prog R h) : CallsH Tryd.prog 30 #[] h R := calls_of_fnC (Checked.mixed Tryd.checked) Tryd.func30 comp30 (Nat.le_of_ble_eq_true rfl) (by rw [vc30]; exact hv)

/-! 31: trestle/trestleref02.Get -/
def code31 : SCode := (.seq (.region false [⟨(some 4), .mv (.const (.int .i64 0)), none⟩,
  ⟨(some 5), .mv (.const (.int .i64 0)), none⟩,
  ⟨(some 6), .alloc 25 (.agg #[(.int .i64 0), (.int .i64 0)]), none⟩]) (.seq (.seq (.region false [⟨(some 11), .mv (.tmp 0), none⟩,
  ⟨(some 12), .mv (.tmp 1), none⟩,
  ⟨(some 13), .call 56 [(.tmp 11), (.tmp 12)] (.val (.agg [.int .i64, .int .i64])), none⟩,
  ⟨(some 7), .alloc 25 (.agg #[(.int .i64 0), (.int .i64 0)]), none⟩,
  ⟨none, .st 2 (.tmp 7) (.tmp 13), none⟩]) (.seq (.region false [⟨(some 14), .fldA 1 (.tmp 7), none⟩,
  ⟨(some 15), .ld (.int .i64) (.tmp 14), none⟩,
  ⟨(some 16), .icmp .neq .i64 (.tmp 15) (.const (.int .i64 0)), none⟩]) (.cond (.tmp 16) (.seq (.region false [⟨(some 17), .ldn [.int .i64, .int .i64] (.tmp 7), none⟩,
  ⟨(some 4), .mv (.const (.int .i64 0)), none⟩,
  ⟨(some 5), .mv (.const (.int .i64 0)), none⟩,
  ⟨none, .st 2 (.tmp 6) (.tmp 17), none⟩]) .ret) .skip))) (.seq (.region false [⟨(some 19), .mv (.tmp 0), none⟩,
  ⟨(some 20), .mv (.tmp 1), none⟩,
  ⟨(some 21), .call 57 [(.tmp 19), (.tmp 20)] (.tup [.one (.int .i64), .one (.int .i64), .one (.bool)]), none⟩,
  ⟨(some 18), .mv (.tmp 21), none⟩,
  ⟨(some 22), .extr (.tmp 18) 0, none⟩,
  ⟨(some 23), .extr (.tmp 18) 1, none⟩,
  ⟨(some 24), .extr (.tmp 18) 2, none⟩,
  ⟨(some 8), .mv (.tmp 22), none⟩,
  ⟨(some 9), .mv (.tmp 23), none⟩,
  ⟨(some 10), .mv (.tmp 24), none⟩]) (.seq (.seq (.region false [⟨(some 25), .mv (.tmp 10), none⟩,
  ⟨(some 26), .not (.tmp 25), none⟩]) (.cond (.tmp 26) (.seq (.region false [⟨(some 27), .mv (.tmp 1), none⟩,
  ⟨(some 28), .call 58 [(.tmp 27), (.const (.int .i64 20))] (.val (.agg [.int .i64, .int .i64])), none⟩,
  ⟨(some 4), .mv (.const (.int .i64 0)), none⟩,
  ⟨(some 5), .mv (.const (.int .i64 0)), none⟩,
  ⟨none, .st 2 (.tmp 6) (.tmp 28), none⟩]) .ret) .skip)) (.seq (.region false [⟨(some 29), .mv (.tmp 8), none⟩,
  ⟨(some 30), .mv (.tmp 9), none⟩,
  ⟨(some 31), .mkAgg #[(.int .i64 0), (.int .i64 0)] [], none⟩,
  ⟨(some 4), .mv (.tmp 29), none⟩,
  ⟨(some 5), .mv (.tmp 30), none⟩,
  ⟨none, .st 2 (.tmp 6) (.tmp 31), none⟩]) .ret)))))
def loops31 : List (List (Nat × Shp)) := []
def ret31 : List RV := [.tmp 4, .tmp 5, .cellN 6 [.int .i64, .int .i64]]
theorem comp31 : compF Tryd.prog Tryd.f31 loops31 = some (32, ret31, code31) := by kernel_rfl
def J31_0  (P : Program) (R : Value → Heap → Prop) (h : Heap) (s : ByteArray) (at_ : Int) (h_5 : Heap) : Prop :=
 CallsH P 57 #[(.string s), (.int .i64 at_)] h_5 fun v1 h_6 =>
 ∃ (t7 : Int), ∃ (t8 : Int), ∃ (t9 : Bool), v1 = (.tuple #[(.int .i64 t7), (.int .i64 t8), (.bool t9)]) ∧ BIf (!t9) (CallsH P 58 #[(.int .i64 at_), (.int .i64 20)] h_6 fun v2 h_7 =>
 ∃ (t10 : Int), ∃ (t11 : Int), v2 = (.agg #[(.int .i64 t10), (.int .i64 t11)]) ∧ StoreH h_7 (Addr.mk (h).size 0 none) [(.int .i64 t10), (.int .i64 t11)] fun h_8 => ∃ (t12 : Int), ∃ (t13 : Int), cellsH h_8 (Addr.mk (h).size 0 none) 0 [(.int .i64 t12), (.int .i64 t13)] ∧ R (.tuple #[(.int .i64 0), (.int .i64 0), (.agg #[(.int .i64 t12), (.int .i64 t13)])]) h_8) (StoreH h_6 (Addr.mk (h).size 0 none) [(.int .i64 0), (.int .i64 0)] fun h_9 => ∃ (t14 : Int), ∃ (t15 : Int), cellsH h_9 (Addr.mk (h).size 0 none) 0 [(.int .i64 t14), (.int .i64 t15)] ∧ R (.tuple #[(.int .i64 t7), (.int .i64 t8), (.agg #[(.int .i64 t14), (.int .i64 t15)])]) h_9)
def VC31 (P : Program) (s : ByteArray) (at_ : Int) (R : Value → Heap → Prop) (h : Heap) : Prop :=
 let h_ : Heap := (h).push (.cells #[(.int .i64 0), (.int .i64 0)] 25); CallsH P 56 #[(.string s), (.int .i64 at_)] h_ fun v h_1 =>
 ∃ (t : Int), ∃ (t1 : Int), v = (.agg #[(.int .i64 t), (.int .i64 t1)]) ∧ let h_2 : Heap := (h_1).push (.cells #[(.int .i64 0), (.int .i64 0)] 25); StoreH h_2 (Addr.mk (h_1).size 0 none) [(.int .i64 t), (.int .i64 t1)] fun h_3 => ∃ (t2 : Int), cellH h_3 (Addr.add (Addr.mk (h_1).size 0 none) 1) = some (.int .i64 t2) ∧ PIf ((t2 : Int) = 0)
 (J31_0 P R h s at_ h_3)
 (∃ (t3 : Int), ∃ (t4 : Int), cellsH h_3 (Addr.mk (h_1).size 0 none) 0 [(.int .i64 t3), (.int .i64 t4)] ∧ StoreH h_3 (Addr.mk (h).size 0 none) [(.int .i64 t3), (.int .i64 t4)] fun h_4 => ∃ (t5 : Int), ∃ (t6 : Int), cellsH h_4 (Addr.mk (h).size 0 none) 0 [(.int .i64 t5), (.int .i64 t6)] ∧ R (.tuple #[(.int .i64 0), (.int .i64 0), (.agg #[(.int .i64 t5), (.int .i64 t6)])]) h_4)
theorem vc31 (P : Program) (s : ByteArray) (at_ : Int) (R : Value → Heap → Prop) (h : Heap) : fnC P ret31 code31 [(.string s), (.int .i64 at_)] h R = VC31 P s at_ R h := by kernel_rfl
theorem run31 (s : ByteArray) (at_ : Int) (R : Value → Heap → Prop) (h : Heap) (hv : VC31 Tryd.prog s at_ R h) : CallsH Tryd.prog 31 #[(.string s), (.int .i64 at_)] h R := calls_of_fnC (Checked.mixed Tryd.checked) Tryd.func31 comp31 (Nat.le_of_ble_eq_true rfl) (by rw [vc31]; exact hv)

/-! 32: trestle/words.Number -/
def code32 : SCode := (.seq (.region false [⟨(some 4), .mv (.const (.int .i64 0)), none⟩,
  ⟨(some 5), .mv (.const (.int .i64 0)), none⟩,
  ⟨(some 6), .alloc 25 (.agg #[(.int .i64 0), (.int .i64 0)]), none⟩]) (.seq (.seq (.region false [⟨(some 11), .mv (.tmp 0), none⟩,
  ⟨(some 12), .mv (.tmp 1), none⟩,
  ⟨(some 13), .call 44 [(.tmp 11), (.tmp 12)] (.val (.agg [.int .i64, .int .i64])), none⟩,
  ⟨(some 7), .alloc 25 (.agg #[(.int .i64 0), (.int .i64 0)]), none⟩,
  ⟨none, .st 2 (.tmp 7) (.tmp 13), none⟩]) (.seq (.region false [⟨(some 14), .ldn [.int .i64, .int .i64] (.tmp 7), none⟩,
  ⟨(some 15), .mkAgg #[(.int .i64 0), (.int .i64 0)] [], none⟩,
  ⟨(some 16), .eqagg true [.int .i64, .int .i64] (.tmp 14) (.tmp 15), none⟩]) (.cond (.tmp 16) (.seq (.region false [⟨(some 17), .ldn [.int .i64, .int .i64] (.tmp 7), none⟩,
  ⟨(some 4), .mv (.const (.int .i64 0)), none⟩,
  ⟨(some 5), .mv (.const (.int .i64 0)), none⟩,
  ⟨none, .st 2 (.tmp 6) (.tmp 17), none⟩]) .ret) .skip))) (.seq (.region false [⟨(some 18), .mv (.tmp 1), none⟩,
  ⟨(some 8), .mv (.tmp 18), none⟩]) (.seq (.block 0 (.loop [(8, .int .i64)] [19, 20, 21, 22, 23, 24, 25, 26, 27, 28, 29, 30, 31, 32, 33, 34, 35, 36, 8] (.seq (.seq (.region false [⟨(some 19), .mv (.tmp 8), none⟩,
  ⟨(some 20), .mv (.tmp 0), none⟩,
  ⟨(some 21), .lenS (.tmp 20), none⟩,
  ⟨(some 22), .icmp .lss .i64 (.tmp 19) (.tmp 21), none⟩,
  ⟨(some 23), .mv (.tmp 22), none⟩,
  ⟨(some 24), .mv (.tmp 0), (some (23, true))⟩,
  ⟨(some 25), .mv (.tmp 8), (some (23, true))⟩,
  ⟨(some 26), .idxS (.tmp 24) (.tmp 25), (some (23, true))⟩,
  ⟨(some 27), .icmp .geq .u8 (.tmp 26) (.const (.int .u8 48)), (some (23, true))⟩,
  ⟨(some 28), .pick (.tmp 23) (.tmp 27) (.const (.bool false)), none⟩,
  ⟨(some 29), .mv (.tmp 28), none⟩,
  ⟨(some 30), .mv (.tmp 0), (some (29, true))⟩,
  ⟨(some 31), .mv (.tmp 8), (some (29, true))⟩,
  ⟨(some 32), .idxS (.tmp 30) (.tmp 31), (some (29, true))⟩,
  ⟨(some 33), .icmp .leq .u8 (.tmp 32) (.const (.int .u8 57)), (some (29, true))⟩,
  ⟨(some 34), .pick (.tmp 29) (.tmp 33) (.const (.bool false)), none⟩]) (.cond (.tmp 34) .skip (.exit 0))) (.block 1 (.region false [⟨(some 35), .mv (.tmp 8), none⟩,
  ⟨(some 36), .arith .add .i64 (.tmp 35) (.const (.int .i64 1)), none⟩,
  ⟨(some 8), .mv (.tmp 36), none⟩]))))) (.seq (.region false [⟨(some 38), .mv (.tmp 0), none⟩,
  ⟨(some 39), .mv (.tmp 1), none⟩,
  ⟨(some 40), .mv (.tmp 8), none⟩,
  ⟨(some 41), .slcS (.tmp 38) (some (.tmp 39)) (some (.tmp 40)), none⟩,
  ⟨(some 42), .call 59 [(.tmp 41), (.const (.int .i64 10)), (.const (.int .i64 31))] (.tup [.one (.int .u64), .one (.any)]), none⟩,
  ⟨(some 37), .mv (.tmp 42), none⟩,
  ⟨(some 43), .extr (.tmp 37) 0, none⟩,
  ⟨(some 44), .extr (.tmp 37) 1, none⟩,
  ⟨(some 9), .mv (.tmp 43), none⟩,
  ⟨(some 10), .mv (.tmp 44), none⟩]) (.seq (.seq (.region false [⟨(some 45), .mv (.tmp 10), none⟩,
  ⟨(some 46), .isnil .ifc true (.tmp 45), none⟩,
  ⟨(some 47), .mv (.tmp 46), none⟩,
  ⟨(some 48), .mv (.tmp 0), (some (47, false))⟩,
  ⟨(some 49), .mv (.tmp 1), (some (47, false))⟩,
  ⟨(some 50), .idxS (.tmp 48) (.tmp 49), (some (47, false))⟩,
  ⟨(some 51), .icmp .eql .u8 (.tmp 50) (.const (.int .u8 48)), (some (47, false))⟩,
  ⟨(some 52), .mv (.tmp 51), (some (47, false))⟩,
  ⟨(some 53), .mv (.tmp 8), (some (52, true))⟩,
  ⟨(some 54), .mv (.tmp 1), (some (52, true))⟩,
  ⟨(some 55), .arith .add .i64 (.tmp 54) (.const (.int .i64 1)), (some (52, true))⟩,
  ⟨(some 56), .icmp .gtr .i64 (.tmp 53) (.tmp 55), (some (52, true))⟩,
  ⟨(some 57), .pick (.tmp 52) (.tmp 56) (.const (.bool false)), (some (47, false))⟩,
  ⟨(some 58), .pick (.tmp 47) (.const (.bool true)) (.tmp 57), none⟩]) (.cond (.tmp 58) (.seq (.region false [⟨(some 59), .mv (.tmp 1), none⟩,
  ⟨(some 60), .mkAgg #[(.int .i64 0), (.int .i64 0)] [(0, 1, (.tmp 59)), (1, 1, (.const (.int .i64 20)))], none⟩,
  ⟨(some 4), .mv (.const (.int .i64 0)), none⟩,
  ⟨(some 5), .mv (.const (.int .i64 0)), none⟩,
  ⟨none, .st 2 (.tmp 6) (.tmp 60), none⟩]) .ret) .skip)) (.seq (.region false [⟨(some 61), .mv (.tmp 9), none⟩,
  ⟨(some 62), .conv .i64 (.tmp 61), none⟩,
  ⟨(some 63), .mv (.tmp 8), none⟩,
  ⟨(some 64), .mkAgg #[(.int .i64 0), (.int .i64 0)] [], none⟩,
  ⟨(some 4), .mv (.tmp 62), none⟩,
  ⟨(some 5), .mv (.tmp 63), none⟩,
  ⟨none, .st 2 (.tmp 6) (.tmp 64), none⟩]) .ret)))))))
def loops32 : List (List (Nat × Shp)) := [[(8, .int .i64)]]
def ret32 : List RV := [.tmp 4, .tmp 5, .cellN 6 [.int .i64, .int .i64]]
theorem comp32 : compF Tryd.prog Tryd.f32 loops32 = some (65, ret32, code32) := by kernel_rfl
def J32_1  (P : Program) (R : Value → Heap → Prop) (h : Heap) (s : ByteArray) (at_ : Int) (end_1 : Int) (h_6 : Heap) : Prop :=
 0 ≤ (at_ : Int) ∧ (at_ : Int) ≤ end_1 ∧ (end_1 : Int) ≤ (s.size : Nat) ∧ CallsH P 59 #[(.string (s.extract (Int.toNat at_) (Int.toNat end_1))), (.int .i64 10), (.int .i64 31)] h_6 fun v1 h_7 =>
 ∃ (t4 : Int), ∃ (t5 : Value), v1 = (.tuple #[(.int .u64 t4), t5]) ∧ isNilP .ifc t5 fun p => PIf p
 (0 ≤ (at_ : Int) ∧ (at_ : Int) < (s.size : Nat) ∧ PIf (((byteAt s at_) : Int) = 48)
 (PIf (((IntKind.wrap .i64 (at_ + 1)) : Int) < end_1)
 (StoreH h_7 (Addr.mk (h).size 0 none) [(.int .i64 at_), (.int .i64 20)] fun h_8 => ∃ (t6 : Int), ∃ (t7 : Int), cellsH h_8 (Addr.mk (h).size 0 none) 0 [(.int .i64 t6), (.int .i64 t7)] ∧ R (.tuple #[(.int .i64 0), (.int .i64 0), (.agg #[(.int .i64 t6), (.int .i64 t7)])]) h_8)
 (StoreH h_7 (Addr.mk (h).size 0 none) [(.int .i64 0), (.int .i64 0)] fun h_9 => ∃ (t8 : Int), ∃ (t9 : Int), cellsH h_9 (Addr.mk (h).size 0 none) 0 [(.int .i64 t8), (.int .i64 t9)] ∧ R (.tuple #[(.int .i64 (IntKind.wrap .i64 t4)), (.int .i64 end_1), (.agg #[(.int .i64 t8), (.int .i64 t9)])]) h_9))
 (StoreH h_7 (Addr.mk (h).size 0 none) [(.int .i64 0), (.int .i64 0)] fun h_10 => ∃ (t10 : Int), ∃ (t11 : Int), cellsH h_10 (Addr.mk (h).size 0 none) 0 [(.int .i64 t10), (.int .i64 t11)] ∧ R (.tuple #[(.int .i64 (IntKind.wrap .i64 t4)), (.int .i64 end_1), (.agg #[(.int .i64 t10), (.int .i64 t11)])]) h_10))
 (StoreH h_7 (Addr.mk (h).size 0 none) [(.int .i64 at_), (.int .i64 20)] fun h_11 => ∃ (t12 : Int), ∃ (t13 : Int), cellsH h_11 (Addr.mk (h).size 0 none) 0 [(.int .i64 t12), (.int .i64 t13)] ∧ R (.tuple #[(.int .i64 0), (.int .i64 0), (.agg #[(.int .i64 t12), (.int .i64 t13)])]) h_11)
def B32_2 (P : Program) (R : Value → Heap → Prop) (h : Heap) (s : ByteArray) (at_ : Int) (end_ : Int) (h_5 : Heap) (next_ : Int → Heap → Prop) : Prop :=
 PIf ((end_ : Int) < ((s.size : Nat) : Int))
 (0 ≤ (end_ : Int) ∧ (end_ : Int) < (s.size : Nat) ∧ PIf ((48 : Int) ≤ (byteAt s end_))
 (0 ≤ (end_ : Int) ∧ (end_ : Int) < (s.size : Nat) ∧ PIf (((byteAt s end_) : Int) ≤ 57)
 (next_ ((IntKind.wrap .i64 (end_ + 1))) h_5)
 (J32_1 P R h s at_ (end_) h_5))
 (J32_1 P R h s at_ (end_) h_5))
 (J32_1 P R h s at_ (end_) h_5)
def J32_0  (P : Program) (R : Value → Heap → Prop) (h : Heap) (s : ByteArray) (at_ : Int) (h_4 : Heap) : Prop :=
 LoopT (σ := Int) (fun st_ h_st nx_st => B32_2 P R h s at_ (st_) h_st nx_st) (at_) h_4
def VC32 (P : Program) (s : ByteArray) (at_ : Int) (R : Value → Heap → Prop) (h : Heap) : Prop :=
 let h_ : Heap := (h).push (.cells #[(.int .i64 0), (.int .i64 0)] 25); CallsH P 44 #[(.string s), (.int .i64 at_)] h_ fun v h_1 =>
 ∃ (t : Int), ∃ (t1 : Int), v = (.agg #[(.int .i64 t), (.int .i64 t1)]) ∧ let h_2 : Heap := (h_1).push (.cells #[(.int .i64 0), (.int .i64 0)] 25); StoreH h_2 (Addr.mk (h_1).size 0 none) [(.int .i64 t), (.int .i64 t1)] fun h_3 => ∃ (t2 : Int), ∃ (t3 : Int), cellsH h_3 (Addr.mk (h_1).size 0 none) 0 [(.int .i64 t2), (.int .i64 t3)] ∧ PIf ((#[(.int .i64 t2), (.int .i64 t3)] : Array Value) = #[(.int .i64 0), (.int .i64 0)])
 (J32_0 P R h s at_ h_3)
 (∃ (t14 : Int), ∃ (t15 : Int), cellsH h_3 (Addr.mk (h_1).size 0 none) 0 [(.int .i64 t14), (.int .i64 t15)] ∧ StoreH h_3 (Addr.mk (h).size 0 none) [(.int .i64 t14), (.int .i64 t15)] fun h_12 => ∃ (t16 : Int), ∃ (t17 : Int), cellsH h_12 (Addr.mk (h).size 0 none) 0 [(.int .i64 t16), (.int .i64 t17)] ∧ R (.tuple #[(.int .i64 0), (.int .i64 0), (.agg #[(.int .i64 t16), (.int .i64 t17)])]) h_12)
theorem vc32 (P : Program) (s : ByteArray) (at_ : Int) (R : Value → Heap → Prop) (h : Heap) : fnC P ret32 code32 [(.string s), (.int .i64 at_)] h R = VC32 P s at_ R h := by kernel_rfl
theorem run32 (s : ByteArray) (at_ : Int) (R : Value → Heap → Prop) (h : Heap) (hv : VC32 Tryd.prog s at_ R h) : CallsH Tryd.prog 32 #[(.string s), (.int .i64 at_)] h R := calls_of_fnC (Checked.mixed Tryd.checked) Tryd.func32 comp32 (Nat.le_of_ble_eq_true rfl) (by rw [vc32]; exact hv)

/-! 33: trestle/trestleref02.Number -/
def code33 : SCode := (.seq (.region false [⟨(some 4), .mv (.const (.int .i64 0)), none⟩,
  ⟨(some 5), .mv (.const (.int .i64 0)), none⟩,
  ⟨(some 6), .alloc 25 (.agg #[(.int .i64 0), (.int .i64 0)]), none⟩]) (.seq (.seq (.region false [⟨(some 11), .mv (.tmp 0), none⟩,
  ⟨(some 12), .mv (.tmp 1), none⟩,
  ⟨(some 13), .call 56 [(.tmp 11), (.tmp 12)] (.val (.agg [.int .i64, .int .i64])), none⟩,
  ⟨(some 7), .alloc 25 (.agg #[(.int .i64 0), (.int .i64 0)]), none⟩,
  ⟨none, .st 2 (.tmp 7) (.tmp 13), none⟩]) (.seq (.region false [⟨(some 14), .fldA 1 (.tmp 7), none⟩,
  ⟨(some 15), .ld (.int .i64) (.tmp 14), none⟩,
  ⟨(some 16), .icmp .neq .i64 (.tmp 15) (.const (.int .i64 0)), none⟩]) (.cond (.tmp 16) (.seq (.region false [⟨(some 17), .ldn [.int .i64, .int .i64] (.tmp 7), none⟩,
  ⟨(some 4), .mv (.const (.int .i64 0)), none⟩,
  ⟨(some 5), .mv (.const (.int .i64 0)), none⟩,
  ⟨none, .st 2 (.tmp 6) (.tmp 17), none⟩]) .ret) .skip))) (.seq (.region false [⟨(some 19), .mv (.tmp 0), none⟩,
  ⟨(some 20), .mv (.tmp 1), none⟩,
  ⟨(some 21), .call 60 [(.tmp 19), (.tmp 20)] (.tup [.one (.int .i64), .one (.int .i64), .one (.bool)]), none⟩,
  ⟨(some 18), .mv (.tmp 21), none⟩,
  ⟨(some 22), .extr (.tmp 18) 0, none⟩,
  ⟨(some 23), .extr (.tmp 18) 1, none⟩,
  ⟨(some 24), .extr (.tmp 18) 2, none⟩,
  ⟨(some 8), .mv (.tmp 22), none⟩,
  ⟨(some 9), .mv (.tmp 23), none⟩,
  ⟨(some 10), .mv (.tmp 24), none⟩]) (.seq (.seq (.region false [⟨(some 25), .mv (.tmp 10), none⟩,
  ⟨(some 26), .not (.tmp 25), none⟩]) (.cond (.tmp 26) (.seq (.region false [⟨(some 27), .mv (.tmp 1), none⟩,
  ⟨(some 28), .call 58 [(.tmp 27), (.const (.int .i64 20))] (.val (.agg [.int .i64, .int .i64])), none⟩,
  ⟨(some 4), .mv (.const (.int .i64 0)), none⟩,
  ⟨(some 5), .mv (.const (.int .i64 0)), none⟩,
  ⟨none, .st 2 (.tmp 6) (.tmp 28), none⟩]) .ret) .skip)) (.seq (.region false [⟨(some 29), .mv (.tmp 8), none⟩,
  ⟨(some 30), .mv (.tmp 9), none⟩,
  ⟨(some 31), .mkAgg #[(.int .i64 0), (.int .i64 0)] [], none⟩,
  ⟨(some 4), .mv (.tmp 29), none⟩,
  ⟨(some 5), .mv (.tmp 30), none⟩,
  ⟨none, .st 2 (.tmp 6) (.tmp 31), none⟩]) .ret)))))
def loops33 : List (List (Nat × Shp)) := []
def ret33 : List RV := [.tmp 4, .tmp 5, .cellN 6 [.int .i64, .int .i64]]
theorem comp33 : compF Tryd.prog Tryd.f33 loops33 = some (32, ret33, code33) := by kernel_rfl
def J33_0  (P : Program) (R : Value → Heap → Prop) (h : Heap) (s : ByteArray) (at_ : Int) (h_5 : Heap) : Prop :=
 CallsH P 60 #[(.string s), (.int .i64 at_)] h_5 fun v1 h_6 =>
 ∃ (t7 : Int), ∃ (t8 : Int), ∃ (t9 : Bool), v1 = (.tuple #[(.int .i64 t7), (.int .i64 t8), (.bool t9)]) ∧ BIf (!t9) (CallsH P 58 #[(.int .i64 at_), (.int .i64 20)] h_6 fun v2 h_7 =>
 ∃ (t10 : Int), ∃ (t11 : Int), v2 = (.agg #[(.int .i64 t10), (.int .i64 t11)]) ∧ StoreH h_7 (Addr.mk (h).size 0 none) [(.int .i64 t10), (.int .i64 t11)] fun h_8 => ∃ (t12 : Int), ∃ (t13 : Int), cellsH h_8 (Addr.mk (h).size 0 none) 0 [(.int .i64 t12), (.int .i64 t13)] ∧ R (.tuple #[(.int .i64 0), (.int .i64 0), (.agg #[(.int .i64 t12), (.int .i64 t13)])]) h_8) (StoreH h_6 (Addr.mk (h).size 0 none) [(.int .i64 0), (.int .i64 0)] fun h_9 => ∃ (t14 : Int), ∃ (t15 : Int), cellsH h_9 (Addr.mk (h).size 0 none) 0 [(.int .i64 t14), (.int .i64 t15)] ∧ R (.tuple #[(.int .i64 t7), (.int .i64 t8), (.agg #[(.int .i64 t14), (.int .i64 t15)])]) h_9)
def VC33 (P : Program) (s : ByteArray) (at_ : Int) (R : Value → Heap → Prop) (h : Heap) : Prop :=
 let h_ : Heap := (h).push (.cells #[(.int .i64 0), (.int .i64 0)] 25); CallsH P 56 #[(.string s), (.int .i64 at_)] h_ fun v h_1 =>
 ∃ (t : Int), ∃ (t1 : Int), v = (.agg #[(.int .i64 t), (.int .i64 t1)]) ∧ let h_2 : Heap := (h_1).push (.cells #[(.int .i64 0), (.int .i64 0)] 25); StoreH h_2 (Addr.mk (h_1).size 0 none) [(.int .i64 t), (.int .i64 t1)] fun h_3 => ∃ (t2 : Int), cellH h_3 (Addr.add (Addr.mk (h_1).size 0 none) 1) = some (.int .i64 t2) ∧ PIf ((t2 : Int) = 0)
 (J33_0 P R h s at_ h_3)
 (∃ (t3 : Int), ∃ (t4 : Int), cellsH h_3 (Addr.mk (h_1).size 0 none) 0 [(.int .i64 t3), (.int .i64 t4)] ∧ StoreH h_3 (Addr.mk (h).size 0 none) [(.int .i64 t3), (.int .i64 t4)] fun h_4 => ∃ (t5 : Int), ∃ (t6 : Int), cellsH h_4 (Addr.mk (h).size 0 none) 0 [(.int .i64 t5), (.int .i64 t6)] ∧ R (.tuple #[(.int .i64 0), (.int .i64 0), (.agg #[(.int .i64 t5), (.int .i64 t6)])]) h_4)
theorem vc33 (P : Program) (s : ByteArray) (at_ : Int) (R : Value → Heap → Prop) (h : Heap) : fnC P ret33 code33 [(.string s), (.int .i64 at_)] h R = VC33 P s at_ R h := by kernel_rfl
theorem run33 (s : ByteArray) (at_ : Int) (R : Value → Heap → Prop) (h : Heap) (hv : VC33 Tryd.prog s at_ R h) : CallsH Tryd.prog 33 #[(.string s), (.int .i64 at_)] h R := calls_of_fnC (Checked.mixed Tryd.checked) Tryd.func33 comp33 (Nat.le_of_ble_eq_true rfl) (by rw [vc33]; exact hv)

/-! 34: trestle/words.Bits -/
def code34 : SCode := (.seq (.region false [⟨(some 2), .mv (.const (.slice none 0 0)), none⟩,
  ⟨(some 3), .alloc 25 (.agg #[(.int .i64 0), (.int .i64 0)]), none⟩]) (.seq (.seq (.region false [⟨(some 6), .mv (.tmp 0), none⟩,
  ⟨(some 7), .lenS (.tmp 6), none⟩,
  ⟨(some 8), .icmp .gtr .i64 (.tmp 7) (.const (.int .i64 16384)), none⟩]) (.cond (.tmp 8) (.seq (.region false [⟨(some 9), .mkAgg #[(.int .i64 0), (.int .i64 0)] [(1, 1, (.const (.int .i64 2)))], none⟩,
  ⟨(some 2), .mv (.const (.slice none 0 0)), none⟩,
  ⟨none, .st 2 (.tmp 3) (.tmp 9), none⟩]) .ret) .skip)) (.seq (.region false [⟨(some 10), .mv (.tmp 0), none⟩,
  ⟨(some 11), .lenS (.tmp 10), none⟩,
  ⟨(some 12), .mkS 4 1 1 #[(.bool false)] (.tmp 11) (.tmp 11), none⟩,
  ⟨(some 4), .mv (.tmp 12), none⟩]) (.seq (.seq (.region false [⟨(some 13), .mv (.tmp 0), none⟩,
  ⟨(some 14), .lenS (.tmp 13), none⟩,
  ⟨(some 15), .mv (.const (.int .i64 0)), none⟩]) (.block 0 (.loop [(15, .int .i64)] [16, 17, 5, 18, 19, 20, 21, 22, 23, 24, 2, 25, 26, 27, 28, 29, 30, 31, 32, 15] (.seq (.region false [⟨(some 16), .icmp .lss .i64 (.tmp 15) (.tmp 14), none⟩]) (.seq (.cond (.tmp 16) .skip (.exit 0)) (.seq (.block 1 (.seq (.region false [⟨(some 17), .mv (.tmp 15), none⟩,
  ⟨(some 5), .mv (.tmp 17), none⟩]) (.seq (.seq (.region false [⟨(some 18), .mv (.tmp 0), none⟩,
  ⟨(some 19), .mv (.tmp 5), none⟩,
  ⟨(some 20), .idxS (.tmp 18) (.tmp 19), none⟩,
  ⟨(some 21), .bits .or .u8 (.tmp 20) (.const (.int .u8 1)), none⟩,
  ⟨(some 22), .icmp .neq .u8 (.tmp 21) (.const (.int .u8 49)), none⟩]) (.cond (.tmp 22) (.seq (.region false [⟨(some 23), .mv (.tmp 5), none⟩,
  ⟨(some 24), .mkAgg #[(.int .i64 0), (.int .i64 0)] [(0, 1, (.tmp 23)), (1, 1, (.const (.int .i64 21)))], none⟩,
  ⟨(some 2), .mv (.const (.slice none 0 0)), none⟩,
  ⟨none, .st 2 (.tmp 3) (.tmp 24), none⟩]) .ret) .skip)) (.region false [⟨(some 25), .mv (.tmp 4), none⟩,
  ⟨(some 26), .mv (.tmp 5), none⟩,
  ⟨(some 27), .mv (.tmp 0), none⟩,
  ⟨(some 28), .mv (.tmp 5), none⟩,
  ⟨(some 29), .idxS (.tmp 27) (.tmp 28), none⟩,
  ⟨(some 30), .icmp .eql .u8 (.tmp 29) (.const (.int .u8 49)), none⟩,
  ⟨(some 31), .idxA 1 (.tmp 25) (.tmp 26), none⟩,
  ⟨none, .st 1 (.tmp 31) (.tmp 30), none⟩])))) (.region false [⟨(some 32), .arith .add .i64 (.tmp 15) (.const (.int .i64 1)), none⟩,
  ⟨(some 15), .mv (.tmp 32), none⟩]))))))) (.seq (.region false [⟨(some 33), .mv (.tmp 4), none⟩,
  ⟨(some 34), .mkAgg #[(.int .i64 0), (.int .i64 0)] [], none⟩,
  ⟨(some 2), .mv (.tmp 33), none⟩,
  ⟨none, .st 2 (.tmp 3) (.tmp 34), none⟩]) .ret)))))
def loops34 : List (List (Nat × Shp)) := [[(15, .int .i64)]]
def ret34 : List RV := [.tmp 2, .cellN 3 [.int .i64, .int .i64]]
theorem comp34 : compF Tryd.prog Tryd.f34 loops34 = some (35, ret34, code34) := by kernel_rfl
def J34_3  (s : ByteArray) (h_2 : Heap) (t2 : Int) (next_ : (Int → Heap → Prop)) (h_7 : Heap) : Prop :=
 0 ≤ (t2 : Int) ∧ (t2 : Int) < (s.size : Nat) ∧ PIf (((byteAt s t2) : Int) = 49)
 (0 ≤ (t2 : Int) ∧ (t2 : Int) < ((Int.toNat ((s.size : Nat) : Int)) : Nat) ∧ StoreH h_7 (Addr.add (Addr.mk (h_2).size 0 none) (Int.toNat t2 * 1)) [(.bool true)] fun h_8 => next_ ((IntKind.wrap .i64 (t2 + 1))) h_8)
 (0 ≤ (t2 : Int) ∧ (t2 : Int) < ((Int.toNat ((s.size : Nat) : Int)) : Nat) ∧ StoreH h_7 (Addr.add (Addr.mk (h_2).size 0 none) (Int.toNat t2 * 1)) [(.bool false)] fun h_9 => next_ ((IntKind.wrap .i64 (t2 + 1))) h_9)
def J34_2  (R : Value → Heap → Prop) (h : Heap) (s : ByteArray) (h_2 : Heap) (t2 : Int) (next_ : (Int → Heap → Prop)) (h_5 : Heap) : Prop :=
 0 ≤ (t2 : Int) ∧ (t2 : Int) < (s.size : Nat) ∧ PIf (((bop .or .u8 (byteAt s t2) 1) : Int) = 49)
 (J34_3 s h_2 t2 next_ h_5)
 (StoreH h_5 (Addr.mk (h).size 0 none) [(.int .i64 t2), (.int .i64 21)] fun h_6 => ∃ (t3 : Int), ∃ (t4 : Int), cellsH h_6 (Addr.mk (h).size 0 none) 0 [(.int .i64 t3), (.int .i64 t4)] ∧ R (.tuple #[(.slice none 0 0), (.agg #[(.int .i64 t3), (.int .i64 t4)])]) h_6)
def J34_1  (R : Value → Heap → Prop) (h : Heap) (s : ByteArray) (h_2 : Heap) (h_10 : Heap) : Prop :=
 StoreH h_10 (Addr.mk (h).size 0 none) [(.int .i64 0), (.int .i64 0)] fun h_11 => ∃ (t5 : Int), ∃ (t6 : Int), cellsH h_11 (Addr.mk (h).size 0 none) 0 [(.int .i64 t5), (.int .i64 t6)] ∧ R (.tuple #[(.slice (some (Addr.mk (h_2).size 0 none)) (Int.toNat ((s.size : Nat) : Int)) (Int.toNat ((s.size : Nat) : Int))), (.agg #[(.int .i64 t5), (.int .i64 t6)])]) h_11
def B34_5 (R : Value → Heap → Prop) (h : Heap) (s : ByteArray) (h_2 : Heap) (t2 : Int) (h_4 : Heap) (next_ : Int → Heap → Prop) : Prop :=
 PIf ((t2 : Int) < ((s.size : Nat) : Int))
 (J34_2 R h s h_2 t2 next_ h_4)
 (J34_1 R h s h_2 h_4)
def J34_0  (R : Value → Heap → Prop) (h : Heap) (s : ByteArray) (h_2 : Heap) : Prop :=
 0 ≤ (((s.size : Nat) : Int) : Int) ∧ (((s.size : Nat) : Int) : Int) ≤ ((s.size : Nat) : Int) ∧ (1 : Int) * ((s.size : Nat) : Int) ≤ 281474976710656 ∧ let h_3 : Heap := (h_2).push (.cells (zeroRow #[(.bool false)] (Int.toNat ((s.size : Nat) : Int) * 1)).toArray 4); LoopT (σ := Int) (fun st_ h_st nx_st => B34_5 R h s h_2 (st_) h_st nx_st) (0) h_3
def VC34 (P : Program) (s : ByteArray) (R : Value → Heap → Prop) (h : Heap) : Prop :=
 let h_ : Heap := (h).push (.cells #[(.int .i64 0), (.int .i64 0)] 25); PIf ((16384 : Int) < ((s.size : Nat) : Int))
 (StoreH h_ (Addr.mk (h).size 0 none) [(.int .i64 0), (.int .i64 2)] fun h_1 => ∃ (t : Int), ∃ (t1 : Int), cellsH h_1 (Addr.mk (h).size 0 none) 0 [(.int .i64 t), (.int .i64 t1)] ∧ R (.tuple #[(.slice none 0 0), (.agg #[(.int .i64 t), (.int .i64 t1)])]) h_1)
 (J34_0 R h s h_)
theorem vc34 (P : Program) (s : ByteArray) (R : Value → Heap → Prop) (h : Heap) : fnC P ret34 code34 [(.string s)] h R = VC34 P s R h := by kernel_rfl
theorem run34 (s : ByteArray) (R : Value → Heap → Prop) (h : Heap) (hv : VC34 Tryd.prog s R h) : CallsH Tryd.prog 34 #[(.string s)] h R := calls_of_fnC (Checked.mixed Tryd.checked) Tryd.func34 comp34 (Nat.le_of_ble_eq_true rfl) (by rw [vc34]; exact hv)

/-! 35: trestle/trestleref02.Bits -/
def code35 : SCode := (.seq (.region false [⟨(some 2), .mv (.const (.slice none 0 0)), none⟩,
  ⟨(some 3), .alloc 25 (.agg #[(.int .i64 0), (.int .i64 0)]), none⟩]) (.seq (.seq (.region false [⟨(some 6), .mv (.tmp 0), none⟩,
  ⟨(some 7), .lenS (.tmp 6), none⟩,
  ⟨(some 8), .icmp .gtr .i64 (.tmp 7) (.const (.int .i64 16384)), none⟩]) (.cond (.tmp 8) (.seq (.region false [⟨(some 9), .call 58 [(.const (.int .i64 0)), (.const (.int .i64 2))] (.val (.agg [.int .i64, .int .i64])), none⟩,
  ⟨(some 2), .mv (.const (.slice none 0 0)), none⟩,
  ⟨none, .st 2 (.tmp 3) (.tmp 9), none⟩]) .ret) .skip)) (.seq (.region false [⟨(some 10), .mv (.tmp 0), none⟩,
  ⟨(some 11), .lenS (.tmp 10), none⟩,
  ⟨(some 12), .mkS 4 1 1 #[(.bool false)] (.tmp 11) (.tmp 11), none⟩,
  ⟨(some 4), .mv (.tmp 12), none⟩]) (.seq (.seq (.region false [⟨(some 5), .mv (.const (.int .i64 0)), none⟩]) (.block 0 (.loop [(5, .int .i64)] [13, 14, 15, 16, 19, 20, 21, 22, 23, 24, 25, 26, 27, 28, 29, 30, 2, 31, 32, 33, 34, 35, 36, 37, 17, 18, 5] (.seq (.seq (.region false [⟨(some 13), .mv (.tmp 5), none⟩,
  ⟨(some 14), .mv (.tmp 0), none⟩,
  ⟨(some 15), .lenS (.tmp 14), none⟩,
  ⟨(some 16), .icmp .lss .i64 (.tmp 13) (.tmp 15), none⟩]) (.cond (.tmp 16) .skip (.exit 0))) (.seq (.block 1 (.seq (.seq (.region false [⟨(some 19), .mv (.tmp 0), none⟩,
  ⟨(some 20), .mv (.tmp 5), none⟩,
  ⟨(some 21), .idxS (.tmp 19) (.tmp 20), none⟩,
  ⟨(some 22), .icmp .neq .u8 (.tmp 21) (.const (.int .u8 48)), none⟩,
  ⟨(some 23), .mv (.tmp 22), none⟩,
  ⟨(some 24), .mv (.tmp 0), (some (23, true))⟩,
  ⟨(some 25), .mv (.tmp 5), (some (23, true))⟩,
  ⟨(some 26), .idxS (.tmp 24) (.tmp 25), (some (23, true))⟩,
  ⟨(some 27), .icmp .neq .u8 (.tmp 26) (.const (.int .u8 49)), (some (23, true))⟩,
  ⟨(some 28), .pick (.tmp 23) (.tmp 27) (.const (.bool false)), none⟩]) (.cond (.tmp 28) (.seq (.region false [⟨(some 29), .mv (.tmp 5), none⟩,
  ⟨(some 30), .call 58 [(.tmp 29), (.const (.int .i64 21))] (.val (.agg [.int .i64, .int .i64])), none⟩,
  ⟨(some 2), .mv (.const (.slice none 0 0)), none⟩,
  ⟨none, .st 2 (.tmp 3) (.tmp 30), none⟩]) .ret) .skip)) (.region false [⟨(some 31), .mv (.tmp 4), none⟩,
  ⟨(some 32), .mv (.tmp 5), none⟩,
  ⟨(some 33), .mv (.tmp 0), none⟩,
  ⟨(some 34), .mv (.tmp 5), none⟩,
  ⟨(some 35), .idxS (.tmp 33) (.tmp 34), none⟩,
  ⟨(some 36), .icmp .eql .u8 (.tmp 35) (.const (.int .u8 49)), none⟩,
  ⟨(some 37), .idxA 1 (.tmp 31) (.tmp 32), none⟩,
  ⟨none, .st 1 (.tmp 37) (.tmp 36), none⟩]))) (.region false [⟨(some 17), .mv (.tmp 5), none⟩,
  ⟨(some 18), .arith .add .i64 (.tmp 17) (.const (.int .i64 1)), none⟩,
  ⟨(some 5), .mv (.tmp 18), none⟩])))))) (.seq (.region false [⟨(some 38), .mv (.tmp 4), none⟩,
  ⟨(some 39), .mkAgg #[(.int .i64 0), (.int .i64 0)] [], none⟩,
  ⟨(some 2), .mv (.tmp 38), none⟩,
  ⟨none, .st 2 (.tmp 3) (.tmp 39), none⟩]) .ret)))))
def loops35 : List (List (Nat × Shp)) := [[(5, .int .i64)]]
def ret35 : List RV := [.tmp 2, .cellN 3 [.int .i64, .int .i64]]
theorem comp35 : compF Tryd.prog Tryd.f35 loops35 = some (40, ret35, code35) := by kernel_rfl
def J35_3  (s : ByteArray) (h_3 : Heap) (i : Int) (next_ : (Int → Heap → Prop)) (h_9 : Heap) : Prop :=
 0 ≤ (i : Int) ∧ (i : Int) < (s.size : Nat) ∧ PIf (((byteAt s i) : Int) = 49)
 (0 ≤ (i : Int) ∧ (i : Int) < ((Int.toNat ((s.size : Nat) : Int)) : Nat) ∧ StoreH h_9 (Addr.add (Addr.mk (h_3).size 0 none) (Int.toNat i * 1)) [(.bool true)] fun h_10 => next_ ((IntKind.wrap .i64 (i + 1))) h_10)
 (0 ≤ (i : Int) ∧ (i : Int) < ((Int.toNat ((s.size : Nat) : Int)) : Nat) ∧ StoreH h_9 (Addr.add (Addr.mk (h_3).size 0 none) (Int.toNat i * 1)) [(.bool false)] fun h_11 => next_ ((IntKind.wrap .i64 (i + 1))) h_11)
def J35_2  (P : Program) (R : Value → Heap → Prop) (h : Heap) (s : ByteArray) (h_3 : Heap) (i : Int) (next_ : (Int → Heap → Prop)) (h_6 : Heap) : Prop :=
 0 ≤ (i : Int) ∧ (i : Int) < (s.size : Nat) ∧ PIf (((byteAt s i) : Int) = 48)
 (J35_3 s h_3 i next_ h_6)
 (0 ≤ (i : Int) ∧ (i : Int) < (s.size : Nat) ∧ PIf (((byteAt s i) : Int) = 49)
 (J35_3 s h_3 i next_ h_6)
 (CallsH P 58 #[(.int .i64 i), (.int .i64 21)] h_6 fun v1 h_7 =>
 ∃ (t4 : Int), ∃ (t5 : Int), v1 = (.agg #[(.int .i64 t4), (.int .i64 t5)]) ∧ StoreH h_7 (Addr.mk (h).size 0 none) [(.int .i64 t4), (.int .i64 t5)] fun h_8 => ∃ (t6 : Int), ∃ (t7 : Int), cellsH h_8 (Addr.mk (h).size 0 none) 0 [(.int .i64 t6), (.int .i64 t7)] ∧ R (.tuple #[(.slice none 0 0), (.agg #[(.int .i64 t6), (.int .i64 t7)])]) h_8))
def J35_1  (R : Value → Heap → Prop) (h : Heap) (s : ByteArray) (h_3 : Heap) (h_12 : Heap) : Prop :=
 StoreH h_12 (Addr.mk (h).size 0 none) [(.int .i64 0), (.int .i64 0)] fun h_13 => ∃ (t8 : Int), ∃ (t9 : Int), cellsH h_13 (Addr.mk (h).size 0 none) 0 [(.int .i64 t8), (.int .i64 t9)] ∧ R (.tuple #[(.slice (some (Addr.mk (h_3).size 0 none)) (Int.toNat ((s.size : Nat) : Int)) (Int.toNat ((s.size : Nat) : Int))), (.agg #[(.int .i64 t8), (.int .i64 t9)])]) h_13
def B35_4 (P : Program) (R : Value → Heap → Prop) (h : Heap) (s : ByteArray) (h_3 : Heap) (i : Int) (h_5 : Heap) (next_ : Int → Heap → Prop) : Prop :=
 PIf ((i : Int) < ((s.size : Nat) : Int))
 (J35_2 P R h s h_3 i next_ h_5)
 (J35_1 R h s h_3 h_5)
def J35_0  (P : Program) (R : Value → Heap → Prop) (h : Heap) (s : ByteArray) (h_3 : Heap) : Prop :=
 0 ≤ (((s.size : Nat) : Int) : Int) ∧ (((s.size : Nat) : Int) : Int) ≤ ((s.size : Nat) : Int) ∧ (1 : Int) * ((s.size : Nat) : Int) ≤ 281474976710656 ∧ let h_4 : Heap := (h_3).push (.cells (zeroRow #[(.bool false)] (Int.toNat ((s.size : Nat) : Int) * 1)).toArray 4); LoopT (σ := Int) (fun st_ h_st nx_st => B35_4 P R h s h_3 (st_) h_st nx_st) (0) h_4
def VC35 (P : Program) (s : ByteArray) (R : Value → Heap → Prop) (h : Heap) : Prop :=
 let h_ : Heap := (h).push (.cells #[(.int .i64 0), (.int .i64 0)] 25); PIf ((16384 : Int) < ((s.size : Nat) : Int))
 (CallsH P 58 #[(.int .i64 0), (.int .i64 2)] h_ fun v h_1 =>
 ∃ (t : Int), ∃ (t1 : Int), v = (.agg #[(.int .i64 t), (.int .i64 t1)]) ∧ StoreH h_1 (Addr.mk (h).size 0 none) [(.int .i64 t), (.int .i64 t1)] fun h_2 => ∃ (t2 : Int), ∃ (t3 : Int), cellsH h_2 (Addr.mk (h).size 0 none) 0 [(.int .i64 t2), (.int .i64 t3)] ∧ R (.tuple #[(.slice none 0 0), (.agg #[(.int .i64 t2), (.int .i64 t3)])]) h_2)
 (J35_0 P R h s h_)
theorem vc35 (P : Program) (s : ByteArray) (R : Value → Heap → Prop) (h : Heap) : fnC P ret35 code35 [(.string s)] h R = VC35 P s R h := by kernel_rfl
theorem run35 (s : ByteArray) (R : Value → Heap → Prop) (h : Heap) (hv : VC35 Tryd.prog s R h) : CallsH Tryd.prog 35 #[(.string s)] h R := calls_of_fnC (Checked.mixed Tryd.checked) Tryd.func35 comp35 (Nat.le_of_ble_eq_true rfl) (by rw [vc35]; exact hv)

/-! 36: trestle/words.Row -/
def code36 : SCode := (.seq (.region false [⟨(some 4), .mv (.const (.slice none 0 0)), none⟩,
  ⟨(some 5), .mv (.const (.int .i64 0)), none⟩]) (.seq (.seq (.region false [⟨(some 8), .mv (.tmp 1), none⟩,
  ⟨(some 9), .icmp .lss .i64 (.tmp 8) (.const (.int .i64 0)), none⟩,
  ⟨(some 10), .mv (.tmp 9), none⟩,
  ⟨(some 11), .mv (.tmp 1), (some (10, false))⟩,
  ⟨(some 12), .icmp .gtr .i64 (.tmp 11) (.const (.int .i64 62)), (some (10, false))⟩,
  ⟨(some 13), .pick (.tmp 10) (.const (.bool true)) (.tmp 12), none⟩,
  ⟨(some 14), .mv (.tmp 13), none⟩,
  ⟨(some 15), .mv (.tmp 0), (some (14, false))⟩,
  ⟨(some 16), .icmp .lss .i64 (.tmp 15) (.const (.int .i64 0)), (some (14, false))⟩,
  ⟨(some 17), .pick (.tmp 14) (.const (.bool true)) (.tmp 16), none⟩,
  ⟨(some 18), .mv (.tmp 17), none⟩,
  ⟨(some 19), .mv (.tmp 0), (some (18, false))⟩,
  ⟨(some 20), .mv (.tmp 1), (some (18, false))⟩,
  ⟨(some 21), .shv .shr .i64 (.tmp 19) (.tmp 20), (some (18, false))⟩,
  ⟨(some 22), .icmp .neq .i64 (.tmp 21) (.const (.int .i64 0)), (some (18, false))⟩,
  ⟨(some 23), .pick (.tmp 18) (.const (.bool true)) (.tmp 22), none⟩]) (.cond (.tmp 23) (.seq (.region false [⟨(some 4), .mv (.const (.slice none 0 0)), none⟩,
  ⟨(some 5), .mv (.const (.int .i64 1)), none⟩]) .ret) .skip)) (.seq (.region false [⟨(some 24), .mv (.tmp 1), none⟩,
  ⟨(some 25), .mkS 4 1 1 #[(.bool false)] (.tmp 24) (.tmp 24), none⟩,
  ⟨(some 6), .mv (.tmp 25), none⟩]) (.seq (.seq (.region false [⟨(some 26), .mv (.tmp 6), none⟩,
  ⟨(some 27), .len (.tmp 26), none⟩,
  ⟨(some 28), .mv (.const (.int .i64 0)), none⟩]) (.block 0 (.loop [(28, .int .i64)] [29, 30, 7, 31, 32, 33, 34, 35, 36, 37, 38, 39, 28] (.seq (.region false [⟨(some 29), .icmp .lss .i64 (.tmp 28) (.tmp 27), none⟩]) (.seq (.cond (.tmp 29) .skip (.exit 0)) (.seq (.block 1 (.seq (.region false [⟨(some 30), .mv (.tmp 28), none⟩,
  ⟨(some 7), .mv (.tmp 30), none⟩]) (.region false [⟨(some 31), .mv (.tmp 6), none⟩,
  ⟨(some 32), .mv (.tmp 7), none⟩,
  ⟨(some 33), .mv (.tmp 0), none⟩,
  ⟨(some 34), .mv (.tmp 7), none⟩,
  ⟨(some 35), .shv .shr .i64 (.tmp 33) (.tmp 34), none⟩,
  ⟨(some 36), .bits .and .i64 (.tmp 35) (.const (.int .i64 1)), none⟩,
  ⟨(some 37), .icmp .eql .i64 (.tmp 36) (.const (.int .i64 1)), none⟩,
  ⟨(some 38), .idxA 1 (.tmp 31) (.tmp 32), none⟩,
  ⟨none, .st 1 (.tmp 38) (.tmp 37), none⟩]))) (.region false [⟨(some 39), .arith .add .i64 (.tmp 28) (.const (.int .i64 1)), none⟩,
  ⟨(some 28), .mv (.tmp 39), none⟩]))))))) (.seq (.region false [⟨(some 40), .mv (.tmp 6), none⟩,
  ⟨(some 4), .mv (.tmp 40), none⟩,
  ⟨(some 5), .mv (.const (.int .i64 0)), none⟩]) .ret)))))
def loops36 : List (List (Nat × Shp)) := [[(28, .int .i64)]]
def ret36 : List RV := [.tmp 4, .tmp 5]
theorem comp36 : compF Tryd.prog Tryd.f36 loops36 = some (41, ret36, code36) := by kernel_rfl
def J36_2  (index : Int) (n : Int) (h_ : Heap) (t : Int) (next_ : (Int → Heap → Prop)) (h_3 : Heap) : Prop :=
 0 ≤ (t : Int) ∧ PIf (((bop .and .i64 (index / 2 ^ min (Int.toNat t) (IntKind.bits .i64)) 1) : Int) = 1)
 (0 ≤ (t : Int) ∧ (t : Int) < ((Int.toNat n) : Nat) ∧ StoreH h_3 (Addr.add (Addr.mk (h_).size 0 none) (Int.toNat t * 1)) [(.bool true)] fun h_4 => next_ ((IntKind.wrap .i64 (t + 1))) h_4)
 (0 ≤ (t : Int) ∧ (t : Int) < ((Int.toNat n) : Nat) ∧ StoreH h_3 (Addr.add (Addr.mk (h_).size 0 none) (Int.toNat t * 1)) [(.bool false)] fun h_5 => next_ ((IntKind.wrap .i64 (t + 1))) h_5)
def J36_1  (R : Value → Heap → Prop) (n : Int) (h_ : Heap) (h_6 : Heap) : Prop :=
 R (.tuple #[(.slice (some (Addr.mk (h_).size 0 none)) (Int.toNat n) (Int.toNat n)), (.int .i64 0)]) h_6
def B36_4 (R : Value → Heap → Prop) (index : Int) (n : Int) (h_ : Heap) (t : Int) (h_2 : Heap) (next_ : Int → Heap → Prop) : Prop :=
 PIf ((t : Int) < (((Int.toNat n) : Nat) : Int))
 (J36_2 index n h_ t next_ h_2)
 (J36_1 R n h_ h_2)
def J36_0  (R : Value → Heap → Prop) (index : Int) (n : Int) (h_ : Heap) : Prop :=
 0 ≤ (n : Int) ∧ (n : Int) ≤ n ∧ (1 : Int) * n ≤ 281474976710656 ∧ let h_1 : Heap := (h_).push (.cells (zeroRow #[(.bool false)] (Int.toNat n * 1)).toArray 4); LoopT (σ := Int) (fun st_ h_st nx_st => B36_4 R index n h_ (st_) h_st nx_st) (0) h_1
def VC36 (P : Program) (index : Int) (n : Int) (R : Value → Heap → Prop) (h : Heap) : Prop :=
 PIf ((n : Int) < 0)
 (R (.tuple #[(.slice none 0 0), (.int .i64 1)]) h)
 (PIf ((62 : Int) < n)
 (R (.tuple #[(.slice none 0 0), (.int .i64 1)]) h)
 (PIf ((index : Int) < 0)
 (R (.tuple #[(.slice none 0 0), (.int .i64 1)]) h)
 (0 ≤ (n : Int) ∧ PIf (((index / 2 ^ min (Int.toNat n) (IntKind.bits .i64)) : Int) = 0)
 (J36_0 R index n h)
 (R (.tuple #[(.slice none 0 0), (.int .i64 1)]) h))))
theorem vc36 (P : Program) (index : Int) (n : Int) (R : Value → Heap → Prop) (h : Heap) : fnC P ret36 code36 [(.int .i64 index), (.int .i64 n)] h R = VC36 P index n R h := by kernel_rfl
theorem run36 (index : Int) (n : Int) (R : Value → Heap → Prop) (h : Heap) (hv : VC36 Tryd.prog index n R h) : CallsH Tryd.prog 36 #[(.int .i64 index), (.int .i64 n)] h R := calls_of_fnC (Checked.mixed Tryd.checked) Tryd.func36 comp36 (Nat.le_of_ble_eq_true rfl) (by rw [vc36]; exact hv)

/-! 37: trestle/trestleref02.Row -/
def code37 : SCode := (.seq (.region false [⟨(some 4), .mv (.const (.slice none 0 0)), none⟩,
  ⟨(some 5), .mv (.const (.int .i64 0)), none⟩]) (.seq (.seq (.region false [⟨(some 6), .mv (.tmp 1), none⟩,
  ⟨(some 7), .icmp .lss .i64 (.tmp 6) (.const (.int .i64 0)), none⟩,
  ⟨(some 8), .mv (.tmp 7), none⟩,
  ⟨(some 9), .mv (.tmp 1), (some (8, false))⟩,
  ⟨(some 10), .icmp .gtr .i64 (.tmp 9) (.const (.int .i64 62)), (some (8, false))⟩,
  ⟨(some 11), .pick (.tmp 8) (.const (.bool true)) (.tmp 10), none⟩,
  ⟨(some 12), .mv (.tmp 11), none⟩,
  ⟨(some 13), .mv (.tmp 0), (some (12, false))⟩,
  ⟨(some 14), .icmp .lss .i64 (.tmp 13) (.const (.int .i64 0)), (some (12, false))⟩,
  ⟨(some 15), .pick (.tmp 12) (.const (.bool true)) (.tmp 14), none⟩,
  ⟨(some 16), .mv (.tmp 15), none⟩,
  ⟨(some 17), .mv (.tmp 0), (some (16, false))⟩,
  ⟨(some 18), .conv .u64 (.tmp 17), (some (16, false))⟩,
  ⟨(some 19), .mv (.tmp 1), (some (16, false))⟩,
  ⟨(some 20), .call 53 [(.tmp 19)] (.val (.one (.int .u64))), (some (16, false))⟩,
  ⟨(some 21), .icmp .geq .u64 (.tmp 18) (.tmp 20), (some (16, false))⟩,
  ⟨(some 22), .pick (.tmp 16) (.const (.bool true)) (.tmp 21), none⟩]) (.cond (.tmp 22) (.seq (.region false [⟨(some 4), .mv (.const (.slice none 0 0)), none⟩,
  ⟨(some 5), .mv (.const (.int .i64 1)), none⟩]) .ret) .skip)) (.seq (.region false [⟨(some 23), .mv (.tmp 0), none⟩,
  ⟨(some 24), .mv (.tmp 1), none⟩,
  ⟨(some 25), .call 61 [(.tmp 23), (.tmp 24)] (.val (.one (.slice))), none⟩,
  ⟨(some 4), .mv (.tmp 25), none⟩,
  ⟨(some 5), .mv (.const (.int .i64 0)), none⟩]) .ret)))
def loops37 : List (List (Nat × Shp)) := []
def ret37 : List RV := [.tmp 4, .tmp 5]
theorem comp37 : compF Tryd.prog Tryd.f37 loops37 = some (26, ret37, code37) := by kernel_rfl
def VC37 (P : Program) (index : Int) (n : Int) (R : Value → Heap → Prop) (h : Heap) : Prop :=
 PIf ((n : Int) < 0)
 (R (.tuple #[(.slice none 0 0), (.int .i64 1)]) h)
 (PIf ((62 : Int) < n)
 (R (.tuple #[(.slice none 0 0), (.int .i64 1)]) h)
 (PIf ((index : Int) < 0)
 (R (.tuple #[(.slice none 0 0), (.int .i64 1)]) h)
 (CallsH P 53 #[(.int .i64 n)] h fun v h_ =>
 ∃ (t : Int), v = (.int .u64 t) ∧ PIf ((t : Int) ≤ (IntKind.wrap .u64 index))
 (R (.tuple #[(.slice none 0 0), (.int .i64 1)]) h_)
 (CallsH P 61 #[(.int .i64 index), (.int .i64 n)] h_ fun v1 h_1 =>
 ∃ (A : Option Addr), ∃ (N : Nat), ∃ (C : Nat), v1 = (.slice A N C) ∧ R (.tuple #[(.slice A N C), (.int .i64 0)]) h_1))))
theorem vc37 (P : Program) (index : Int) (n : Int) (R : Value → Heap → Prop) (h : Heap) : fnC P ret37 code37 [(.int .i64 index), (.int .i64 n)] h R = VC37 P index n R h := by kernel_rfl
theorem run37 (index : Int) (n : Int) (R : Value → Heap → Prop) (h : Heap) (hv : VC37 Tryd.prog index n R h) : CallsH Tryd.prog 37 #[(.int .i64 index), (.int .i64 n)] h R := calls_of_fnC (Checked.mixed Tryd.checked) Tryd.func37 comp37 (Nat.le_of_ble_eq_true rfl) (by rw [vc37]; exact hv)

/-! 38: trestle/words.Unpack -/
def code38 : SCode := (.seq (.region false [⟨(some 4), .mv (.const (.slice none 0 0)), none⟩,
  ⟨(some 5), .mv (.const (.int .i64 0)), none⟩]) (.seq (.seq (.region false [⟨(some 8), .mv (.tmp 1), none⟩,
  ⟨(some 9), .icmp .lss .i64 (.tmp 8) (.const (.int .i64 0)), none⟩,
  ⟨(some 10), .mv (.tmp 9), none⟩,
  ⟨(some 11), .mv (.tmp 1), (some (10, false))⟩,
  ⟨(some 12), .icmp .gtr .i64 (.tmp 11) (.const (.int .i64 16384)), (some (10, false))⟩,
  ⟨(some 13), .pick (.tmp 10) (.const (.bool true)) (.tmp 12), none⟩]) (.cond (.tmp 13) (.seq (.region false [⟨(some 4), .mv (.const (.slice none 0 0)), none⟩,
  ⟨(some 5), .mv (.const (.int .i64 1)), none⟩]) .ret) .skip)) (.seq (.seq (.region false [⟨(some 14), .mv (.tmp 0), none⟩,
  ⟨(some 15), .len (.tmp 14), none⟩,
  ⟨(some 16), .mv (.tmp 1), none⟩,
  ⟨(some 17), .call 62 [(.tmp 16)] (.val (.one (.int .i64))), none⟩,
  ⟨(some 18), .icmp .neq .i64 (.tmp 15) (.tmp 17), none⟩,
  ⟨(some 19), .mv (.tmp 18), none⟩,
  ⟨(some 20), .mv (.tmp 1), (some (19, false))⟩,
  ⟨(some 21), .bits .and .i64 (.tmp 20) (.const (.int .i64 63)), (some (19, false))⟩,
  ⟨(some 22), .icmp .neq .i64 (.tmp 21) (.const (.int .i64 0)), (some (19, false))⟩,
  ⟨(some 23), .mv (.tmp 22), (some (19, false))⟩,
  ⟨(some 24), .mv (.tmp 0), (some (23, true))⟩,
  ⟨(some 25), .mv (.tmp 0), (some (23, true))⟩,
  ⟨(some 26), .len (.tmp 25), (some (23, true))⟩,
  ⟨(some 27), .arith .sub .i64 (.tmp 26) (.const (.int .i64 1)), (some (23, true))⟩,
  ⟨(some 28), .idxA 1 (.tmp 24) (.tmp 27), (some (23, true))⟩,
  ⟨(some 29), .ld (.int .u64) (.tmp 28), (some (23, true))⟩,
  ⟨(some 30), .mv (.tmp 1), (some (23, true))⟩,
  ⟨(some 31), .bits .and .i64 (.tmp 30) (.const (.int .i64 63)), (some (23, true))⟩,
  ⟨(some 32), .shv .shr .u64 (.tmp 29) (.tmp 31), (some (23, true))⟩,
  ⟨(some 33), .icmp .neq .u64 (.tmp 32) (.const (.int .u64 0)), (some (23, true))⟩,
  ⟨(some 34), .pick (.tmp 23) (.tmp 33) (.const (.bool false)), (some (19, false))⟩,
  ⟨(some 35), .pick (.tmp 19) (.const (.bool true)) (.tmp 34), none⟩]) (.cond (.tmp 35) (.seq (.region false [⟨(some 4), .mv (.const (.slice none 0 0)), none⟩,
  ⟨(some 5), .mv (.const (.int .i64 4)), none⟩]) .ret) .skip)) (.seq (.region false [⟨(some 36), .mv (.tmp 1), none⟩,
  ⟨(some 37), .mkS 4 1 1 #[(.bool false)] (.tmp 36) (.tmp 36), none⟩,
  ⟨(some 6), .mv (.tmp 37), none⟩]) (.seq (.seq (.region false [⟨(some 38), .mv (.tmp 6), none⟩,
  ⟨(some 39), .len (.tmp 38), none⟩,
  ⟨(some 40), .mv (.const (.int .i64 0)), none⟩]) (.block 0 (.loop [(40, .int .i64)] [41, 42, 7, 43, 44, 45, 46, 47, 48, 49, 40] (.seq (.region false [⟨(some 41), .icmp .lss .i64 (.tmp 40) (.tmp 39), none⟩]) (.seq (.cond (.tmp 41) .skip (.exit 0)) (.seq (.block 1 (.seq (.region false [⟨(some 42), .mv (.tmp 40), none⟩,
  ⟨(some 7), .mv (.tmp 42), none⟩]) (.region false [⟨(some 43), .mv (.tmp 6), none⟩,
  ⟨(some 44), .mv (.tmp 7), none⟩,
  ⟨(some 45), .mv (.tmp 0), none⟩,
  ⟨(some 46), .mv (.tmp 7), none⟩,
  ⟨(some 47), .call 63 [(.tmp 45), (.tmp 46)] (.val (.one (.bool))), none⟩,
  ⟨(some 48), .idxA 1 (.tmp 43) (.tmp 44), none⟩,
  ⟨none, .st 1 (.tmp 48) (.tmp 47), none⟩]))) (.region false [⟨(some 49), .arith .add .i64 (.tmp 40) (.const (.int .i64 1)), none⟩,
  ⟨(some 40), .mv (.tmp 49), none⟩]))))))) (.seq (.region false [⟨(some 50), .mv (.tmp 6), none⟩,
  ⟨(some 4), .mv (.tmp 50), none⟩,
  ⟨(some 5), .mv (.const (.int .i64 0)), none⟩]) .ret))))))
def loops38 : List (List (Nat × Shp)) := [[(40, .int .i64)]]
def ret38 : List RV := [.tmp 4, .tmp 5]
theorem comp38 : compF Tryd.prog Tryd.f38 loops38 = some (51, ret38, code38) := by kernel_rfl
def J38_3  (P : Program) (wA : (Option Addr)) (wN : Nat) (wC : Nat) (n : Int) (h_2 : Heap) (t2 : Int) (next_ : (Int → Heap → Prop)) (h_5 : Heap) : Prop :=
 CallsH P 63 #[(.slice wA wN wC), (.int .i64 t2)] h_5 fun v1 h_6 =>
 ∃ (t3 : Bool), v1 = (.bool t3) ∧ 0 ≤ (t2 : Int) ∧ (t2 : Int) < ((Int.toNat n) : Nat) ∧ StoreH h_6 (Addr.add (Addr.mk (h_2).size 0 none) (Int.toNat t2 * 1)) [(.bool t3)] fun h_7 => next_ ((IntKind.wrap .i64 (t2 + 1))) h_7
def J38_2  (R : Value → Heap → Prop) (n : Int) (h_2 : Heap) (h_8 : Heap) : Prop :=
 R (.tuple #[(.slice (some (Addr.mk (h_2).size 0 none)) (Int.toNat n) (Int.toNat n)), (.int .i64 0)]) h_8
def B38_5 (P : Program) (R : Value → Heap → Prop) (wA : (Option Addr)) (wN : Nat) (wC : Nat) (n : Int) (h_2 : Heap) (t2 : Int) (h_4 : Heap) (next_ : Int → Heap → Prop) : Prop :=
 PIf ((t2 : Int) < (((Int.toNat n) : Nat) : Int))
 (J38_3 P wA wN wC n h_2 t2 next_ h_4)
 (J38_2 R n h_2 h_4)
def J38_1  (P : Program) (R : Value → Heap → Prop) (wA : (Option Addr)) (wN : Nat) (wC : Nat) (n : Int) (h_2 : Heap) : Prop :=
 0 ≤ (n : Int) ∧ (n : Int) ≤ n ∧ (1 : Int) * n ≤ 281474976710656 ∧ let h_3 : Heap := (h_2).push (.cells (zeroRow #[(.bool false)] (Int.toNat n * 1)).toArray 4); LoopT (σ := Int) (fun st_ h_st nx_st => B38_5 P R wA wN wC n h_2 (st_) h_st nx_st) (0) h_3
def J38_0  (P : Program) (R : Value → Heap → Prop) (wA : (Option Addr)) (wN : Nat) (wC : Nat) (n : Int) (h_ : Heap) : Prop :=
 CallsH P 62 #[(.int .i64 n)] h_ fun v h_1 =>
 ∃ (t : Int), v = (.int .i64 t) ∧ PIf ((((wN : Nat) : Int) : Int) = t)
 (PIf (((bop .and .i64 n 63) : Int) = 0)
 (J38_1 P R wA wN wC n h_1)
 (0 ≤ ((IntKind.wrap .i64 (((wN : Nat) : Int) - 1)) : Int) ∧ ((IntKind.wrap .i64 (((wN : Nat) : Int) - 1)) : Int) < (wN : Nat) ∧ AtP wA fun ad => ∃ (t1 : Int), cellH h_1 (Addr.add ad (Int.toNat (IntKind.wrap .i64 (((wN : Nat) : Int) - 1)) * 1)) = some (.int .u64 t1) ∧ 0 ≤ ((bop .and .i64 n 63) : Int) ∧ PIf (((t1 / 2 ^ min (Int.toNat (bop .and .i64 n 63)) (IntKind.bits .u64)) : Int) = 0)
 (J38_1 P R wA wN wC n h_1)
 (R (.tuple #[(.slice none 0 0), (.int .i64 4)]) h_1)))
 (R (.tuple #[(.slice none 0 0), (.int .i64 4)]) h_1)
def VC38 (P : Program) (wA : Option Addr) (wN : Nat) (wC : Nat) (n : Int) (R : Value → Heap → Prop) (h : Heap) : Prop :=
 PIf ((n : Int) < 0)
 (R (.tuple #[(.slice none 0 0), (.int .i64 1)]) h)
 (PIf ((16384 : Int) < n)
 (R (.tuple #[(.slice none 0 0), (.int .i64 1)]) h)
 (J38_0 P R wA wN wC n h))
theorem vc38 (P : Program) (wA : Option Addr) (wN : Nat) (wC : Nat) (n : Int) (R : Value → Heap → Prop) (h : Heap) : fnC P ret38 code38 [(.slice wA wN wC), (.int .i64 n)] h R = VC38 P wA wN wC n R h := by kernel_rfl
theorem run38 (wA : Option Addr) (wN : Nat) (wC : Nat) (n : Int) (R : Value → Heap → Prop) (h : Heap) (hv : VC38 Tryd.prog wA wN wC n R h) : CallsH Tryd.prog 38 #[(.slice wA wN wC), (.int .i64 n)] h R := calls_of_fnC (Checked.mixed Tryd.checked) Tryd.func38 comp38 (Nat.le_of_ble_eq_true rfl) (by rw [vc38]; exact hv)

/-! 39: trestle/trestleref02.Unpack -/
def code39 : SCode := (.seq (.region false [⟨(some 4), .mv (.const (.slice none 0 0)), none⟩,
  ⟨(some 5), .mv (.const (.int .i64 0)), none⟩]) (.seq (.seq (.region false [⟨(some 8), .mv (.tmp 1), none⟩,
  ⟨(some 9), .icmp .lss .i64 (.tmp 8) (.const (.int .i64 0)), none⟩,
  ⟨(some 10), .mv (.tmp 9), none⟩,
  ⟨(some 11), .mv (.tmp 1), (some (10, false))⟩,
  ⟨(some 12), .icmp .gtr .i64 (.tmp 11) (.const (.int .i64 16384)), (some (10, false))⟩,
  ⟨(some 13), .pick (.tmp 10) (.const (.bool true)) (.tmp 12), none⟩]) (.cond (.tmp 13) (.seq (.region false [⟨(some 4), .mv (.const (.slice none 0 0)), none⟩,
  ⟨(some 5), .mv (.const (.int .i64 1)), none⟩]) .ret) .skip)) (.seq (.seq (.region false [⟨(some 14), .mv (.tmp 0), none⟩,
  ⟨(some 15), .len (.tmp 14), none⟩,
  ⟨(some 16), .mv (.tmp 1), none⟩,
  ⟨(some 17), .arith .add .i64 (.tmp 16) (.const (.int .i64 63)), none⟩,
  ⟨(some 18), .divc .quo .i64 (.tmp 17) 64, none⟩,
  ⟨(some 19), .icmp .neq .i64 (.tmp 15) (.tmp 18), none⟩]) (.cond (.tmp 19) (.seq (.region false [⟨(some 4), .mv (.const (.slice none 0 0)), none⟩,
  ⟨(some 5), .mv (.const (.int .i64 4)), none⟩]) .ret) .skip)) (.seq (.region false [⟨(some 20), .mv (.tmp 1), none⟩,
  ⟨(some 21), .mkS 4 1 1 #[(.bool false)] (.tmp 20) (.tmp 20), none⟩,
  ⟨(some 6), .mv (.tmp 21), none⟩]) (.seq (.seq (.region false [⟨(some 7), .mv (.const (.int .i64 0)), none⟩]) (.block 0 (.loop [(7, .int .i64)] [22, 23, 24, 27, 28, 29, 30, 31, 32, 33, 34, 35, 36, 37, 38, 39, 40, 25, 26, 7] (.seq (.seq (.region false [⟨(some 22), .mv (.tmp 7), none⟩,
  ⟨(some 23), .mv (.tmp 1), none⟩,
  ⟨(some 24), .icmp .lss .i64 (.tmp 22) (.tmp 23), none⟩]) (.cond (.tmp 24) .skip (.exit 0))) (.seq (.block 1 (.region true [⟨(some 27), .mv (.tmp 6), none⟩,
  ⟨(some 28), .mv (.tmp 7), none⟩,
  ⟨(some 29), .mv (.tmp 0), none⟩,
  ⟨(some 30), .mv (.tmp 7), none⟩,
  ⟨(some 31), .divc .quo .i64 (.tmp 30) 64, none⟩,
  ⟨(some 32), .idxA 1 (.tmp 29) (.tmp 31), none⟩,
  ⟨(some 33), .ld (.int .u64) (.tmp 32), none⟩,
  ⟨(some 34), .mv (.tmp 7), none⟩,
  ⟨(some 35), .divc .rem .i64 (.tmp 34) 64, none⟩,
  ⟨(some 36), .call 53 [(.tmp 35)] (.val (.one (.int .u64))), none⟩,
  ⟨(some 37), .divv .quo .u64 (.tmp 33) (.tmp 36), none⟩,
  ⟨(some 38), .divc .rem .u64 (.tmp 37) 2, none⟩,
  ⟨(some 39), .icmp .eql .u64 (.tmp 38) (.const (.int .u64 1)), none⟩,
  ⟨(some 40), .idxA 1 (.tmp 27) (.tmp 28), none⟩,
  ⟨none, .st 1 (.tmp 40) (.tmp 39), none⟩])) (.region false [⟨(some 25), .mv (.tmp 7), none⟩,
  ⟨(some 26), .arith .add .i64 (.tmp 25) (.const (.int .i64 1)), none⟩,
  ⟨(some 7), .mv (.tmp 26), none⟩])))))) (.seq (.seq (.region false [⟨(some 41), .mv (.tmp 6), none⟩,
  ⟨(some 42), .call 51 [(.tmp 41)] (.val (.one (.slice))), none⟩,
  ⟨(some 43), .mv (.tmp 0), none⟩,
  ⟨(some 44), .call 19 [(.tmp 42), (.tmp 43)] (.val (.one (.bool))), none⟩,
  ⟨(some 45), .not (.tmp 44), none⟩]) (.cond (.tmp 45) (.seq (.region false [⟨(some 4), .mv (.const (.slice none 0 0)), none⟩,
  ⟨(some 5), .mv (.const (.int .i64 4)), none⟩]) .ret) .skip)) (.seq (.region false [⟨(some 46), .mv (.tmp 6), none⟩,
  ⟨(some 4), .mv (.tmp 46), none⟩,
  ⟨(some 5), .mv (.const (.int .i64 0)), none⟩]) .ret)))))))
def loops39 : List (List (Nat × Shp)) := [[(7, .int .i64)]]
def ret39 : List RV := [.tmp 4, .tmp 5]
theorem comp39 : compF Tryd.prog Tryd.f39 loops39 = some (47, ret39, code39) := by kernel_rfl
def J39_3  (P : Program) (wA : (Option Addr)) (wN : Nat) (n : Int) (h_1 : Heap) (i : Int) (next_ : (Int → Heap → Prop)) (h_4 : Heap) : Prop :=
 0 ≤ ((IntKind.wrap .i64 (Int.tdiv i 64)) : Int) ∧ ((IntKind.wrap .i64 (Int.tdiv i 64)) : Int) < (wN : Nat) ∧ AtP wA fun ad => (Addr.block (Addr.add ad (Int.toNat (IntKind.wrap .i64 (Int.tdiv i 64)) * 1))) < (h_4).size ∧ ∃ (t : Int), cellH h_4 (Addr.add ad (Int.toNat (IntKind.wrap .i64 (Int.tdiv i 64)) * 1)) = some (.int .u64 t) ∧ CallsH P 53 #[(.int .i64 (Int.tmod i 64))] h_4 fun v h_5 =>
 ∃ (t1 : Int), v = (.int .u64 t1) ∧ AgreeH (h_4).size h_4 h_5 ∧ (t1 : Int) ≠ 0 ∧ PIf (((Int.tmod (IntKind.wrap .u64 (Int.tdiv t t1)) 2) : Int) = 1)
 (0 ≤ (i : Int) ∧ (i : Int) < ((Int.toNat n) : Nat) ∧ StoreH h_5 (Addr.add (Addr.mk (h_1).size 0 none) (Int.toNat i * 1)) [(.bool true)] fun h_6 => next_ ((IntKind.wrap .i64 (i + 1))) h_6)
 (0 ≤ (i : Int) ∧ (i : Int) < ((Int.toNat n) : Nat) ∧ StoreH h_5 (Addr.add (Addr.mk (h_1).size 0 none) (Int.toNat i * 1)) [(.bool false)] fun h_7 => next_ ((IntKind.wrap .i64 (i + 1))) h_7)
def J39_2  (P : Program) (R : Value → Heap → Prop) (wA : (Option Addr)) (wN : Nat) (wC : Nat) (n : Int) (h_1 : Heap) (h_8 : Heap) : Prop :=
 CallsH P 51 #[(.slice (some (Addr.mk (h_1).size 0 none)) (Int.toNat n) (Int.toNat n))] h_8 fun v1 h_9 =>
 ∃ (A : Option Addr), ∃ (N : Nat), ∃ (C : Nat), v1 = (.slice A N C) ∧ CallsH P 19 #[(.slice A N C), (.slice wA wN wC)] h_9 fun v2 h_10 =>
 ∃ (t2 : Bool), v2 = (.bool t2) ∧ BIf (!t2) (R (.tuple #[(.slice none 0 0), (.int .i64 4)]) h_10) (R (.tuple #[(.slice (some (Addr.mk (h_1).size 0 none)) (Int.toNat n) (Int.toNat n)), (.int .i64 0)]) h_10)
def B39_4 (P : Program) (R : Value → Heap → Prop) (wA : (Option Addr)) (wN : Nat) (wC : Nat) (n : Int) (h_1 : Heap) (i : Int) (h_3 : Heap) (next_ : Int → Heap → Prop) : Prop :=
 PIf ((i : Int) < n)
 (J39_3 P wA wN n h_1 i next_ h_3)
 (J39_2 P R wA wN wC n h_1 h_3)
def J39_1  (P : Program) (R : Value → Heap → Prop) (wA : (Option Addr)) (wN : Nat) (wC : Nat) (n : Int) (h_1 : Heap) : Prop :=
 0 ≤ (n : Int) ∧ (n : Int) ≤ n ∧ (1 : Int) * n ≤ 281474976710656 ∧ let h_2 : Heap := (h_1).push (.cells (zeroRow #[(.bool false)] (Int.toNat n * 1)).toArray 4); LoopT (σ := Int) (fun st_ h_st nx_st => B39_4 P R wA wN wC n h_1 (st_) h_st nx_st) (0) h_2
def J39_0  (P : Program) (R : Value → Heap → Prop) (wA : (Option Addr)) (wN : Nat) (wC : Nat) (n : Int) (h_ : Heap) : Prop :=
 PIf ((((wN : Nat) : Int) : Int) = (IntKind.wrap .i64 (Int.tdiv (IntKind.wrap .i64 (n + 63)) 64)))
 (J39_1 P R wA wN wC n h_)
 (R (.tuple #[(.slice none 0 0), (.int .i64 4)]) h_)
def VC39 (P : Program) (wA : Option Addr) (wN : Nat) (wC : Nat) (n : Int) (R : Value → Heap → Prop) (h : Heap) : Prop :=
 PIf ((n : Int) < 0)
 (R (.tuple #[(.slice none 0 0), (.int .i64 1)]) h)
 (PIf ((16384 : Int) < n)
 (R (.tuple #[(.slice none 0 0), (.int .i64 1)]) h)
 (J39_0 P R wA wN wC n h))
theorem vc39 (P : Program) (wA : Option Addr) (wN : Nat) (wC : Nat) (n : Int) (R : Value → Heap → Prop) (h : Heap) : fnC P ret39 code39 [(.slice wA wN wC), (.int .i64 n)] h R = VC39 P wA wN wC n R h := by kernel_rfl
theorem run39 (wA : Option Addr) (wN : Nat) (wC : Nat) (n : Int) (R : Value → Heap → Prop) (h : Heap) (hv : VC39 Tryd.prog wA wN wC n R h) : CallsH Tryd.prog 39 #[(.slice wA wN wC), (.int .i64 n)] h R := calls_of_fnC (Checked.mixed Tryd.checked) Tryd.func39 comp39 (Nat.le_of_ble_eq_true rfl) (by rw [vc39]; exact hv)

/-! 40: trestle/words.Shift -/
def code40 : SCode := (.seq (.region false [⟨(some 6), .mv (.const (.slice none 0 0)), none⟩,
  ⟨(some 7), .mv (.const (.int .i64 0)), none⟩]) (.seq (.region false [⟨(some 12), .mv (.tmp 0), none⟩,
  ⟨(some 13), .mv (.tmp 1), none⟩,
  ⟨(some 14), .call 38 [(.tmp 12), (.tmp 13)] (.tup [.one (.slice), .one (.int .i64)]), none⟩,
  ⟨(some 11), .mv (.tmp 14), none⟩,
  ⟨(some 15), .extr (.tmp 11) 0, none⟩,
  ⟨(some 16), .extr (.tmp 11) 1, none⟩,
  ⟨(some 8), .mv (.tmp 15), none⟩,
  ⟨(some 9), .mv (.tmp 16), none⟩]) (.seq (.seq (.region false [⟨(some 17), .mv (.tmp 9), none⟩,
  ⟨(some 18), .icmp .neq .i64 (.tmp 17) (.const (.int .i64 0)), none⟩]) (.cond (.tmp 18) (.seq (.region false [⟨(some 19), .mv (.tmp 9), none⟩,
  ⟨(some 6), .mv (.const (.slice none 0 0)), none⟩,
  ⟨(some 7), .mv (.tmp 19), none⟩]) .ret) .skip)) (.seq (.region false [⟨(some 20), .mv (.tmp 1), none⟩,
  ⟨(some 21), .mkS 4 1 1 #[(.bool false)] (.tmp 20) (.tmp 20), none⟩,
  ⟨(some 10), .mv (.tmp 21), none⟩]) (.seq (.block 0 (.seq (.region false [⟨(some 23), .mv (.tmp 2), none⟩,
  ⟨(some 24), .icmp .geq .i64 (.tmp 23) (.const (.int .i64 0)), none⟩,
  ⟨(some 25), .mv (.tmp 24), none⟩,
  ⟨(some 26), .mv (.tmp 2), (some (25, true))⟩,
  ⟨(some 27), .mv (.tmp 1), (some (25, true))⟩,
  ⟨(some 28), .icmp .lss .i64 (.tmp 26) (.tmp 27), (some (25, true))⟩,
  ⟨(some 29), .pick (.tmp 25) (.tmp 28) (.const (.bool false)), none⟩,
  ⟨(some 22), .mv (.tmp 29), none⟩]) (.cond (.tmp 22) (.region false [⟨(some 30), .mv (.tmp 10), none⟩,
  ⟨(some 31), .mv (.tmp 2), none⟩,
  ⟨(some 32), .slc 1 (.tmp 30) (some (.tmp 31)) none, none⟩,
  ⟨(some 33), .mv (.tmp 8), none⟩,
  ⟨(some 34), .cpy 1 (.tmp 32) (.tmp 33), none⟩]) (.seq (.region false [⟨(some 36), .mv (.tmp 2), none⟩,
  ⟨(some 37), .icmp .lss .i64 (.tmp 36) (.const (.int .i64 0)), none⟩,
  ⟨(some 38), .mv (.tmp 37), none⟩,
  ⟨(some 39), .mv (.tmp 2), (some (38, true))⟩,
  ⟨(some 40), .mv (.tmp 1), (some (38, true))⟩,
  ⟨(some 41), .neg .i64 (.tmp 40), (some (38, true))⟩,
  ⟨(some 42), .icmp .gtr .i64 (.tmp 39) (.tmp 41), (some (38, true))⟩,
  ⟨(some 43), .pick (.tmp 38) (.tmp 42) (.const (.bool false)), none⟩,
  ⟨(some 35), .mv (.tmp 43), none⟩]) (.cond (.tmp 35) (.region false [⟨(some 44), .mv (.tmp 10), none⟩,
  ⟨(some 45), .mv (.tmp 8), none⟩,
  ⟨(some 46), .mv (.tmp 2), none⟩,
  ⟨(some 47), .neg .i64 (.tmp 46), none⟩,
  ⟨(some 48), .slc 1 (.tmp 45) (some (.tmp 47)) none, none⟩,
  ⟨(some 49), .cpy 1 (.tmp 44) (.tmp 48), none⟩]) .skip))))) (.seq (.region false [⟨(some 50), .mv (.tmp 10), none⟩,
  ⟨(some 51), .call 50 [(.tmp 50)] (.val (.one (.slice))), none⟩,
  ⟨(some 6), .mv (.tmp 51), none⟩,
  ⟨(some 7), .mv (.const (.int .i64 0)), none⟩]) .ret))))))
def loops40 : List (List (Nat × Shp)) := []
def ret40 : List RV := [.tmp 6, .tmp 7]
theorem comp40 : compF Tryd.prog Tryd.f40 loops40 = some (52, ret40, code40) := by kernel_rfl
def J40_0  (P : Program) (R : Value → Heap → Prop) (n : Int) (by_ : Int) (A : (Option Addr)) (N : Nat) (C : Nat) (h_1 : Heap) : Prop :=
 0 ≤ (n : Int) ∧ (n : Int) ≤ n ∧ (1 : Int) * n ≤ 281474976710656 ∧ let h_2 : Heap := (h_1).push (.cells (zeroRow #[(.bool false)] (Int.toNat n * 1)).toArray 4); PIf ((0 : Int) ≤ by_)
 (PIf ((by_ : Int) < n)
 (0 ≤ (by_ : Int) ∧ (by_ : Int) ≤ (((Int.toNat n) : Nat) : Int) ∧ ((((Int.toNat n) : Nat) : Int) : Int) ≤ ((Int.toNat n) : Nat) ∧ ∃ ys : List Value, ReadL h_2 A ys ∧ ys.length = (min N (Int.toNat (((Int.toNat n) : Nat) : Int) - Int.toNat by_)) * 1 ∧ CpyH h_2 (cutA 1 (some (Addr.mk (h_1).size 0 none)) (Int.toNat n) (Int.toNat by_)) ys fun h_3 => CallsH P 50 #[(.slice (some (Addr.mk (h_1).size 0 none)) (Int.toNat n) (Int.toNat n))] h_3 fun v1 h_4 =>
 ∃ (A1 : Option Addr), ∃ (N1 : Nat), ∃ (C1 : Nat), v1 = (.slice A1 N1 C1) ∧ R (.tuple #[(.slice A1 N1 C1), (.int .i64 0)]) h_4)
 (PIf ((by_ : Int) < 0)
 (PIf (((IntKind.wrap .i64 (0 - n)) : Int) < by_)
 (0 ≤ ((IntKind.wrap .i64 (0 - by_)) : Int) ∧ ((IntKind.wrap .i64 (0 - by_)) : Int) ≤ ((N : Nat) : Int) ∧ (((N : Nat) : Int) : Int) ≤ (C : Nat) ∧ ∃ ys1 : List Value, ReadL h_2 (cutA 1 A C (Int.toNat (IntKind.wrap .i64 (0 - by_)))) ys1 ∧ ys1.length = (min (Int.toNat ((N : Nat) : Int) - Int.toNat (IntKind.wrap .i64 (0 - by_))) (Int.toNat n)) * 1 ∧ StoreH h_2 (Addr.mk (h_1).size 0 none) ys1 fun h_5 => CallsH P 50 #[(.slice (some (Addr.mk (h_1).size 0 none)) (Int.toNat n) (Int.toNat n))] h_5 fun v2 h_6 =>
 ∃ (A2 : Option Addr), ∃ (N2 : Nat), ∃ (C2 : Nat), v2 = (.slice A2 N2 C2) ∧ R (.tuple #[(.slice A2 N2 C2), (.int .i64 0)]) h_6)
 (CallsH P 50 #[(.slice (some (Addr.mk (h_1).size 0 none)) (Int.toNat n) (Int.toNat n))] h_2 fun v3 h_7 =>
 ∃ (A3 : Option Addr), ∃ (N3 : Nat), ∃ (C3 : Nat), v3 = (.slice A3 N3 C3) ∧ R (.tuple #[(.slice A3 N3 C3), (.int .i64 0)]) h_7))
 (CallsH P 50 #[(.slice (some (Addr.mk (h_1).size 0 none)) (Int.toNat n) (Int.toNat n))] h_2 fun v4 h_8 =>
 ∃ (A4 : Option Addr), ∃ (N4 : Nat), ∃ (C4 : Nat), v4 = (.slice A4 N4 C4) ∧ R (.tuple #[(.slice A4 N4 C4), (.int .i64 0)]) h_8)))
 (PIf ((by_ : Int) < 0)
 (PIf (((IntKind.wrap .i64 (0 - n)) : Int) < by_)
 (0 ≤ ((IntKind.wrap .i64 (0 - by_)) : Int) ∧ ((IntKind.wrap .i64 (0 - by_)) : Int) ≤ ((N : Nat) : Int) ∧ (((N : Nat) : Int) : Int) ≤ (C : Nat) ∧ ∃ ys2 : List Value, ReadL h_2 (cutA 1 A C (Int.toNat (IntKind.wrap .i64 (0 - by_)))) ys2 ∧ ys2.length = (min (Int.toNat ((N : Nat) : Int) - Int.toNat (IntKind.wrap .i64 (0 - by_))) (Int.toNat n)) * 1 ∧ StoreH h_2 (Addr.mk (h_1).size 0 none) ys2 fun h_9 => CallsH P 50 #[(.slice (some (Addr.mk (h_1).size 0 none)) (Int.toNat n) (Int.toNat n))] h_9 fun v5 h_10 =>
 ∃ (A5 : Option Addr), ∃ (N5 : Nat), ∃ (C5 : Nat), v5 = (.slice A5 N5 C5) ∧ R (.tuple #[(.slice A5 N5 C5), (.int .i64 0)]) h_10)
 (CallsH P 50 #[(.slice (some (Addr.mk (h_1).size 0 none)) (Int.toNat n) (Int.toNat n))] h_2 fun v6 h_11 =>
 ∃ (A6 : Option Addr), ∃ (N6 : Nat), ∃ (C6 : Nat), v6 = (.slice A6 N6 C6) ∧ R (.tuple #[(.slice A6 N6 C6), (.int .i64 0)]) h_11))
 (CallsH P 50 #[(.slice (some (Addr.mk (h_1).size 0 none)) (Int.toNat n) (Int.toNat n))] h_2 fun v7 h_12 =>
 ∃ (A7 : Option Addr), ∃ (N7 : Nat), ∃ (C7 : Nat), v7 = (.slice A7 N7 C7) ∧ R (.tuple #[(.slice A7 N7 C7), (.int .i64 0)]) h_12))
def VC40 (P : Program) (wA : Option Addr) (wN : Nat) (wC : Nat) (n : Int) (by_ : Int) (R : Value → Heap → Prop) (h : Heap) : Prop :=
 CallsH P 38 #[(.slice wA wN wC), (.int .i64 n)] h fun v h_ =>
 ∃ (A : Option Addr), ∃ (N : Nat), ∃ (C : Nat), ∃ (t : Int), v = (.tuple #[(.slice A N C), (.int .i64 t)]) ∧ PIf ((t : Int) = 0)
 (J40_0 P R n by_ A N C h_)
 (R (.tuple #[(.slice none 0 0), (.int .i64 t)]) h_)
theorem vc40 (P : Program) (wA : Option Addr) (wN : Nat) (wC : Nat) (n : Int) (by_ : Int) (R : Value → Heap → Prop) (h : Heap) : fnC P ret40 code40 [(.slice wA wN wC), (.int .i64 n), (.int .i64 by_)] h R = VC40 P wA wN wC n by_ R h := by kernel_rfl
theorem run40 (wA : Option Addr) (wN : Nat) (wC : Nat) (n : Int) (by_ : Int) (R : Value → Heap → Prop) (h : Heap) (hv : VC40 Tryd.prog wA wN wC n by_ R h) : CallsH Tryd.prog 40 #[(.slice wA wN wC), (.int .i64 n), (.int .i64 by_)] h R := calls_of_fnC (Checked.mixed Tryd.checked) Tryd.func40 comp40 (Nat.le_of_ble_eq_true rfl) (by rw [vc40]; exact hv)

/-! 41: trestle/trestleref02.Shift -/
def code41 : SCode := (.seq (.region false [⟨(some 6), .mv (.const (.slice none 0 0)), none⟩,
  ⟨(some 7), .mv (.const (.int .i64 0)), none⟩]) (.seq (.seq (.region false [⟨(some 12), .mv (.tmp 1), none⟩,
  ⟨(some 13), .icmp .lss .i64 (.tmp 12) (.const (.int .i64 0)), none⟩,
  ⟨(some 14), .mv (.tmp 13), none⟩,
  ⟨(some 15), .mv (.tmp 1), (some (14, false))⟩,
  ⟨(some 16), .icmp .gtr .i64 (.tmp 15) (.const (.int .i64 16384)), (some (14, false))⟩,
  ⟨(some 17), .pick (.tmp 14) (.const (.bool true)) (.tmp 16), none⟩]) (.cond (.tmp 17) (.seq (.region false [⟨(some 6), .mv (.const (.slice none 0 0)), none⟩,
  ⟨(some 7), .mv (.const (.int .i64 1)), none⟩]) .ret) .skip)) (.seq (.region false [⟨(some 19), .mv (.tmp 0), none⟩,
  ⟨(some 20), .mv (.tmp 1), none⟩,
  ⟨(some 21), .call 39 [(.tmp 19), (.tmp 20)] (.tup [.one (.slice), .one (.int .i64)]), none⟩,
  ⟨(some 18), .mv (.tmp 21), none⟩,
  ⟨(some 22), .extr (.tmp 18) 0, none⟩,
  ⟨(some 23), .extr (.tmp 18) 1, none⟩,
  ⟨(some 8), .mv (.tmp 22), none⟩,
  ⟨(some 9), .mv (.tmp 23), none⟩]) (.seq (.seq (.region false [⟨(some 24), .mv (.tmp 9), none⟩,
  ⟨(some 25), .icmp .neq .i64 (.tmp 24) (.const (.int .i64 0)), none⟩]) (.cond (.tmp 25) (.seq (.region false [⟨(some 26), .mv (.tmp 9), none⟩,
  ⟨(some 6), .mv (.const (.slice none 0 0)), none⟩,
  ⟨(some 7), .mv (.tmp 26), none⟩]) .ret) .skip)) (.seq (.region false [⟨(some 27), .mv (.tmp 1), none⟩,
  ⟨(some 28), .mkS 4 1 1 #[(.bool false)] (.tmp 27) (.tmp 27), none⟩,
  ⟨(some 10), .mv (.tmp 28), none⟩]) (.seq (.seq (.region false [⟨(some 11), .mv (.const (.int .i64 0)), none⟩]) (.block 0 (.loop [(11, .int .i64)] [29, 30, 31, 34, 35, 36, 37, 38, 39, 40, 41, 42, 43, 44, 45, 46, 47, 48, 49, 50, 51, 52, 53, 54, 55, 56, 57, 58, 59, 60, 61, 62, 63, 64, 32, 33, 11] (.seq (.seq (.region false [⟨(some 29), .mv (.tmp 11), none⟩,
  ⟨(some 30), .mv (.tmp 1), none⟩,
  ⟨(some 31), .icmp .lss .i64 (.tmp 29) (.tmp 30), none⟩]) (.cond (.tmp 31) .skip (.exit 0))) (.seq (.block 1 (.seq (.region false [⟨(some 34), .mv (.tmp 2), none⟩,
  ⟨(some 35), .mv (.tmp 1), none⟩,
  ⟨(some 36), .neg .i64 (.tmp 35), none⟩,
  ⟨(some 37), .icmp .gtr .i64 (.tmp 34) (.tmp 36), none⟩,
  ⟨(some 38), .mv (.tmp 37), none⟩,
  ⟨(some 39), .mv (.tmp 2), (some (38, true))⟩,
  ⟨(some 40), .mv (.tmp 1), (some (38, true))⟩,
  ⟨(some 41), .icmp .lss .i64 (.tmp 39) (.tmp 40), (some (38, true))⟩,
  ⟨(some 42), .pick (.tmp 38) (.tmp 41) (.const (.bool false)), none⟩,
  ⟨(some 43), .mv (.tmp 42), none⟩,
  ⟨(some 44), .mv (.tmp 11), (some (43, true))⟩,
  ⟨(some 45), .mv (.tmp 2), (some (43, true))⟩,
  ⟨(some 46), .arith .sub .i64 (.tmp 44) (.tmp 45), (some (43, true))⟩,
  ⟨(some 47), .icmp .geq .i64 (.tmp 46) (.const (.int .i64 0)), (some (43, true))⟩,
  ⟨(some 48), .pick (.tmp 43) (.tmp 47) (.const (.bool false)), none⟩,
  ⟨(some 49), .mv (.tmp 48), none⟩,
  ⟨(some 50), .mv (.tmp 11), (some (49, true))⟩,
  ⟨(some 51), .mv (.tmp 2), (some (49, true))⟩,
  ⟨(some 52), .arith .sub .i64 (.tmp 50) (.tmp 51), (some (49, true))⟩,
  ⟨(some 53), .mv (.tmp 1), (some (49, true))⟩,
  ⟨(some 54), .icmp .lss .i64 (.tmp 52) (.tmp 53), (some (49, true))⟩,
  ⟨(some 55), .pick (.tmp 49) (.tmp 54) (.const (.bool false)), none⟩]) (.cond (.tmp 55) (.region false [⟨(some 56), .mv (.tmp 10), none⟩,
  ⟨(some 57), .mv (.tmp 11), none⟩,
  ⟨(some 58), .mv (.tmp 8), none⟩,
  ⟨(some 59), .mv (.tmp 11), none⟩,
  ⟨(some 60), .mv (.tmp 2), none⟩,
  ⟨(some 61), .arith .sub .i64 (.tmp 59) (.tmp 60), none⟩,
  ⟨(some 62), .idxA 1 (.tmp 58) (.tmp 61), none⟩,
  ⟨(some 63), .ld (.bool) (.tmp 62), none⟩,
  ⟨(some 64), .idxA 1 (.tmp 56) (.tmp 57), none⟩,
  ⟨none, .st 1 (.tmp 64) (.tmp 63), none⟩]) .skip))) (.region false [⟨(some 32), .mv (.tmp 11), none⟩,
  ⟨(some 33), .arith .add .i64 (.tmp 32) (.const (.int .i64 1)), none⟩,
  ⟨(some 11), .mv (.tmp 33), none⟩])))))) (.seq (.region false [⟨(some 65), .mv (.tmp 10), none⟩,
  ⟨(some 66), .call 51 [(.tmp 65)] (.val (.one (.slice))), none⟩,
  ⟨(some 6), .mv (.tmp 66), none⟩,
  ⟨(some 7), .mv (.const (.int .i64 0)), none⟩]) .ret)))))))
def loops41 : List (List (Nat × Shp)) := [[(11, .int .i64)]]
def ret41 : List RV := [.tmp 6, .tmp 7]
theorem comp41 : compF Tryd.prog Tryd.f41 loops41 = some (67, ret41, code41) := by kernel_rfl
def J41_3  (n : Int) (by_ : Int) (A : (Option Addr)) (N : Nat) (h_2 : Heap) (i : Int) (next_ : (Int → Heap → Prop)) (h_5 : Heap) : Prop :=
 PIf (((IntKind.wrap .i64 (0 - n)) : Int) < by_)
 (PIf ((by_ : Int) < n)
 (PIf ((0 : Int) ≤ (IntKind.wrap .i64 (i - by_)))
 (PIf (((IntKind.wrap .i64 (i - by_)) : Int) < n)
 (0 ≤ ((IntKind.wrap .i64 (i - by_)) : Int) ∧ ((IntKind.wrap .i64 (i - by_)) : Int) < (N : Nat) ∧ AtP A fun ad => ∃ (t1 : Bool), cellH h_5 (Addr.add ad (Int.toNat (IntKind.wrap .i64 (i - by_)) * 1)) = some (.bool t1) ∧ 0 ≤ (i : Int) ∧ (i : Int) < ((Int.toNat n) : Nat) ∧ StoreH h_5 (Addr.add (Addr.mk (h_2).size 0 none) (Int.toNat i * 1)) [(.bool t1)] fun h_6 => next_ ((IntKind.wrap .i64 (i + 1))) h_6)
 (next_ ((IntKind.wrap .i64 (i + 1))) h_5))
 (next_ ((IntKind.wrap .i64 (i + 1))) h_5))
 (next_ ((IntKind.wrap .i64 (i + 1))) h_5))
 (next_ ((IntKind.wrap .i64 (i + 1))) h_5)
def J41_2  (P : Program) (R : Value → Heap → Prop) (n : Int) (h_2 : Heap) (h_7 : Heap) : Prop :=
 CallsH P 51 #[(.slice (some (Addr.mk (h_2).size 0 none)) (Int.toNat n) (Int.toNat n))] h_7 fun v1 h_8 =>
 ∃ (A1 : Option Addr), ∃ (N1 : Nat), ∃ (C1 : Nat), v1 = (.slice A1 N1 C1) ∧ R (.tuple #[(.slice A1 N1 C1), (.int .i64 0)]) h_8
def B41_4 (P : Program) (R : Value → Heap → Prop) (n : Int) (by_ : Int) (A : (Option Addr)) (N : Nat) (h_2 : Heap) (i : Int) (h_4 : Heap) (next_ : Int → Heap → Prop) : Prop :=
 PIf ((i : Int) < n)
 (J41_3 n by_ A N h_2 i next_ h_4)
 (J41_2 P R n h_2 h_4)
def J41_1  (P : Program) (R : Value → Heap → Prop) (n : Int) (by_ : Int) (A : (Option Addr)) (N : Nat) (h_2 : Heap) : Prop :=
 0 ≤ (n : Int) ∧ (n : Int) ≤ n ∧ (1 : Int) * n ≤ 281474976710656 ∧ let h_3 : Heap := (h_2).push (.cells (zeroRow #[(.bool false)] (Int.toNat n * 1)).toArray 4); LoopT (σ := Int) (fun st_ h_st nx_st => B41_4 P R n by_ A N h_2 (st_) h_st nx_st) (0) h_3
def J41_0  (P : Program) (R : Value → Heap → Prop) (wA : (Option Addr)) (wN : Nat) (wC : Nat) (n : Int) (by_ : Int) (h_ : Heap) : Prop :=
 CallsH P 39 #[(.slice wA wN wC), (.int .i64 n)] h_ fun v h_1 =>
 ∃ (A : Option Addr), ∃ (N : Nat), ∃ (C : Nat), ∃ (t : Int), v = (.tuple #[(.slice A N C), (.int .i64 t)]) ∧ PIf ((t : Int) = 0)
 (J41_1 P R n by_ A N h_1)
 (R (.tuple #[(.slice none 0 0), (.int .i64 t)]) h_1)
def VC41 (P : Program) (wA : Option Addr) (wN : Nat) (wC : Nat) (n : Int) (by_ : Int) (R : Value → Heap → Prop) (h : Heap) : Prop :=
 PIf ((n : Int) < 0)
 (R (.tuple #[(.slice none 0 0), (.int .i64 1)]) h)
 (PIf ((16384 : Int) < n)
 (R (.tuple #[(.slice none 0 0), (.int .i64 1)]) h)
 (J41_0 P R wA wN wC n by_ h))
theorem vc41 (P : Program) (wA : Option Addr) (wN : Nat) (wC : Nat) (n : Int) (by_ : Int) (R : Value → Heap → Prop) (h : Heap) : fnC P ret41 code41 [(.slice wA wN wC), (.int .i64 n), (.int .i64 by_)] h R = VC41 P wA wN wC n by_ R h := by kernel_rfl
theorem run41 (wA : Option Addr) (wN : Nat) (wC : Nat) (n : Int) (by_ : Int) (R : Value → Heap → Prop) (h : Heap) (hv : VC41 Tryd.prog wA wN wC n by_ R h) : CallsH Tryd.prog 41 #[(.slice wA wN wC), (.int .i64 n), (.int .i64 by_)] h R := calls_of_fnC (Checked.mixed Tryd.checked) Tryd.func41 comp41 (Nat.le_of_ble_eq_true rfl) (by rw [vc41]; exact hv)

/-! 42: trestle/words.Ones -/
def code42 : SCode := (.seq (.region false [⟨(some 2), .mv (.const (.int .i64 0)), none⟩]) (.seq (.region false [⟨(some 3), .mv (.const (.int .i64 0)), none⟩]) (.seq (.seq (.region false [⟨(some 6), .mv (.tmp 0), none⟩,
  ⟨(some 7), .len (.tmp 6), none⟩,
  ⟨(some 8), .mv (.const (.int .i64 0)), none⟩]) (.block 0 (.loop [(3, .int .i64), (8, .int .i64)] [9, 10, 11, 5, 12, 13, 14, 15, 3, 16, 8] (.seq (.region false [⟨(some 9), .icmp .lss .i64 (.tmp 8) (.tmp 7), none⟩]) (.seq (.cond (.tmp 9) .skip (.exit 0)) (.seq (.block 1 (.seq (.region false [⟨(some 10), .idxA 1 (.tmp 6) (.tmp 8), none⟩,
  ⟨(some 11), .ld (.int .u64) (.tmp 10), none⟩,
  ⟨(some 5), .mv (.tmp 11), none⟩]) (.region false [⟨(some 12), .mv (.tmp 3), none⟩,
  ⟨(some 13), .mv (.tmp 5), none⟩,
  ⟨(some 14), .call 64 [(.tmp 13)] (.val (.one (.int .i64))), none⟩,
  ⟨(some 15), .arith .add .i64 (.tmp 12) (.tmp 14), none⟩,
  ⟨(some 3), .mv (.tmp 15), none⟩]))) (.region false [⟨(some 16), .arith .add .i64 (.tmp 8) (.const (.int .i64 1)), none⟩,
  ⟨(some 8), .mv (.tmp 16), none⟩]))))))) (.seq (.region false [⟨(some 17), .mv (.tmp 3), none⟩,
  ⟨(some 2), .mv (.tmp 17), none⟩]) .ret))))
def loops42 : List (List (Nat × Shp)) := [[(3, .int .i64), (8, .int .i64)]]
def ret42 : List RV := [.tmp 2]
theorem comp42 : compF Tryd.prog Tryd.f42 loops42 = some (18, ret42, code42) := by kernel_rfl
def J42_1  (P : Program) (wA : (Option Addr)) (wN : Nat) (n : Int) (t : Int) (next_ : (Int × Int → Heap → Prop)) (h_1 : Heap) : Prop :=
 0 ≤ (t : Int) ∧ (t : Int) < (wN : Nat) ∧ AtP wA fun ad => ∃ (t1 : Int), cellH h_1 (Addr.add ad (Int.toNat t * 1)) = some (.int .u64 t1) ∧ CallsH P 64 #[(.int .u64 t1)] h_1 fun v h_2 =>
 ∃ (t2 : Int), v = (.int .i64 t2) ∧ next_ ((IntKind.wrap .i64 (n + t2)), (IntKind.wrap .i64 (t + 1))) h_2
def J42_0  (R : Value → Heap → Prop) (n1 : Int) (h_3 : Heap) : Prop :=
 R (.int .i64 n1) h_3
def B42_3 (P : Program) (R : Value → Heap → Prop) (wA : (Option Addr)) (wN : Nat) (n : Int) (t : Int) (h_ : Heap) (next_ : Int × Int → Heap → Prop) : Prop :=
 PIf ((t : Int) < ((wN : Nat) : Int))
 (J42_1 P wA wN n t next_ h_)
 (J42_0 R (n) h_)
def VC42 (P : Program) (wA : Option Addr) (wN : Nat) (wC : Nat) (R : Value → Heap → Prop) (h : Heap) : Prop :=
 LoopT (σ := Int × Int) (fun st_ h_st nx_st => B42_3 P R wA wN (st_.1) (st_.2) h_st nx_st) (0, 0) h
theorem vc42 (P : Program) (wA : Option Addr) (wN : Nat) (wC : Nat) (R : Value → Heap → Prop) (h : Heap) : fnC P ret42 code42 [(.slice wA wN wC)] h R = VC42 P wA wN wC R h := by kernel_rfl
theorem run42 (wA : Option Addr) (wN : Nat) (wC : Nat) (R : Value → Heap → Prop) (h : Heap) (hv : VC42 Tryd.prog wA wN wC R h) : CallsH Tryd.prog 42 #[(.slice wA wN wC)] h R := calls_of_fnC (Checked.mixed Tryd.checked) Tryd.func42 comp42 (Nat.le_of_ble_eq_true rfl) (by rw [vc42]; exact hv)

/-! 43: trestle/trestleref02.Ones -/
def code43 : SCode := (.seq (.region false [⟨(some 2), .mv (.const (.int .i64 0)), none⟩]) (.seq (.region false [⟨(some 3), .mv (.const (.int .i64 0)), none⟩]) (.seq (.seq (.region false [⟨(some 4), .mv (.const (.int .i64 0)), none⟩]) (.block 0 (.loop [(3, .int .i64), (4, .int .i64)] [6, 7, 8, 9, 12, 13, 14, 15, 5, 16, 17, 20, 21, 22, 23, 24, 3, 18, 19, 5, 10, 11, 4] (.seq (.seq (.region false [⟨(some 6), .mv (.tmp 4), none⟩,
  ⟨(some 7), .mv (.tmp 0), none⟩,
  ⟨(some 8), .len (.tmp 7), none⟩,
  ⟨(some 9), .icmp .lss .i64 (.tmp 6) (.tmp 8), none⟩]) (.cond (.tmp 9) .skip (.exit 0))) (.seq (.block 1 (.seq (.region false [⟨(some 12), .mv (.tmp 0), none⟩,
  ⟨(some 13), .mv (.tmp 4), none⟩,
  ⟨(some 14), .idxA 1 (.tmp 12) (.tmp 13), none⟩,
  ⟨(some 15), .ld (.int .u64) (.tmp 14), none⟩,
  ⟨(some 5), .mv (.tmp 15), none⟩]) (.block 2 (.loop [(3, .int .i64), (5, .int .u64)] [16, 17, 20, 21, 22, 23, 24, 3, 18, 19, 5] (.seq (.seq (.region false [⟨(some 16), .mv (.tmp 5), none⟩,
  ⟨(some 17), .icmp .gtr .u64 (.tmp 16) (.const (.int .u64 0)), none⟩]) (.cond (.tmp 17) .skip (.exit 2))) (.seq (.block 3 (.region false [⟨(some 20), .mv (.tmp 3), none⟩,
  ⟨(some 21), .mv (.tmp 5), none⟩,
  ⟨(some 22), .divc .rem .u64 (.tmp 21) 2, none⟩,
  ⟨(some 23), .conv .i64 (.tmp 22), none⟩,
  ⟨(some 24), .arith .add .i64 (.tmp 20) (.tmp 23), none⟩,
  ⟨(some 3), .mv (.tmp 24), none⟩])) (.region false [⟨(some 18), .mv (.tmp 5), none⟩,
  ⟨(some 19), .divc .quo .u64 (.tmp 18) 2, none⟩,
  ⟨(some 5), .mv (.tmp 19), none⟩]))))))) (.region false [⟨(some 10), .mv (.tmp 4), none⟩,
  ⟨(some 11), .arith .add .i64 (.tmp 10) (.const (.int .i64 1)), none⟩,
  ⟨(some 4), .mv (.tmp 11), none⟩])))))) (.seq (.region false [⟨(some 25), .mv (.tmp 3), none⟩,
  ⟨(some 2), .mv (.tmp 25), none⟩]) .ret))))
def loops43 : List (List (Nat × Shp)) := [[(3, .int .i64), (4, .int .i64)], [(3, .int .i64), (5, .int .u64)]]
def ret43 : List RV := [.tmp 2]
theorem comp43 : compF Tryd.prog Tryd.f43 loops43 = some (26, ret43, code43) := by kernel_rfl
def J43_3  (n1 : Int) (x : Int) (next_1 : (Int × Int → Heap → Prop)) (h_3 : Heap) : Prop :=
 next_1 ((IntKind.wrap .i64 (n1 + (IntKind.wrap .i64 (Int.tmod x 2)))), (IntKind.wrap .u64 (Int.tdiv x 2))) h_3
def J43_2  (i : Int) (next_ : (Int × Int → Heap → Prop)) (n2 : Int) (h_4 : Heap) : Prop :=
 next_ (n2, (IntKind.wrap .i64 (i + 1))) h_4
def B43_4 (i : Int) (next_ : (Int × Int → Heap → Prop)) (n1 : Int) (x : Int) (h_2 : Heap) (next_1 : Int × Int → Heap → Prop) : Prop :=
 PIf ((0 : Int) < x)
 (J43_3 n1 x next_1 h_2)
 (J43_2 i next_ (n1) h_2)
def J43_1  (wA : (Option Addr)) (wN : Nat) (n : Int) (i : Int) (next_ : (Int × Int → Heap → Prop)) (h_1 : Heap) : Prop :=
 0 ≤ (i : Int) ∧ (i : Int) < (wN : Nat) ∧ AtP wA fun ad => ∃ (t : Int), cellH h_1 (Addr.add ad (Int.toNat i * 1)) = some (.int .u64 t) ∧ LoopT (σ := Int × Int) (fun st_ h_st nx_st => B43_4 i next_ (st_.1) (st_.2) h_st nx_st) (n, t) h_1
def J43_0  (R : Value → Heap → Prop) (n3 : Int) (h_5 : Heap) : Prop :=
 R (.int .i64 n3) h_5
def B43_5 (R : Value → Heap → Prop) (wA : (Option Addr)) (wN : Nat) (n : Int) (i : Int) (h_ : Heap) (next_ : Int × Int → Heap → Prop) : Prop :=
 PIf ((i : Int) < ((wN : Nat) : Int))
 (J43_1 wA wN n i next_ h_)
 (J43_0 R (n) h_)
def VC43 (P : Program) (wA : Option Addr) (wN : Nat) (wC : Nat) (R : Value → Heap → Prop) (h : Heap) : Prop :=
 LoopT (σ := Int × Int) (fun st_ h_st nx_st => B43_5 R wA wN (st_.1) (st_.2) h_st nx_st) (0, 0) h
theorem vc43 (P : Program) (wA : Option Addr) (wN : Nat) (wC : Nat) (R : Value → Heap → Prop) (h : Heap) : fnC P ret43 code43 [(.slice wA wN wC)] h R = VC43 P wA wN wC R h := by kernel_rfl
theorem run43 (wA : Option Addr) (wN : Nat) (wC : Nat) (R : Value → Heap → Prop) (h : Heap) (hv : VC43 Tryd.prog wA wN wC R h) : CallsH Tryd.prog 43 #[(.slice wA wN wC)] h R := calls_of_fnC (Checked.mixed Tryd.checked) Tryd.func43 comp43 (Nat.le_of_ble_eq_true rfl) (by rw [vc43]; exact hv)

/-! 44: trestle/words.given -/
def code44 : SCode := (.seq (.region false [⟨(some 4), .alloc 25 (.agg #[(.int .i64 0), (.int .i64 0)]), none⟩]) (.seq (.seq (.region false [⟨(some 5), .mv (.tmp 0), none⟩,
  ⟨(some 6), .lenS (.tmp 5), none⟩,
  ⟨(some 7), .icmp .gtr .i64 (.tmp 6) (.const (.int .i64 262144)), none⟩]) (.cond (.tmp 7) (.seq (.region false [⟨(some 8), .mkAgg #[(.int .i64 0), (.int .i64 0)] [(1, 1, (.const (.int .i64 2)))], none⟩,
  ⟨none, .st 2 (.tmp 4) (.tmp 8), none⟩]) .ret) .skip)) (.seq (.seq (.region false [⟨(some 9), .mv (.tmp 1), none⟩,
  ⟨(some 10), .icmp .lss .i64 (.tmp 9) (.const (.int .i64 0)), none⟩,
  ⟨(some 11), .mv (.tmp 10), none⟩,
  ⟨(some 12), .mv (.tmp 1), (some (11, false))⟩,
  ⟨(some 13), .mv (.tmp 0), (some (11, false))⟩,
  ⟨(some 14), .lenS (.tmp 13), (some (11, false))⟩,
  ⟨(some 15), .icmp .gtr .i64 (.tmp 12) (.tmp 14), (some (11, false))⟩,
  ⟨(some 16), .pick (.tmp 11) (.const (.bool true)) (.tmp 15), none⟩]) (.cond (.tmp 16) (.seq (.region false [⟨(some 17), .mkAgg #[(.int .i64 0), (.int .i64 0)] [(1, 1, (.const (.int .i64 1)))], none⟩,
  ⟨none, .st 2 (.tmp 4) (.tmp 17), none⟩]) .ret) .skip)) (.seq (.region false [⟨(some 18), .mkAgg #[(.int .i64 0), (.int .i64 0)] [], none⟩,
  ⟨none, .st 2 (.tmp 4) (.tmp 18), none⟩]) .ret))))
def loops44 : List (List (Nat × Shp)) := []
def ret44 : List RV := [.cellN 4 [.int .i64, .int .i64]]
theorem comp44 : compF Tryd.prog Tryd.f44 loops44 = some (19, ret44, code44) := by kernel_rfl
def J44_0  (R : Value → Heap → Prop) (h : Heap) (s : ByteArray) (at_ : Int) (h_2 : Heap) : Prop :=
 PIf ((at_ : Int) < 0)
 (StoreH h_2 (Addr.mk (h).size 0 none) [(.int .i64 0), (.int .i64 1)] fun h_3 => ∃ (t2 : Int), ∃ (t3 : Int), cellsH h_3 (Addr.mk (h).size 0 none) 0 [(.int .i64 t2), (.int .i64 t3)] ∧ R (.agg #[(.int .i64 t2), (.int .i64 t3)]) h_3)
 (PIf ((((s.size : Nat) : Int) : Int) < at_)
 (StoreH h_2 (Addr.mk (h).size 0 none) [(.int .i64 0), (.int .i64 1)] fun h_4 => ∃ (t4 : Int), ∃ (t5 : Int), cellsH h_4 (Addr.mk (h).size 0 none) 0 [(.int .i64 t4), (.int .i64 t5)] ∧ R (.agg #[(.int .i64 t4), (.int .i64 t5)]) h_4)
 (StoreH h_2 (Addr.mk (h).size 0 none) [(.int .i64 0), (.int .i64 0)] fun h_5 => ∃ (t6 : Int), ∃ (t7 : Int), cellsH h_5 (Addr.mk (h).size 0 none) 0 [(.int .i64 t6), (.int .i64 t7)] ∧ R (.agg #[(.int .i64 t6), (.int .i64 t7)]) h_5))
def VC44 (P : Program) (s : ByteArray) (at_ : Int) (R : Value → Heap → Prop) (h : Heap) : Prop :=
 let h_ : Heap := (h).push (.cells #[(.int .i64 0), (.int .i64 0)] 25); PIf ((262144 : Int) < ((s.size : Nat) : Int))
 (StoreH h_ (Addr.mk (h).size 0 none) [(.int .i64 0), (.int .i64 2)] fun h_1 => ∃ (t : Int), ∃ (t1 : Int), cellsH h_1 (Addr.mk (h).size 0 none) 0 [(.int .i64 t), (.int .i64 t1)] ∧ R (.agg #[(.int .i64 t), (.int .i64 t1)]) h_1)
 (J44_0 R h s at_ h_)
theorem vc44 (P : Program) (s : ByteArray) (at_ : Int) (R : Value → Heap → Prop) (h : Heap) : fnC P ret44 code44 [(.string s), (.int .i64 at_)] h R = VC44 P s at_ R h := by kernel_rfl
theorem run44 (s : ByteArray) (at_ : Int) (R : Value → Heap → Prop) (h : Heap) (hv : VC44 Tryd.prog s at_ R h) : CallsH Tryd.prog 44 #[(.string s), (.int .i64 at_)] h R := calls_of_fnC (Checked.mixed Tryd.checked) Tryd.func44 comp44 (Nat.le_of_ble_eq_true rfl) (by rw [vc44]; exact hv)

/-! 45: trestle/words.group[uint32] -/
def code45 : SCode := (.seq (.region false [⟨(some 2), .alloc 56 (.agg #[(.int .u8 0), (.int .u8 0), (.int .u8 0), (.int .u8 0), (.int .u8 0), (.int .u8 0), (.int .u8 0), (.int .u8 0), (.int .u8 0), (.int .u8 0)]), none⟩,
  ⟨(some 3), .mv (.const (.int .i64 0)), none⟩]) (.seq (.region false [⟨(some 5), .mv (.tmp 0), none⟩,
  ⟨(some 6), .conv .u64 (.tmp 5), none⟩,
  ⟨(some 4), .mv (.tmp 6), none⟩]) (.seq (.block 0 (.loop [(3, .int .i64), (4, .int .u64)] [7, 8, 9, 10, 11, 12, 13, 14, 15, 4, 16, 17, 3] (.seq (.seq (.region false [⟨(some 7), .mv (.tmp 4), none⟩,
  ⟨(some 8), .icmp .geq .u64 (.tmp 7) (.const (.int .u64 128)), none⟩]) (.cond (.tmp 8) .skip (.exit 0))) (.block 1 (.seq (.region false [⟨(some 9), .mv (.tmp 3), none⟩,
  ⟨(some 10), .mv (.tmp 4), none⟩,
  ⟨(some 11), .conv .u8 (.tmp 10), none⟩,
  ⟨(some 12), .bits .or .u8 (.tmp 11) (.const (.int .u8 128)), none⟩,
  ⟨(some 13), .idxArr 10 1 (.tmp 2) (.tmp 9), none⟩,
  ⟨none, .st 1 (.tmp 13) (.tmp 12), none⟩]) (.seq (.region false [⟨(some 14), .mv (.tmp 4), none⟩,
  ⟨(some 15), .shc .shr .u64 (.tmp 14) 7, none⟩,
  ⟨(some 4), .mv (.tmp 15), none⟩]) (.region false [⟨(some 16), .mv (.tmp 3), none⟩,
  ⟨(some 17), .arith .add .i64 (.tmp 16) (.const (.int .i64 1)), none⟩,
  ⟨(some 3), .mv (.tmp 17), none⟩]))))))) (.seq (.region false [⟨(some 18), .mv (.tmp 3), none⟩,
  ⟨(some 19), .mv (.tmp 4), none⟩,
  ⟨(some 20), .conv .u8 (.tmp 19), none⟩,
  ⟨(some 21), .idxArr 10 1 (.tmp 2) (.tmp 18), none⟩,
  ⟨none, .st 1 (.tmp 21) (.tmp 20), none⟩]) (.seq (.region false [⟨(some 22), .ldn [.int .u8, .int .u8, .int .u8, .int .u8, .int .u8, .int .u8, .int .u8, .int .u8, .int .u8, .int .u8] (.tmp 2), none⟩,
  ⟨(some 23), .mv (.tmp 3), none⟩,
  ⟨(some 24), .arith .add .i64 (.tmp 23) (.const (.int .i64 1)), none⟩,
  ⟨none, .st 10 (.tmp 2) (.tmp 22), none⟩,
  ⟨(some 3), .mv (.tmp 24), none⟩]) .ret)))))
def loops45 : List (List (Nat × Shp)) := [[(3, .int .i64), (4, .int .u64)]]
def ret45 : List RV := [.cellN 2 [.int .u8, .int .u8, .int .u8, .int .u8, .int .u8, .int .u8, .int .u8, .int .u8, .int .u8, .int .u8], .tmp 3]
theorem comp45 : compF Tryd.prog Tryd.f45 loops45 = some (25, ret45, code45) := by kernel_rfl
def J45_1  (h : Heap) (many : Int) (x : Int) (next_ : (Int × Int → Heap → Prop)) (h_2 : Heap) : Prop :=
 0 ≤ (many : Int) ∧ (many : Int) < (10 : Nat) ∧ StoreH h_2 (Addr.add (Addr.mk (h).size 0 none) (Int.toNat many * 1)) [(.int .u8 (bop .or .u8 (IntKind.wrap .u8 x) 128))] fun h_3 => next_ ((IntKind.wrap .i64 (many + 1)), (x / ((2 ^ 7 : Nat) : Int))) h_3
def J45_0  (R : Value → Heap → Prop) (h : Heap) (many1 : Int) (x1 : Int) (h_4 : Heap) : Prop :=
 0 ≤ (many1 : Int) ∧ (many1 : Int) < (10 : Nat) ∧ StoreH h_4 (Addr.add (Addr.mk (h).size 0 none) (Int.toNat many1 * 1)) [(.int .u8 (IntKind.wrap .u8 x1))] fun h_5 => ∃ (t : Int), ∃ (t1 : Int), ∃ (t2 : Int), ∃ (t3 : Int), ∃ (t4 : Int), ∃ (t5 : Int), ∃ (t6 : Int), ∃ (t7 : Int), ∃ (t8 : Int), ∃ (t9 : Int), cellsH h_5 (Addr.mk (h).size 0 none) 0 [(.int .u8 t), (.int .u8 t1), (.int .u8 t2), (.int .u8 t3), (.int .u8 t4), (.int .u8 t5), (.int .u8 t6), (.int .u8 t7), (.int .u8 t8), (.int .u8 t9)] ∧ StoreH h_5 (Addr.mk (h).size 0 none) [(.int .u8 t), (.int .u8 t1), (.int .u8 t2), (.int .u8 t3), (.int .u8 t4), (.int .u8 t5), (.int .u8 t6), (.int .u8 t7), (.int .u8 t8), (.int .u8 t9)] fun h_6 => ∃ (out : Int), ∃ (out1 : Int), ∃ (out2 : Int), ∃ (out3 : Int), ∃ (out4 : Int), ∃ (out5 : Int), ∃ (out6 : Int), ∃ (out7 : Int), ∃ (out8 : Int), ∃ (out9 : Int), cellsH h_6 (Addr.mk (h).size 0 none) 0 [(.int .u8 out), (.int .u8 out1), (.int .u8 out2), (.int .u8 out3), (.int .u8 out4), (.int .u8 out5), (.int .u8 out6), (.int .u8 out7), (.int .u8 out8), (.int .u8 out9)] ∧ R (.tuple #[(.agg #[(.int .u8 out), (.int .u8 out1), (.int .u8 out2), (.int .u8 out3), (.int .u8 out4), (.int .u8 out5), (.int .u8 out6), (.int .u8 out7), (.int .u8 out8), (.int .u8 out9)]), (.int .i64 (IntKind.wrap .i64 (many1 + 1)))]) h_6
def B45_2 (R : Value → Heap → Prop) (h : Heap) (many : Int) (x : Int) (h_1 : Heap) (next_ : Int × Int → Heap → Prop) : Prop :=
 PIf ((128 : Int) ≤ x)
 (J45_1 h many x next_ h_1)
 (J45_0 R h (many) (x) h_1)
def VC45 (P : Program) (n : Int) (R : Value → Heap → Prop) (h : Heap) : Prop :=
 let h_ : Heap := (h).push (.cells #[(.int .u8 0), (.int .u8 0), (.int .u8 0), (.int .u8 0), (.int .u8 0), (.int .u8 0), (.int .u8 0), (.int .u8 0), (.int .u8 0), (.int .u8 0)] 56); LoopT (σ := Int × Int) (fun st_ h_st nx_st => B45_2 R h (st_.1) (st_.2) h_st nx_st) (0, (IntKind.wrap .u64 n)) h_
theorem vc45 (P : Program) (n : Int) (R : Value → Heap → Prop) (h : Heap) : fnC P ret45 code45 [(.int .u32 n)] h R = VC45 P n R h := by kernel_rfl
theorem run45 (n : Int) (R : Value → Heap → Prop) (h : Heap) (hv : VC45 Tryd.prog n R h) : CallsH Tryd.prog 45 #[(.int .u32 n)] h R := calls_of_fnC (Checked.mixed Tryd.checked) Tryd.func45 comp45 (Nat.le_of_ble_eq_true rfl) (by rw [vc45]; exact hv)

/-! 46: trestle/words.each -/
def code46 : SCode := (.seq (.region false [⟨(some 6), .mv (.const (.slice none 0 0)), none⟩,
  ⟨(some 7), .mv (.const (.int .i64 0)), none⟩]) (.seq (.seq (.region false [⟨(some 10), .mv (.tmp 0), none⟩,
  ⟨(some 11), .len (.tmp 10), none⟩,
  ⟨(some 12), .icmp .gtr .i64 (.tmp 11) (.const (.int .i64 16384)), none⟩,
  ⟨(some 13), .mv (.tmp 12), none⟩,
  ⟨(some 14), .mv (.tmp 1), (some (13, false))⟩,
  ⟨(some 15), .len (.tmp 14), (some (13, false))⟩,
  ⟨(some 16), .icmp .gtr .i64 (.tmp 15) (.const (.int .i64 16384)), (some (13, false))⟩,
  ⟨(some 17), .pick (.tmp 13) (.const (.bool true)) (.tmp 16), none⟩]) (.cond (.tmp 17) (.seq (.region false [⟨(some 6), .mv (.const (.slice none 0 0)), none⟩,
  ⟨(some 7), .mv (.const (.int .i64 2)), none⟩]) .ret) .skip)) (.seq (.seq (.region false [⟨(some 18), .mv (.tmp 0), none⟩,
  ⟨(some 19), .len (.tmp 18), none⟩,
  ⟨(some 20), .mv (.tmp 1), none⟩,
  ⟨(some 21), .len (.tmp 20), none⟩,
  ⟨(some 22), .icmp .neq .i64 (.tmp 19) (.tmp 21), none⟩]) (.cond (.tmp 22) (.seq (.region false [⟨(some 6), .mv (.const (.slice none 0 0)), none⟩,
  ⟨(some 7), .mv (.const (.int .i64 4)), none⟩]) .ret) .skip)) (.seq (.region false [⟨(some 23), .mv (.tmp 0), none⟩,
  ⟨(some 24), .len (.tmp 23), none⟩,
  ⟨(some 25), .mkS 35 8 1 #[(.int .u64 0)] (.tmp 24) (.tmp 24), none⟩,
  ⟨(some 8), .mv (.tmp 25), none⟩]) (.seq (.seq (.region false [⟨(some 26), .mv (.tmp 8), none⟩,
  ⟨(some 27), .len (.tmp 26), none⟩,
  ⟨(some 28), .mv (.const (.int .i64 0)), none⟩]) (.block 0 (.loop [(28, .int .i64)] [29, 30, 9, 31, 32, 33, 34, 35, 36, 37, 38, 39, 40, 41, 42, 43, 44, 28] (.seq (.region false [⟨(some 29), .icmp .lss .i64 (.tmp 28) (.tmp 27), none⟩]) (.seq (.cond (.tmp 29) .skip (.exit 0)) (.seq (.block 1 (.seq (.region false [⟨(some 30), .mv (.tmp 28), none⟩,
  ⟨(some 9), .mv (.tmp 30), none⟩]) (.region false [⟨(some 31), .mv (.tmp 8), none⟩,
  ⟨(some 32), .mv (.tmp 9), none⟩,
  ⟨(some 33), .mv (.tmp 2), none⟩,
  ⟨(some 34), .mv (.tmp 0), none⟩,
  ⟨(some 35), .mv (.tmp 9), none⟩,
  ⟨(some 36), .idxA 1 (.tmp 34) (.tmp 35), none⟩,
  ⟨(some 37), .ld (.int .u64) (.tmp 36), none⟩,
  ⟨(some 38), .mv (.tmp 1), none⟩,
  ⟨(some 39), .mv (.tmp 9), none⟩,
  ⟨(some 40), .idxA 1 (.tmp 38) (.tmp 39), none⟩,
  ⟨(some 41), .ld (.int .u64) (.tmp 40), none⟩,
  ⟨(some 42), .callv (.tmp 33) [(.tmp 37), (.tmp 41)] (.val (.one (.int .u64))), none⟩,
  ⟨(some 43), .idxA 1 (.tmp 31) (.tmp 32), none⟩,
  ⟨none, .st 1 (.tmp 43) (.tmp 42), none⟩]))) (.region false [⟨(some 44), .arith .add .i64 (.tmp 28) (.const (.int .i64 1)), none⟩,
  ⟨(some 28), .mv (.tmp 44), none⟩]))))))) (.seq (.region false [⟨(some 45), .mv (.tmp 8), none⟩,
  ⟨(some 6), .mv (.tmp 45), none⟩,
  ⟨(some 7), .mv (.const (.int .i64 0)), none⟩]) .ret))))))
def loops46 : List (List (Nat × Shp)) := [[(28, .int .i64)]]
def ret46 : List RV := [.tmp 6, .tmp 7]
theorem comp46 : compF Tryd.prog Tryd.f46 loops46 = some (46, ret46, code46) := by kernel_rfl
def J46_3  (P : Program) (aA : (Option Addr)) (aN : Nat) (bA : (Option Addr)) (bN : Nat) (do_ : Value) (h_1 : Heap) (t : Int) (next_ : (Int → Heap → Prop)) (h_4 : Heap) : Prop :=
 0 ≤ (t : Int) ∧ (t : Int) < (aN : Nat) ∧ AtP aA fun ad => ∃ (t1 : Int), cellH h_4 (Addr.add ad (Int.toNat t * 1)) = some (.int .u64 t1) ∧ 0 ≤ (t : Int) ∧ (t : Int) < (bN : Nat) ∧ AtP bA fun ad1 => ∃ (t2 : Int), cellH h_4 (Addr.add ad1 (Int.toNat t * 1)) = some (.int .u64 t2) ∧ CallV P do_ [(.int .u64 t1), (.int .u64 t2)] h_4 fun v h_5 =>
 ∃ (t3 : Int), v = (.int .u64 t3) ∧ 0 ≤ (t : Int) ∧ (t : Int) < ((Int.toNat ((aN : Nat) : Int)) : Nat) ∧ StoreH h_5 (Addr.add (Addr.mk (h_1).size 0 none) (Int.toNat t * 1)) [(.int .u64 t3)] fun h_6 => next_ ((IntKind.wrap .i64 (t + 1))) h_6
def J46_2  (R : Value → Heap → Prop) (aN : Nat) (h_1 : Heap) (h_7 : Heap) : Prop :=
 R (.tuple #[(.slice (some (Addr.mk (h_1).size 0 none)) (Int.toNat ((aN : Nat) : Int)) (Int.toNat ((aN : Nat) : Int))), (.int .i64 0)]) h_7
def B46_5 (P : Program) (R : Value → Heap → Prop) (aA : (Option Addr)) (aN : Nat) (bA : (Option Addr)) (bN : Nat) (do_ : Value) (h_1 : Heap) (t : Int) (h_3 : Heap) (next_ : Int → Heap → Prop) : Prop :=
 PIf ((t : Int) < (((Int.toNat ((aN : Nat) : Int)) : Nat) : Int))
 (J46_3 P aA aN bA bN do_ h_1 t next_ h_3)
 (J46_2 R aN h_1 h_3)
def J46_1  (P : Program) (R : Value → Heap → Prop) (aA : (Option Addr)) (aN : Nat) (bA : (Option Addr)) (bN : Nat) (do_ : Value) (h_1 : Heap) : Prop :=
 0 ≤ (((aN : Nat) : Int) : Int) ∧ (((aN : Nat) : Int) : Int) ≤ ((aN : Nat) : Int) ∧ (8 : Int) * ((aN : Nat) : Int) ≤ 281474976710656 ∧ let h_2 : Heap := (h_1).push (.cells (zeroRow #[(.int .u64 0)] (Int.toNat ((aN : Nat) : Int) * 1)).toArray 35); LoopT (σ := Int) (fun st_ h_st nx_st => B46_5 P R aA aN bA bN do_ h_1 (st_) h_st nx_st) (0) h_2
def J46_0  (P : Program) (R : Value → Heap → Prop) (aA : (Option Addr)) (aN : Nat) (bA : (Option Addr)) (bN : Nat) (do_ : Value) (h_ : Heap) : Prop :=
 PIf ((((aN : Nat) : Int) : Int) = ((bN : Nat) : Int))
 (J46_1 P R aA aN bA bN do_ h_)
 (R (.tuple #[(.slice none 0 0), (.int .i64 4)]) h_)
def VC46 (P : Program) (aA : Option Addr) (aN : Nat) (aC : Nat) (bA : Option Addr) (bN : Nat) (bC : Nat) (do_ : Value) (R : Value → Heap → Prop) (h : Heap) : Prop :=
 PIf ((16384 : Int) < ((aN : Nat) : Int))
 (R (.tuple #[(.slice none 0 0), (.int .i64 2)]) h)
 (PIf ((16384 : Int) < ((bN : Nat) : Int))
 (R (.tuple #[(.slice none 0 0), (.int .i64 2)]) h)
 (J46_0 P R aA aN bA bN do_ h))
theorem vc46 (P : Program) (aA : Option Addr) (aN : Nat) (aC : Nat) (bA : Option Addr) (bN : Nat) (bC : Nat) (do_ : Value) (R : Value → Heap → Prop) (h : Heap) : fnC P ret46 code46 [(.slice aA aN aC), (.slice bA bN bC), do_] h R = VC46 P aA aN aC bA bN bC do_ R h := by kernel_rfl
theorem run46 (aA : Option Addr) (aN : Nat) (aC : Nat) (bA : Option Addr) (bN : Nat) (bC : Nat) (do_ : Value) (R : Value → Heap → Prop) (h : Heap) (hv : VC46 Tryd.prog aA aN aC bA bN bC do_ R h) : CallsH Tryd.prog 46 #[(.slice aA aN aC), (.slice bA bN bC), do_] h R := calls_of_fnC (Checked.mixed Tryd.checked) Tryd.func46 comp46 (Nat.le_of_ble_eq_true rfl) (by rw [vc46]; exact hv)

/-! 47: trestle/words.Meet$1 -/
def code47 : SCode := (.seq (.region false [⟨(some 4), .mv (.const (.int .u64 0)), none⟩]) (.seq (.region false [⟨(some 5), .mv (.tmp 0), none⟩,
  ⟨(some 6), .mv (.tmp 1), none⟩,
  ⟨(some 7), .bits .and .u64 (.tmp 5) (.tmp 6), none⟩,
  ⟨(some 4), .mv (.tmp 7), none⟩]) .ret))
def loops47 : List (List (Nat × Shp)) := []
def ret47 : List RV := [.tmp 4]
theorem comp47 : compF Tryd.prog Tryd.f47 loops47 = some (8, ret47, code47) := by kernel_rfl
def VC47 (P : Program) (x : Int) (y : Int) (R : Value → Heap → Prop) (h : Heap) : Prop :=
 R (.int .u64 (bop .and .u64 x y)) h
theorem vc47 (P : Program) (x : Int) (y : Int) (R : Value → Heap → Prop) (h : Heap) : fnC P ret47 code47 [(.int .u64 x), (.int .u64 y)] h R = VC47 P x y R h := by kernel_rfl
theorem run47 (x : Int) (y : Int) (R : Value → Heap → Prop) (h : Heap) (hv : VC47 Tryd.prog x y R h) : CallsH Tryd.prog 47 #[(.int .u64 x), (.int .u64 y)] h R := calls_of_fnC (Checked.mixed Tryd.checked) Tryd.func47 comp47 (Nat.le_of_ble_eq_true rfl) (by rw [vc47]; exact hv)

/-! 48: trestle/trestleref02.mix -/
def code48 : SCode := (.seq (.region false [⟨(some 6), .mv (.const (.slice none 0 0)), none⟩,
  ⟨(some 7), .mv (.const (.int .i64 0)), none⟩]) (.seq (.seq (.region false [⟨(some 15), .mv (.tmp 0), none⟩,
  ⟨(some 16), .len (.tmp 15), none⟩,
  ⟨(some 17), .icmp .gtr .i64 (.tmp 16) (.const (.int .i64 16384)), none⟩,
  ⟨(some 18), .mv (.tmp 17), none⟩,
  ⟨(some 19), .mv (.tmp 1), (some (18, false))⟩,
  ⟨(some 20), .len (.tmp 19), (some (18, false))⟩,
  ⟨(some 21), .icmp .gtr .i64 (.tmp 20) (.const (.int .i64 16384)), (some (18, false))⟩,
  ⟨(some 22), .pick (.tmp 18) (.const (.bool true)) (.tmp 21), none⟩]) (.cond (.tmp 22) (.seq (.region false [⟨(some 6), .mv (.const (.slice none 0 0)), none⟩,
  ⟨(some 7), .mv (.const (.int .i64 2)), none⟩]) .ret) .skip)) (.seq (.seq (.region false [⟨(some 23), .mv (.tmp 0), none⟩,
  ⟨(some 24), .len (.tmp 23), none⟩,
  ⟨(some 25), .mv (.tmp 1), none⟩,
  ⟨(some 26), .len (.tmp 25), none⟩,
  ⟨(some 27), .icmp .neq .i64 (.tmp 24) (.tmp 26), none⟩]) (.cond (.tmp 27) (.seq (.region false [⟨(some 6), .mv (.const (.slice none 0 0)), none⟩,
  ⟨(some 7), .mv (.const (.int .i64 4)), none⟩]) .ret) .skip)) (.seq (.region false [⟨(some 8), .mv (.const (.slice none 0 0)), none⟩]) (.seq (.seq (.region false [⟨(some 9), .mv (.const (.int .i64 0)), none⟩]) (.block 0 (.loop [(8, .slice), (9, .int .i64)] [28, 29, 30, 31, 34, 35, 36, 37, 38, 39, 40, 41, 10, 11, 12, 13, 14, 42, 43, 46, 47, 48, 49, 50, 51, 52, 53, 54, 55, 56, 57, 58, 59, 60, 61, 62, 63, 64, 65, 66, 67, 68, 69, 13, 70, 71, 72, 73, 74, 75, 10, 11, 12, 44, 45, 14, 76, 77, 78, 79, 8, 32, 33, 9] (.seq (.seq (.region false [⟨(some 28), .mv (.tmp 9), none⟩,
  ⟨(some 29), .mv (.tmp 0), none⟩,
  ⟨(some 30), .len (.tmp 29), none⟩,
  ⟨(some 31), .icmp .lss .i64 (.tmp 28) (.tmp 30), none⟩]) (.cond (.tmp 31) .skip (.exit 0))) (.seq (.block 1 (.seq (.region false [⟨(some 34), .mv (.tmp 0), none⟩,
  ⟨(some 35), .mv (.tmp 9), none⟩,
  ⟨(some 36), .idxA 1 (.tmp 34) (.tmp 35), none⟩,
  ⟨(some 37), .ld (.int .u64) (.tmp 36), none⟩,
  ⟨(some 38), .mv (.tmp 1), none⟩,
  ⟨(some 39), .mv (.tmp 9), none⟩,
  ⟨(some 40), .idxA 1 (.tmp 38) (.tmp 39), none⟩,
  ⟨(some 41), .ld (.int .u64) (.tmp 40), none⟩,
  ⟨(some 10), .mv (.tmp 37), none⟩,
  ⟨(some 11), .mv (.tmp 41), none⟩,
  ⟨(some 12), .mv (.const (.int .u64 1)), none⟩,
  ⟨(some 13), .mv (.const (.int .u64 0)), none⟩]) (.seq (.seq (.region false [⟨(some 14), .mv (.const (.int .i64 0)), none⟩]) (.block 2 (.loop [(10, .int .u64), (11, .int .u64), (12, .int .u64), (13, .int .u64), (14, .int .i64)] [42, 43, 46, 47, 48, 49, 50, 51, 52, 53, 54, 55, 56, 57, 58, 59, 60, 61, 62, 63, 64, 65, 66, 67, 68, 69, 13, 70, 71, 72, 73, 74, 75, 10, 11, 12, 44, 45, 14] (.seq (.seq (.region false [⟨(some 42), .mv (.tmp 14), none⟩,
  ⟨(some 43), .icmp .lss .i64 (.tmp 42) (.const (.int .i64 64)), none⟩]) (.cond (.tmp 43) .skip (.exit 2))) (.seq (.block 3 (.seq (.seq (.region false [⟨(some 46), .mv (.tmp 2), none⟩,
  ⟨(some 47), .mv (.tmp 46), none⟩,
  ⟨(some 48), .mv (.tmp 10), (some (47, true))⟩,
  ⟨(some 49), .divc .rem .u64 (.tmp 48) 2, (some (47, true))⟩,
  ⟨(some 50), .mv (.tmp 11), (some (47, true))⟩,
  ⟨(some 51), .divc .rem .u64 (.tmp 50) 2, (some (47, true))⟩,
  ⟨(some 52), .arith .add .u64 (.tmp 49) (.tmp 51), (some (47, true))⟩,
  ⟨(some 53), .icmp .eql .u64 (.tmp 52) (.const (.int .u64 2)), (some (47, true))⟩,
  ⟨(some 54), .pick (.tmp 47) (.tmp 53) (.const (.bool false)), none⟩,
  ⟨(some 55), .mv (.tmp 54), none⟩,
  ⟨(some 56), .mv (.tmp 2), (some (55, false))⟩,
  ⟨(some 57), .not (.tmp 56), (some (55, false))⟩,
  ⟨(some 58), .mv (.tmp 57), (some (55, false))⟩,
  ⟨(some 59), .mv (.tmp 10), (some (58, true))⟩,
  ⟨(some 60), .divc .rem .u64 (.tmp 59) 2, (some (58, true))⟩,
  ⟨(some 61), .mv (.tmp 11), (some (58, true))⟩,
  ⟨(some 62), .divc .rem .u64 (.tmp 61) 2, (some (58, true))⟩,
  ⟨(some 63), .arith .add .u64 (.tmp 60) (.tmp 62), (some (58, true))⟩,
  ⟨(some 64), .icmp .eql .u64 (.tmp 63) (.const (.int .u64 1)), (some (58, true))⟩,
  ⟨(some 65), .pick (.tmp 58) (.tmp 64) (.const (.bool false)), (some (55, false))⟩,
  ⟨(some 66), .pick (.tmp 55) (.const (.bool true)) (.tmp 65), none⟩]) (.cond (.tmp 66) (.region false [⟨(some 67), .mv (.tmp 13), none⟩,
  ⟨(some 68), .mv (.tmp 12), none⟩,
  ⟨(some 69), .arith .add .u64 (.tmp 67) (.tmp 68), none⟩,
  ⟨(some 13), .mv (.tmp 69), none⟩]) .skip)) (.region false [⟨(some 70), .mv (.tmp 10), none⟩,
  ⟨(some 71), .divc .quo .u64 (.tmp 70) 2, none⟩,
  ⟨(some 72), .mv (.tmp 11), none⟩,
  ⟨(some 73), .divc .quo .u64 (.tmp 72) 2, none⟩,
  ⟨(some 74), .mv (.tmp 12), none⟩,
  ⟨(some 75), .arith .mul .u64 (.tmp 74) (.const (.int .u64 2)), none⟩,
  ⟨(some 10), .mv (.tmp 71), none⟩,
  ⟨(some 11), .mv (.tmp 73), none⟩,
  ⟨(some 12), .mv (.tmp 75), none⟩]))) (.region false [⟨(some 44), .mv (.tmp 14), none⟩,
  ⟨(some 45), .arith .add .i64 (.tmp 44) (.const (.int .i64 1)), none⟩,
  ⟨(some 14), .mv (.tmp 45), none⟩])))))) (.region false [⟨(some 76), .mv (.tmp 8), none⟩,
  ⟨(some 77), .mv (.tmp 13), none⟩,
  ⟨(some 78), .lit 35 1 #[(.int .u64 0)] [(0, 1, (.tmp 77))], none⟩,
  ⟨(some 79), .app 35 8 1 #[(.int .u64 0)] (.tmp 76) (.tmp 78), none⟩,
  ⟨(some 8), .mv (.tmp 79), none⟩])))) (.region false [⟨(some 32), .mv (.tmp 9), none⟩,
  ⟨(some 33), .arith .add .i64 (.tmp 32) (.const (.int .i64 1)), none⟩,
  ⟨(some 9), .mv (.tmp 33), none⟩])))))) (.seq (.region false [⟨(some 80), .mv (.tmp 8), none⟩,
  ⟨(some 6), .mv (.tmp 80), none⟩,
  ⟨(some 7), .mv (.const (.int .i64 0)), none⟩]) .ret))))))
def loops48 : List (List (Nat × Shp)) := [[(8, .slice), (9, .int .i64)], [(10, .int .u64), (11, .int .u64), (12, .int .u64), (13, .int .u64), (14, .int .i64)]]
def ret48 : List RV := [.tmp 6, .tmp 7]
theorem comp48 : compF Tryd.prog Tryd.f48 loops48 = some (81, ret48, code48) := by kernel_rfl
def J48_6  (meet : Bool) (x : Int) (y : Int) (unit : Int) (z : Int) (k : Int) (next_1 : (Int × Int × Int × Int × Int → Heap → Prop)) (h_5 : Heap) : Prop :=
 BIf meet (PIf (((IntKind.wrap .u64 ((Int.tmod x 2) + (Int.tmod y 2))) : Int) = 2)
 (next_1 ((IntKind.wrap .u64 (Int.tdiv x 2)), (IntKind.wrap .u64 (Int.tdiv y 2)), (IntKind.wrap .u64 (unit * 2)), (IntKind.wrap .u64 (z + unit)), (IntKind.wrap .i64 (k + 1))) h_5)
 (BIf (!meet) (PIf (((IntKind.wrap .u64 ((Int.tmod x 2) + (Int.tmod y 2))) : Int) = 1)
 (next_1 ((IntKind.wrap .u64 (Int.tdiv x 2)), (IntKind.wrap .u64 (Int.tdiv y 2)), (IntKind.wrap .u64 (unit * 2)), (IntKind.wrap .u64 (z + unit)), (IntKind.wrap .i64 (k + 1))) h_5)
 (next_1 ((IntKind.wrap .u64 (Int.tdiv x 2)), (IntKind.wrap .u64 (Int.tdiv y 2)), (IntKind.wrap .u64 (unit * 2)), z, (IntKind.wrap .i64 (k + 1))) h_5)) (next_1 ((IntKind.wrap .u64 (Int.tdiv x 2)), (IntKind.wrap .u64 (Int.tdiv y 2)), (IntKind.wrap .u64 (unit * 2)), z, (IntKind.wrap .i64 (k + 1))) h_5))) (BIf (!meet) (PIf (((IntKind.wrap .u64 ((Int.tmod x 2) + (Int.tmod y 2))) : Int) = 1)
 (next_1 ((IntKind.wrap .u64 (Int.tdiv x 2)), (IntKind.wrap .u64 (Int.tdiv y 2)), (IntKind.wrap .u64 (unit * 2)), (IntKind.wrap .u64 (z + unit)), (IntKind.wrap .i64 (k + 1))) h_5)
 (next_1 ((IntKind.wrap .u64 (Int.tdiv x 2)), (IntKind.wrap .u64 (Int.tdiv y 2)), (IntKind.wrap .u64 (unit * 2)), z, (IntKind.wrap .i64 (k + 1))) h_5)) (next_1 ((IntKind.wrap .u64 (Int.tdiv x 2)), (IntKind.wrap .u64 (Int.tdiv y 2)), (IntKind.wrap .u64 (unit * 2)), z, (IntKind.wrap .i64 (k + 1))) h_5))
def J48_4  (i : Int) (next_ : ((Option Addr × Nat × Nat) × Int → Heap → Prop)) (outA1 : Option Addr) (outN1 : Nat) (outC1 : Nat) (h_9 : Heap) : Prop :=
 next_ ((outA1, outN1, outC1), (IntKind.wrap .i64 (i + 1))) h_9
def J48_5  (outA : (Option Addr)) (outN : Nat) (outC : Nat) (i : Int) (next_ : ((Option Addr × Nat × Nat) × Int → Heap → Prop)) (z1 : Int) (h_6 : Heap) : Prop :=
 let h_7 : Heap := (h_6).push (.cells #[(.int .u64 z1)] 35); ∃ ys : List Value, ReadL h_7 (some (Addr.mk (h_6).size 0 none)) ys ∧ ys.length = 1 * 1 ∧ AppS h_7 outA outN outC 35 8 1 #[(.int .u64 0)] ys 1 fun apA apN apC h_8 => J48_4 i next_ (apA) (apN) (apC) h_8
def B48_7 (meet : Bool) (outA : (Option Addr)) (outN : Nat) (outC : Nat) (i : Int) (next_ : ((Option Addr × Nat × Nat) × Int → Heap → Prop)) (x : Int) (y : Int) (unit : Int) (z : Int) (k : Int) (h_4 : Heap) (next_1 : Int × Int × Int × Int × Int → Heap → Prop) : Prop :=
 PIf ((k : Int) < 64)
 (J48_6 meet x y unit z k next_1 h_4)
 (J48_5 outA outN outC i next_ (z) h_4)
def J48_3  (aA : (Option Addr)) (aN : Nat) (bA : (Option Addr)) (bN : Nat) (meet : Bool) (outA : (Option Addr)) (outN : Nat) (outC : Nat) (i : Int) (next_ : ((Option Addr × Nat × Nat) × Int → Heap → Prop)) (h_3 : Heap) : Prop :=
 0 ≤ (i : Int) ∧ (i : Int) < (aN : Nat) ∧ AtP aA fun ad => ∃ (t : Int), cellH h_3 (Addr.add ad (Int.toNat i * 1)) = some (.int .u64 t) ∧ 0 ≤ (i : Int) ∧ (i : Int) < (bN : Nat) ∧ AtP bA fun ad1 => ∃ (t1 : Int), cellH h_3 (Addr.add ad1 (Int.toNat i * 1)) = some (.int .u64 t1) ∧ LoopT (σ := Int × Int × Int × Int × Int) (fun st_ h_st nx_st => B48_7 meet outA outN outC i next_ (st_.1) (st_.2.1) (st_.2.2.1) (st_.2.2.2.1) (st_.2.2.2.2) h_st nx_st) (t, t1, 1, 0, 0) h_3
def J48_2  (R : Value → Heap → Prop) (outA2 : Option Addr) (outN2 : Nat) (outC2 : Nat) (h_10 : Heap) : Prop :=
 R (.tuple #[(.slice outA2 outN2 outC2), (.int .i64 0)]) h_10
def B48_8 (R : Value → Heap → Prop) (aA : (Option Addr)) (aN : Nat) (bA : (Option Addr)) (bN : Nat) (meet : Bool) (outA : Option Addr) (outN : Nat) (outC : Nat) (i : Int) (h_2 : Heap) (next_ : (Option Addr × Nat × Nat) × Int → Heap → Prop) : Prop :=
 PIf ((i : Int) < ((aN : Nat) : Int))
 (J48_3 aA aN bA bN meet outA outN outC i next_ h_2)
 (J48_2 R (outA) (outN) (outC) h_2)
def J48_1  (R : Value → Heap → Prop) (aA : (Option Addr)) (aN : Nat) (bA : (Option Addr)) (bN : Nat) (meet : Bool) (h_1 : Heap) : Prop :=
 LoopT (σ := (Option Addr × Nat × Nat) × Int) (fun st_ h_st nx_st => B48_8 R aA aN bA bN meet (st_.1.1) (st_.1.2.1) (st_.1.2.2) (st_.2) h_st nx_st) ((none, 0, 0), 0) h_1
def J48_0  (R : Value → Heap → Prop) (aA : (Option Addr)) (aN : Nat) (bA : (Option Addr)) (bN : Nat) (meet : Bool) (h_ : Heap) : Prop :=
 PIf ((((aN : Nat) : Int) : Int) = ((bN : Nat) : Int))
 (J48_1 R aA aN bA bN meet h_)
 (R (.tuple #[(.slice none 0 0), (.int .i64 4)]) h_)
def VC48 (P : Program) (aA : Option Addr) (aN : Nat) (aC : Nat) (bA : Option Addr) (bN : Nat) (bC : Nat) (meet : Bool) (R : Value → Heap → Prop) (h : Heap) : Prop :=
 PIf ((16384 : Int) < ((aN : Nat) : Int))
 (R (.tuple #[(.slice none 0 0), (.int .i64 2)]) h)
 (PIf ((16384 : Int) < ((bN : Nat) : Int))
 (R (.tuple #[(.slice none 0 0), (.int .i64 2)]) h)
 (J48_0 R aA aN bA bN meet h))
theorem vc48 (P : Program) (aA : Option Addr) (aN : Nat) (aC : Nat) (bA : Option Addr) (bN : Nat) (bC : Nat) (meet : Bool) (R : Value → Heap → Prop) (h : Heap) : fnC P ret48 code48 [(.slice aA aN aC), (.slice bA bN bC), (.bool meet)] h R = VC48 P aA aN aC bA bN bC meet R h := by kernel_rfl
theorem run48 (aA : Option Addr) (aN : Nat) (aC : Nat) (bA : Option Addr) (bN : Nat) (bC : Nat) (meet : Bool) (R : Value → Heap → Prop) (h : Heap) (hv : VC48 Tryd.prog aA aN aC bA bN bC meet R h) : CallsH Tryd.prog 48 #[(.slice aA aN aC), (.slice bA bN bC), (.bool meet)] h R := calls_of_fnC (Checked.mixed Tryd.checked) Tryd.func48 comp48 (Nat.le_of_ble_eq_true rfl) (by rw [vc48]; exact hv)

/-! 49: trestle/words.Differ$1 -/
def code49 : SCode := (.seq (.region false [⟨(some 4), .mv (.const (.int .u64 0)), none⟩]) (.seq (.region false [⟨(some 5), .mv (.tmp 0), none⟩,
  ⟨(some 6), .mv (.tmp 1), none⟩,
  ⟨(some 7), .bits .xor .u64 (.tmp 5) (.tmp 6), none⟩,
  ⟨(some 4), .mv (.tmp 7), none⟩]) .ret))
def loops49 : List (List (Nat × Shp)) := []
def ret49 : List RV := [.tmp 4]
theorem comp49 : compF Tryd.prog Tryd.f49 loops49 = some (8, ret49, code49) := by kernel_rfl
def VC49 (P : Program) (x : Int) (y : Int) (R : Value → Heap → Prop) (h : Heap) : Prop :=
 R (.int .u64 (bop .xor .u64 x y)) h
theorem vc49 (P : Program) (x : Int) (y : Int) (R : Value → Heap → Prop) (h : Heap) : fnC P ret49 code49 [(.int .u64 x), (.int .u64 y)] h R = VC49 P x y R h := by kernel_rfl
theorem run49 (x : Int) (y : Int) (R : Value → Heap → Prop) (h : Heap) (hv : VC49 Tryd.prog x y R h) : CallsH Tryd.prog 49 #[(.int .u64 x), (.int .u64 y)] h R := calls_of_fnC (Checked.mixed Tryd.checked) Tryd.func49 comp49 (Nat.le_of_ble_eq_true rfl) (by rw [vc49]; exact hv)

/-! 50: trestle/words.pack -/
def code50 : SCode := (.seq (.region false [⟨(some 2), .mv (.const (.slice none 0 0)), none⟩]) (.seq (.region false [⟨(some 6), .mv (.tmp 0), none⟩,
  ⟨(some 7), .len (.tmp 6), none⟩,
  ⟨(some 8), .call 62 [(.tmp 7)] (.val (.one (.int .i64))), none⟩,
  ⟨(some 9), .mkS 35 8 1 #[(.int .u64 0)] (.tmp 8) (.tmp 8), none⟩,
  ⟨(some 3), .mv (.tmp 9), none⟩]) (.seq (.seq (.region false [⟨(some 10), .mv (.tmp 0), none⟩,
  ⟨(some 11), .len (.tmp 10), none⟩,
  ⟨(some 12), .mv (.const (.int .i64 0)), none⟩]) (.block 0 (.loop [(12, .int .i64)] [13, 14, 15, 16, 4, 5, 17, 18, 19, 20, 21, 22, 23, 24, 25, 26, 27, 28, 12] (.seq (.region false [⟨(some 13), .icmp .lss .i64 (.tmp 12) (.tmp 11), none⟩]) (.seq (.cond (.tmp 13) .skip (.exit 0)) (.seq (.block 1 (.seq (.region false [⟨(some 14), .mv (.tmp 12), none⟩,
  ⟨(some 15), .idxA 1 (.tmp 10) (.tmp 12), none⟩,
  ⟨(some 16), .ld (.bool) (.tmp 15), none⟩,
  ⟨(some 4), .mv (.tmp 14), none⟩,
  ⟨(some 5), .mv (.tmp 16), none⟩]) (.seq (.region false [⟨(some 17), .mv (.tmp 5), none⟩]) (.cond (.tmp 17) (.region false [⟨(some 18), .mv (.tmp 3), none⟩,
  ⟨(some 19), .mv (.tmp 4), none⟩,
  ⟨(some 20), .shc .shr .i64 (.tmp 19) 6, none⟩,
  ⟨(some 21), .idxA 1 (.tmp 18) (.tmp 20), none⟩,
  ⟨(some 22), .ld (.int .u64) (.tmp 21), none⟩,
  ⟨(some 23), .mv (.tmp 4), none⟩,
  ⟨(some 24), .bits .and .i64 (.tmp 23) (.const (.int .i64 63)), none⟩,
  ⟨(some 25), .shv .shl .u64 (.const (.int .u64 1)) (.tmp 24), none⟩,
  ⟨(some 26), .bits .or .u64 (.tmp 22) (.tmp 25), none⟩,
  ⟨(some 27), .idxA 1 (.tmp 18) (.tmp 20), none⟩,
  ⟨none, .st 1 (.tmp 27) (.tmp 26), none⟩]) .skip)))) (.region false [⟨(some 28), .arith .add .i64 (.tmp 12) (.const (.int .i64 1)), none⟩,
  ⟨(some 12), .mv (.tmp 28), none⟩]))))))) (.seq (.region false [⟨(some 29), .mv (.tmp 3), none⟩,
  ⟨(some 2), .mv (.tmp 29), none⟩]) .ret))))
def loops50 : List (List (Nat × Shp)) := [[(12, .int .i64)]]
def ret50 : List RV := [.tmp 2]
theorem comp50 : compF Tryd.prog Tryd.f50 loops50 = some (30, ret50, code50) := by kernel_rfl
def J50_1  (rowA : (Option Addr)) (rowN : Nat) (t : Int) (h_ : Heap) (t1 : Int) (next_ : (Int → Heap → Prop)) (h_3 : Heap) : Prop :=
 0 ≤ (t1 : Int) ∧ (t1 : Int) < (rowN : Nat) ∧ AtP rowA fun ad => ∃ (t2 : Bool), cellH h_3 (Addr.add ad (Int.toNat t1 * 1)) = some (.bool t2) ∧ BIf t2 (0 ≤ ((t1 / ((2 ^ 6 : Nat) : Int)) : Int) ∧ ((t1 / ((2 ^ 6 : Nat) : Int)) : Int) < ((Int.toNat t) : Nat) ∧ ∃ (t3 : Int), cellH h_3 (Addr.add (Addr.mk (h_).size 0 none) (Int.toNat (t1 / ((2 ^ 6 : Nat) : Int)) * 1)) = some (.int .u64 t3) ∧ 0 ≤ ((bop .and .i64 t1 63) : Int) ∧ 0 ≤ ((t1 / ((2 ^ 6 : Nat) : Int)) : Int) ∧ ((t1 / ((2 ^ 6 : Nat) : Int)) : Int) < ((Int.toNat t) : Nat) ∧ StoreH h_3 (Addr.add (Addr.mk (h_).size 0 none) (Int.toNat (t1 / ((2 ^ 6 : Nat) : Int)) * 1)) [(.int .u64 (bop .or .u64 t3 (IntKind.wrap .u64 (1 * 2 ^ min (Int.toNat (bop .and .i64 t1 63)) (IntKind.bits .u64)))))] fun h_4 => next_ ((IntKind.wrap .i64 (t1 + 1))) h_4) (next_ ((IntKind.wrap .i64 (t1 + 1))) h_3)
def J50_0  (R : Value → Heap → Prop) (t : Int) (h_ : Heap) (h_5 : Heap) : Prop :=
 R (.slice (some (Addr.mk (h_).size 0 none)) (Int.toNat t) (Int.toNat t)) h_5
def B50_3 (R : Value → Heap → Prop) (rowA : (Option Addr)) (rowN : Nat) (t : Int) (h_ : Heap) (t1 : Int) (h_2 : Heap) (next_ : Int → Heap → Prop) : Prop :=
 PIf ((t1 : Int) < ((rowN : Nat) : Int))
 (J50_1 rowA rowN t h_ t1 next_ h_2)
 (J50_0 R t h_ h_2)
def VC50 (P : Program) (rowA : Option Addr) (rowN : Nat) (rowC : Nat) (R : Value → Heap → Prop) (h : Heap) : Prop :=
 CallsH P 62 #[(.int .i64 ((rowN : Nat) : Int))] h fun v h_ =>
 ∃ (t : Int), v = (.int .i64 t) ∧ 0 ≤ (t : Int) ∧ (t : Int) ≤ t ∧ (8 : Int) * t ≤ 281474976710656 ∧ let h_1 : Heap := (h_).push (.cells (zeroRow #[(.int .u64 0)] (Int.toNat t * 1)).toArray 35); LoopT (σ := Int) (fun st_ h_st nx_st => B50_3 R rowA rowN t h_ (st_) h_st nx_st) (0) h_1
theorem vc50 (P : Program) (rowA : Option Addr) (rowN : Nat) (rowC : Nat) (R : Value → Heap → Prop) (h : Heap) : fnC P ret50 code50 [(.slice rowA rowN rowC)] h R = VC50 P rowA rowN rowC R h := by kernel_rfl
theorem run50 (rowA : Option Addr) (rowN : Nat) (rowC : Nat) (R : Value → Heap → Prop) (h : Heap) (hv : VC50 Tryd.prog rowA rowN rowC R h) : CallsH Tryd.prog 50 #[(.slice rowA rowN rowC)] h R := calls_of_fnC (Checked.mixed Tryd.checked) Tryd.func50 comp50 (Nat.le_of_ble_eq_true rfl) (by rw [vc50]; exact hv)

/-! 51: trestle/trestleref02.pack -/
def code51 : SCode := (.seq (.region false [⟨(some 2), .mv (.const (.slice none 0 0)), none⟩]) (.seq (.region false [⟨(some 3), .mv (.const (.slice none 0 0)), none⟩]) (.seq (.seq (.region false [⟨(some 4), .mv (.const (.int .i64 0)), none⟩]) (.block 0 (.loop [(3, .slice), (4, .int .i64)] [5, 6, 7, 8, 11, 12, 13, 14, 15, 16, 3, 17, 18, 19, 20, 21, 22, 23, 24, 25, 26, 27, 28, 29, 30, 9, 10, 4] (.seq (.seq (.region false [⟨(some 5), .mv (.tmp 4), none⟩,
  ⟨(some 6), .mv (.tmp 0), none⟩,
  ⟨(some 7), .len (.tmp 6), none⟩,
  ⟨(some 8), .icmp .lss .i64 (.tmp 5) (.tmp 7), none⟩]) (.cond (.tmp 8) .skip (.exit 0))) (.seq (.block 1 (.seq (.seq (.region false [⟨(some 11), .mv (.tmp 4), none⟩,
  ⟨(some 12), .divc .rem .i64 (.tmp 11) 64, none⟩,
  ⟨(some 13), .icmp .eql .i64 (.tmp 12) (.const (.int .i64 0)), none⟩]) (.cond (.tmp 13) (.region false [⟨(some 14), .mv (.tmp 3), none⟩,
  ⟨(some 15), .lit 35 1 #[(.int .u64 0)] [(0, 1, (.const (.int .u64 0)))], none⟩,
  ⟨(some 16), .app 35 8 1 #[(.int .u64 0)] (.tmp 14) (.tmp 15), none⟩,
  ⟨(some 3), .mv (.tmp 16), none⟩]) .skip)) (.seq (.region false [⟨(some 17), .mv (.tmp 0), none⟩,
  ⟨(some 18), .mv (.tmp 4), none⟩,
  ⟨(some 19), .idxA 1 (.tmp 17) (.tmp 18), none⟩,
  ⟨(some 20), .ld (.bool) (.tmp 19), none⟩]) (.cond (.tmp 20) (.region true [⟨(some 21), .mv (.tmp 3), none⟩,
  ⟨(some 22), .mv (.tmp 4), none⟩,
  ⟨(some 23), .divc .quo .i64 (.tmp 22) 64, none⟩,
  ⟨(some 24), .idxA 1 (.tmp 21) (.tmp 23), none⟩,
  ⟨(some 25), .ld (.int .u64) (.tmp 24), none⟩,
  ⟨(some 26), .mv (.tmp 4), none⟩,
  ⟨(some 27), .divc .rem .i64 (.tmp 26) 64, none⟩,
  ⟨(some 28), .call 53 [(.tmp 27)] (.val (.one (.int .u64))), none⟩,
  ⟨(some 29), .arith .add .u64 (.tmp 25) (.tmp 28), none⟩,
  ⟨(some 30), .idxA 1 (.tmp 21) (.tmp 23), none⟩,
  ⟨none, .st 1 (.tmp 30) (.tmp 29), none⟩]) .skip)))) (.region false [⟨(some 9), .mv (.tmp 4), none⟩,
  ⟨(some 10), .arith .add .i64 (.tmp 9) (.const (.int .i64 1)), none⟩,
  ⟨(some 4), .mv (.tmp 10), none⟩])))))) (.seq (.region false [⟨(some 31), .mv (.tmp 3), none⟩,
  ⟨(some 2), .mv (.tmp 31), none⟩]) .ret))))
def loops51 : List (List (Nat × Shp)) := [[(3, .slice), (4, .int .i64)]]
def ret51 : List RV := [.tmp 2]
theorem comp51 : compF Tryd.prog Tryd.f51 loops51 = some (32, ret51, code51) := by kernel_rfl
def J51_2  (P : Program) (bitsA : (Option Addr)) (bitsN : Nat) (i : Int) (next_ : ((Option Addr × Nat × Nat) × Int → Heap → Prop)) (outA1 : Option Addr) (outN1 : Nat) (outC1 : Nat) (h_4 : Heap) : Prop :=
 0 ≤ (i : Int) ∧ (i : Int) < (bitsN : Nat) ∧ AtP bitsA fun ad => ∃ (t : Bool), cellH h_4 (Addr.add ad (Int.toNat i * 1)) = some (.bool t) ∧ BIf t (0 ≤ ((IntKind.wrap .i64 (Int.tdiv i 64)) : Int) ∧ ((IntKind.wrap .i64 (Int.tdiv i 64)) : Int) < (outN1 : Nat) ∧ AtP outA1 fun ad1 => (Addr.block (Addr.add ad1 (Int.toNat (IntKind.wrap .i64 (Int.tdiv i 64)) * 1))) < (h_4).size ∧ ∃ (t1 : Int), cellH h_4 (Addr.add ad1 (Int.toNat (IntKind.wrap .i64 (Int.tdiv i 64)) * 1)) = some (.int .u64 t1) ∧ CallsH P 53 #[(.int .i64 (Int.tmod i 64))] h_4 fun v h_5 =>
 ∃ (t2 : Int), v = (.int .u64 t2) ∧ AgreeH (h_4).size h_4 h_5 ∧ 0 ≤ ((IntKind.wrap .i64 (Int.tdiv i 64)) : Int) ∧ ((IntKind.wrap .i64 (Int.tdiv i 64)) : Int) < (outN1 : Nat) ∧ AtP outA1 fun ad2 => StoreH h_5 (Addr.add ad2 (Int.toNat (IntKind.wrap .i64 (Int.tdiv i 64)) * 1)) [(.int .u64 (IntKind.wrap .u64 (t1 + t2)))] fun h_6 => next_ ((outA1, outN1, outC1), (IntKind.wrap .i64 (i + 1))) h_6) (next_ ((outA1, outN1, outC1), (IntKind.wrap .i64 (i + 1))) h_4)
def J51_1  (P : Program) (bitsA : (Option Addr)) (bitsN : Nat) (outA : (Option Addr)) (outN : Nat) (outC : Nat) (i : Int) (next_ : ((Option Addr × Nat × Nat) × Int → Heap → Prop)) (h_1 : Heap) : Prop :=
 PIf (((Int.tmod i 64) : Int) = 0)
 (let h_2 : Heap := (h_1).push (.cells #[(.int .u64 0)] 35); ∃ ys : List Value, ReadL h_2 (some (Addr.mk (h_1).size 0 none)) ys ∧ ys.length = 1 * 1 ∧ AppS h_2 outA outN outC 35 8 1 #[(.int .u64 0)] ys 1 fun apA apN apC h_3 => J51_2 P bitsA bitsN i next_ (apA) (apN) (apC) h_3)
 (J51_2 P bitsA bitsN i next_ (outA) (outN) (outC) h_1)
def J51_0  (R : Value → Heap → Prop) (outA2 : Option Addr) (outN2 : Nat) (outC2 : Nat) (h_7 : Heap) : Prop :=
 R (.slice outA2 outN2 outC2) h_7
def B51_3 (P : Program) (R : Value → Heap → Prop) (bitsA : (Option Addr)) (bitsN : Nat) (outA : Option Addr) (outN : Nat) (outC : Nat) (i : Int) (h_ : Heap) (next_ : (Option Addr × Nat × Nat) × Int → Heap → Prop) : Prop :=
 PIf ((i : Int) < ((bitsN : Nat) : Int))
 (J51_1 P bitsA bitsN outA outN outC i next_ h_)
 (J51_0 R (outA) (outN) (outC) h_)
def VC51 (P : Program) (bitsA : Option Addr) (bitsN : Nat) (bitsC : Nat) (R : Value → Heap → Prop) (h : Heap) : Prop :=
 LoopT (σ := (Option Addr × Nat × Nat) × Int) (fun st_ h_st nx_st => B51_3 P R bitsA bitsN (st_.1.1) (st_.1.2.1) (st_.1.2.2) (st_.2) h_st nx_st) ((none, 0, 0), 0) h
theorem vc51 (P : Program) (bitsA : Option Addr) (bitsN : Nat) (bitsC : Nat) (R : Value → Heap → Prop) (h : Heap) : fnC P ret51 code51 [(.slice bitsA bitsN bitsC)] h R = VC51 P bitsA bitsN bitsC R h := by kernel_rfl
theorem run51 (bitsA : Option Addr) (bitsN : Nat) (bitsC : Nat) (R : Value → Heap → Prop) (h : Heap) (hv : VC51 Tryd.prog bitsA bitsN bitsC R h) : CallsH Tryd.prog 51 #[(.slice bitsA bitsN bitsC)] h R := calls_of_fnC (Checked.mixed Tryd.checked) Tryd.func51 comp51 (Nat.le_of_ble_eq_true rfl) (by rw [vc51]; exact hv)

/-! 52: trestle/trestleref02.Bits0 -/
def code52 : SCode := (.seq (.region false [⟨(some 2), .mv (.const (.string (ByteArray.mk #[]))), none⟩]) (.seq (.region false [⟨(some 5), .mv (.tmp 0), none⟩,
  ⟨(some 6), .len (.tmp 5), none⟩,
  ⟨(some 7), .mkS 5 1 1 #[(.int .u8 0)] (.tmp 6) (.tmp 6), none⟩,
  ⟨(some 3), .mv (.tmp 7), none⟩]) (.seq (.seq (.region false [⟨(some 4), .mv (.const (.int .i64 0)), none⟩]) (.block 0 (.loop [(4, .int .i64)] [8, 9, 10, 11, 14, 15, 16, 17, 18, 19, 20, 21, 22, 23, 12, 13, 4] (.seq (.seq (.region false [⟨(some 8), .mv (.tmp 4), none⟩,
  ⟨(some 9), .mv (.tmp 0), none⟩,
  ⟨(some 10), .len (.tmp 9), none⟩,
  ⟨(some 11), .icmp .lss .i64 (.tmp 8) (.tmp 10), none⟩]) (.cond (.tmp 11) .skip (.exit 0))) (.seq (.block 1 (.seq (.region false [⟨(some 14), .mv (.tmp 3), none⟩,
  ⟨(some 15), .mv (.tmp 4), none⟩,
  ⟨(some 16), .idxA 1 (.tmp 14) (.tmp 15), none⟩,
  ⟨none, .st 1 (.tmp 16) (.const (.int .u8 48)), none⟩]) (.seq (.region false [⟨(some 17), .mv (.tmp 0), none⟩,
  ⟨(some 18), .mv (.tmp 4), none⟩,
  ⟨(some 19), .idxA 1 (.tmp 17) (.tmp 18), none⟩,
  ⟨(some 20), .ld (.bool) (.tmp 19), none⟩]) (.cond (.tmp 20) (.region false [⟨(some 21), .mv (.tmp 3), none⟩,
  ⟨(some 22), .mv (.tmp 4), none⟩,
  ⟨(some 23), .idxA 1 (.tmp 21) (.tmp 22), none⟩,
  ⟨none, .st 1 (.tmp 23) (.const (.int .u8 49)), none⟩]) .skip)))) (.region false [⟨(some 12), .mv (.tmp 4), none⟩,
  ⟨(some 13), .arith .add .i64 (.tmp 12) (.const (.int .i64 1)), none⟩,
  ⟨(some 4), .mv (.tmp 13), none⟩])))))) (.seq (.region false [⟨(some 24), .mv (.tmp 3), none⟩,
  ⟨(some 25), .toStr (.tmp 24), none⟩,
  ⟨(some 2), .mv (.tmp 25), none⟩]) .ret))))
def loops52 : List (List (Nat × Shp)) := [[(4, .int .i64)]]
def ret52 : List RV := [.tmp 2]
theorem comp52 : compF Tryd.prog Tryd.f52 loops52 = some (26, ret52, code52) := by kernel_rfl
def J52_1  (h : Heap) (bitsA : (Option Addr)) (bitsN : Nat) (i : Int) (next_ : (Int → Heap → Prop)) (h_2 : Heap) : Prop :=
 0 ≤ (i : Int) ∧ (i : Int) < ((Int.toNat ((bitsN : Nat) : Int)) : Nat) ∧ StoreH h_2 (Addr.add (Addr.mk (h).size 0 none) (Int.toNat i * 1)) [(.int .u8 48)] fun h_3 => 0 ≤ (i : Int) ∧ (i : Int) < (bitsN : Nat) ∧ AtP bitsA fun ad => ∃ (t : Bool), cellH h_3 (Addr.add ad (Int.toNat i * 1)) = some (.bool t) ∧ BIf t (0 ≤ (i : Int) ∧ (i : Int) < ((Int.toNat ((bitsN : Nat) : Int)) : Nat) ∧ StoreH h_3 (Addr.add (Addr.mk (h).size 0 none) (Int.toNat i * 1)) [(.int .u8 49)] fun h_4 => next_ ((IntKind.wrap .i64 (i + 1))) h_4) (next_ ((IntKind.wrap .i64 (i + 1))) h_3)
def J52_0  (R : Value → Heap → Prop) (h : Heap) (bitsN : Nat) (h_5 : Heap) : Prop :=
 ∃ b : ByteArray, b.size = (Int.toNat ((bitsN : Nat) : Int)) ∧ ReadL h_5 (some (Addr.mk (h).size 0 none)) (bytesV b) ∧ R (.string b) h_5
def B52_2 (R : Value → Heap → Prop) (h : Heap) (bitsA : (Option Addr)) (bitsN : Nat) (i : Int) (h_1 : Heap) (next_ : Int → Heap → Prop) : Prop :=
 PIf ((i : Int) < ((bitsN : Nat) : Int))
 (J52_1 h bitsA bitsN i next_ h_1)
 (J52_0 R h bitsN h_1)
def VC52 (P : Program) (bitsA : Option Addr) (bitsN : Nat) (bitsC : Nat) (R : Value → Heap → Prop) (h : Heap) : Prop :=
 0 ≤ (((bitsN : Nat) : Int) : Int) ∧ (((bitsN : Nat) : Int) : Int) ≤ ((bitsN : Nat) : Int) ∧ (1 : Int) * ((bitsN : Nat) : Int) ≤ 281474976710656 ∧ let h_ : Heap := (h).push (.cells (zeroRow #[(.int .u8 0)] (Int.toNat ((bitsN : Nat) : Int) * 1)).toArray 5); LoopT (σ := Int) (fun st_ h_st nx_st => B52_2 R h bitsA bitsN (st_) h_st nx_st) (0) h_
theorem vc52 (P : Program) (bitsA : Option Addr) (bitsN : Nat) (bitsC : Nat) (R : Value → Heap → Prop) (h : Heap) : fnC P ret52 code52 [(.slice bitsA bitsN bitsC)] h R = VC52 P bitsA bitsN bitsC R h := by kernel_rfl
theorem run52 (bitsA : Option Addr) (bitsN : Nat) (bitsC : Nat) (R : Value → Heap → Prop) (h : Heap) (hv : VC52 Tryd.prog bitsA bitsN bitsC R h) : CallsH Tryd.prog 52 #[(.slice bitsA bitsN bitsC)] h R := calls_of_fnC (Checked.mixed Tryd.checked) Tryd.func52 comp52 (Nat.le_of_ble_eq_true rfl) (by rw [vc52]; exact hv)

/-! 53: trestle/trestleref02.Two -/
def code53 : SCode := (.seq (.region false [⟨(some 2), .mv (.const (.int .u64 0)), none⟩]) (.seq (.region false [⟨(some 3), .mv (.const (.int .u64 1)), none⟩]) (.seq (.seq (.region false [⟨(some 4), .mv (.const (.int .i64 0)), none⟩]) (.block 0 (.loop [(3, .int .u64), (4, .int .i64)] [5, 6, 7, 10, 11, 3, 8, 9, 4] (.seq (.seq (.region false [⟨(some 5), .mv (.tmp 4), none⟩,
  ⟨(some 6), .mv (.tmp 0), none⟩,
  ⟨(some 7), .icmp .lss .i64 (.tmp 5) (.tmp 6), none⟩]) (.cond (.tmp 7) .skip (.exit 0))) (.seq (.block 1 (.region false [⟨(some 10), .mv (.tmp 3), none⟩,
  ⟨(some 11), .arith .mul .u64 (.tmp 10) (.const (.int .u64 2)), none⟩,
  ⟨(some 3), .mv (.tmp 11), none⟩])) (.region false [⟨(some 8), .mv (.tmp 4), none⟩,
  ⟨(some 9), .arith .add .i64 (.tmp 8) (.const (.int .i64 1)), none⟩,
  ⟨(some 4), .mv (.tmp 9), none⟩])))))) (.seq (.region false [⟨(some 12), .mv (.tmp 3), none⟩,
  ⟨(some 2), .mv (.tmp 12), none⟩]) .ret))))
def loops53 : List (List (Nat × Shp)) := [[(3, .int .u64), (4, .int .i64)]]
def ret53 : List RV := [.tmp 2]
theorem comp53 : compF Tryd.prog Tryd.f53 loops53 = some (13, ret53, code53) := by kernel_rfl
def J53_0  (R : Value → Heap → Prop) (out1 : Int) (h_1 : Heap) : Prop :=
 R (.int .u64 out1) h_1
def B53_1 (R : Value → Heap → Prop) (n : Int) (out : Int) (i : Int) (h_ : Heap) (next_ : Int × Int → Heap → Prop) : Prop :=
 PIf ((i : Int) < n)
 (next_ ((IntKind.wrap .u64 (out * 2)), (IntKind.wrap .i64 (i + 1))) h_)
 (J53_0 R (out) h_)
def VC53 (P : Program) (n : Int) (R : Value → Heap → Prop) (h : Heap) : Prop :=
 LoopT (σ := Int × Int) (fun st_ h_st nx_st => B53_1 R n (st_.1) (st_.2) h_st nx_st) (1, 0) h
theorem vc53 (P : Program) (n : Int) (R : Value → Heap → Prop) (h : Heap) : fnC P ret53 code53 [(.int .i64 n)] h R = VC53 P n R h := by kernel_rfl
theorem run53 (n : Int) (R : Value → Heap → Prop) (h : Heap) (hv : VC53 Tryd.prog n R h) : CallsH Tryd.prog 53 #[(.int .i64 n)] h R := calls_of_fnC (Checked.mixed Tryd.checked) Tryd.func53 comp53 (Nat.le_of_ble_eq_true rfl) (by rw [vc53]; exact hv)

/-! 54: strconv.Itoa -/
def code54 : SCode := (.seq (.region false [⟨(some 2), .mv (.const (.string (ByteArray.mk #[]))), none⟩]) (.seq (.region false [⟨(some 3), .mv (.tmp 0), none⟩,
  ⟨(some 4), .call 65 [(.tmp 3)] (.val (.one (.str))), none⟩,
  ⟨(some 2), .mv (.tmp 4), none⟩]) .ret))
def loops54 : List (List (Nat × Shp)) := []
def ret54 : List RV := [.tmp 2]
theorem comp54 : compF Tryd.prog Tryd.f54 loops54 = some (5, ret54, code54) := by kernel_rfl
def VC54 (P : Program) (i : Int) (R : Value → Heap → Prop) (h : Heap) : Prop :=
 CallsH P 65 #[(.int .i64 i)] h fun v h_ =>
 ∃ (t : ByteArray), v = (.string t) ∧ R (.string t) h_
theorem vc54 (P : Program) (i : Int) (R : Value → Heap → Prop) (h : Heap) : fnC P ret54 code54 [(.int .i64 i)] h R = VC54 P i R h := by kernel_rfl
theorem run54 (i : Int) (R : Value → Heap → Prop) (h : Heap) (hv : VC54 Tryd.prog i R h) : CallsH Tryd.prog 54 #[(.int .i64 i)] h R := calls_of_fnC (Checked.mixed Tryd.checked) Tryd.func54 comp54 (Nat.le_of_ble_eq_true rfl) (by rw [vc54]; exact hv)

/-! 55: trestle/trestleref02.Whole -/
def code55 : SCode := (.seq (.region false [⟨(some 2), .mv (.const (.string (ByteArray.mk #[]))), none⟩]) (.seq (.region false [⟨(some 3), .mv (.const (.string (ByteArray.mk #[]))), none⟩]) (.seq (.block 0 (.loop [(0, .int .i64), (3, .str)] [4, 5, 6, 7, 8, 9, 12, 13, 14, 15, 16, 17, 18, 19, 3, 10, 11, 0] (.seq (.seq (.region false [⟨(some 4), .mv (.tmp 0), none⟩,
  ⟨(some 5), .icmp .gtr .i64 (.tmp 4) (.const (.int .i64 0)), none⟩,
  ⟨(some 6), .mv (.tmp 5), none⟩,
  ⟨(some 7), .mv (.tmp 3), (some (6, false))⟩,
  ⟨(some 8), .scmp .eql (.tmp 7) (.const (.string (ByteArray.mk #[]))), (some (6, false))⟩,
  ⟨(some 9), .pick (.tmp 6) (.const (.bool true)) (.tmp 8), none⟩]) (.cond (.tmp 9) .skip (.exit 0))) (.seq (.block 1 (.region false [⟨(some 12), .mv (.tmp 0), none⟩,
  ⟨(some 13), .divc .rem .i64 (.tmp 12) 10, none⟩,
  ⟨(some 14), .mv (.tmp 0), none⟩,
  ⟨(some 15), .divc .rem .i64 (.tmp 14) 10, none⟩,
  ⟨(some 16), .arith .add .i64 (.tmp 15) (.const (.int .i64 1)), none⟩,
  ⟨(some 17), .slcS (.const (.string (ByteArray.mk #[48, 49, 50, 51, 52, 53, 54, 55, 56, 57]))) (some (.tmp 13)) (some (.tmp 16)), none⟩,
  ⟨(some 18), .mv (.tmp 3), none⟩,
  ⟨(some 19), .sadd (.tmp 17) (.tmp 18), none⟩,
  ⟨(some 3), .mv (.tmp 19), none⟩])) (.region false [⟨(some 10), .mv (.tmp 0), none⟩,
  ⟨(some 11), .divc .quo .i64 (.tmp 10) 10, none⟩,
  ⟨(some 0), .mv (.tmp 11), none⟩]))))) (.seq (.region false [⟨(some 20), .mv (.tmp 3), none⟩,
  ⟨(some 2), .mv (.tmp 20), none⟩]) .ret))))
def loops55 : List (List (Nat × Shp)) := [[(0, .int .i64), (3, .str)]]
def ret55 : List RV := [.tmp 2]
theorem comp55 : compF Tryd.prog Tryd.f55 loops55 = some (21, ret55, code55) := by kernel_rfl
def J55_1  (n1 : Int) (s : ByteArray) (next_ : (Int × ByteArray → Heap → Prop)) (h_1 : Heap) : Prop :=
 0 ≤ ((Int.tmod n1 10) : Int) ∧ ((Int.tmod n1 10) : Int) ≤ (IntKind.wrap .i64 ((Int.tmod n1 10) + 1)) ∧ ((IntKind.wrap .i64 ((Int.tmod n1 10) + 1)) : Int) ≤ ((ByteArray.mk #[48, 49, 50, 51, 52, 53, 54, 55, 56, 57]).size : Nat) ∧ ((ByteArray.mk #[48, 49, 50, 51, 52, 53, 54, 55, 56, 57]).extract (Int.toNat (Int.tmod n1 10)) (Int.toNat (IntKind.wrap .i64 ((Int.tmod n1 10) + 1)))).size + s.size ≤ 9223372036854775807 ∧ next_ ((IntKind.wrap .i64 (Int.tdiv n1 10)), (((ByteArray.mk #[48, 49, 50, 51, 52, 53, 54, 55, 56, 57]).extract (Int.toNat (Int.tmod n1 10)) (Int.toNat (IntKind.wrap .i64 ((Int.tmod n1 10) + 1)))) ++ s)) h_1
def J55_0  (R : Value → Heap → Prop) (s1 : ByteArray) (h_2 : Heap) : Prop :=
 R (.string s1) h_2
def B55_2 (R : Value → Heap → Prop) (n1 : Int) (s : ByteArray) (h_ : Heap) (next_ : Int × ByteArray → Heap → Prop) : Prop :=
 PIf ((0 : Int) < n1)
 (J55_1 n1 s next_ h_)
 (PIf ((s : ByteArray) = (ByteArray.mk #[]))
 (J55_1 n1 s next_ h_)
 (J55_0 R (s) h_))
def VC55 (P : Program) (n : Int) (R : Value → Heap → Prop) (h : Heap) : Prop :=
 LoopT (σ := Int × ByteArray) (fun st_ h_st nx_st => B55_2 R (st_.1) (st_.2) h_st nx_st) (n, (ByteArray.mk #[])) h
theorem vc55 (P : Program) (n : Int) (R : Value → Heap → Prop) (h : Heap) : fnC P ret55 code55 [(.int .i64 n)] h R = VC55 P n R h := by kernel_rfl
theorem run55 (n : Int) (R : Value → Heap → Prop) (h : Heap) (hv : VC55 Tryd.prog n R h) : CallsH Tryd.prog 55 #[(.int .i64 n)] h R := calls_of_fnC (Checked.mixed Tryd.checked) Tryd.func55 comp55 (Nat.le_of_ble_eq_true rfl) (by rw [vc55]; exact hv)

/-! 56: trestle/trestleref02.place -/
def code56 : SCode := (.seq (.region false [⟨(some 4), .alloc 25 (.agg #[(.int .i64 0), (.int .i64 0)]), none⟩]) (.seq (.seq (.region false [⟨(some 5), .mv (.tmp 0), none⟩,
  ⟨(some 6), .lenS (.tmp 5), none⟩,
  ⟨(some 7), .icmp .gtr .i64 (.tmp 6) (.const (.int .i64 262144)), none⟩]) (.cond (.tmp 7) (.seq (.region false [⟨(some 8), .call 58 [(.const (.int .i64 0)), (.const (.int .i64 2))] (.val (.agg [.int .i64, .int .i64])), none⟩,
  ⟨none, .st 2 (.tmp 4) (.tmp 8), none⟩]) .ret) .skip)) (.seq (.seq (.region false [⟨(some 9), .mv (.tmp 1), none⟩,
  ⟨(some 10), .icmp .lss .i64 (.tmp 9) (.const (.int .i64 0)), none⟩,
  ⟨(some 11), .mv (.tmp 10), none⟩,
  ⟨(some 12), .mv (.tmp 1), (some (11, false))⟩,
  ⟨(some 13), .mv (.tmp 0), (some (11, false))⟩,
  ⟨(some 14), .lenS (.tmp 13), (some (11, false))⟩,
  ⟨(some 15), .icmp .gtr .i64 (.tmp 12) (.tmp 14), (some (11, false))⟩,
  ⟨(some 16), .pick (.tmp 11) (.const (.bool true)) (.tmp 15), none⟩]) (.cond (.tmp 16) (.seq (.region false [⟨(some 17), .call 58 [(.const (.int .i64 0)), (.const (.int .i64 1))] (.val (.agg [.int .i64, .int .i64])), none⟩,
  ⟨none, .st 2 (.tmp 4) (.tmp 17), none⟩]) .ret) .skip)) (.seq (.region false [⟨(some 18), .mkAgg #[(.int .i64 0), (.int .i64 0)] [], none⟩,
  ⟨none, .st 2 (.tmp 4) (.tmp 18), none⟩]) .ret))))
def loops56 : List (List (Nat × Shp)) := []
def ret56 : List RV := [.cellN 4 [.int .i64, .int .i64]]
theorem comp56 : compF Tryd.prog Tryd.f56 loops56 = some (19, ret56, code56) := by kernel_rfl
def J56_0  (P : Program) (R : Value → Heap → Prop) (h : Heap) (s : ByteArray) (at_ : Int) (h_3 : Heap) : Prop :=
 PIf ((at_ : Int) < 0)
 (CallsH P 58 #[(.int .i64 0), (.int .i64 1)] h_3 fun v1 h_4 =>
 ∃ (t4 : Int), ∃ (t5 : Int), v1 = (.agg #[(.int .i64 t4), (.int .i64 t5)]) ∧ StoreH h_4 (Addr.mk (h).size 0 none) [(.int .i64 t4), (.int .i64 t5)] fun h_5 => ∃ (t6 : Int), ∃ (t7 : Int), cellsH h_5 (Addr.mk (h).size 0 none) 0 [(.int .i64 t6), (.int .i64 t7)] ∧ R (.agg #[(.int .i64 t6), (.int .i64 t7)]) h_5)
 (PIf ((((s.size : Nat) : Int) : Int) < at_)
 (CallsH P 58 #[(.int .i64 0), (.int .i64 1)] h_3 fun v2 h_6 =>
 ∃ (t8 : Int), ∃ (t9 : Int), v2 = (.agg #[(.int .i64 t8), (.int .i64 t9)]) ∧ StoreH h_6 (Addr.mk (h).size 0 none) [(.int .i64 t8), (.int .i64 t9)] fun h_7 => ∃ (t10 : Int), ∃ (t11 : Int), cellsH h_7 (Addr.mk (h).size 0 none) 0 [(.int .i64 t10), (.int .i64 t11)] ∧ R (.agg #[(.int .i64 t10), (.int .i64 t11)]) h_7)
 (StoreH h_3 (Addr.mk (h).size 0 none) [(.int .i64 0), (.int .i64 0)] fun h_8 => ∃ (t12 : Int), ∃ (t13 : Int), cellsH h_8 (Addr.mk (h).size 0 none) 0 [(.int .i64 t12), (.int .i64 t13)] ∧ R (.agg #[(.int .i64 t12), (.int .i64 t13)]) h_8))
def VC56 (P : Program) (s : ByteArray) (at_ : Int) (R : Value → Heap → Prop) (h : Heap) : Prop :=
 let h_ : Heap := (h).push (.cells #[(.int .i64 0), (.int .i64 0)] 25); PIf ((262144 : Int) < ((s.size : Nat) : Int))
 (CallsH P 58 #[(.int .i64 0), (.int .i64 2)] h_ fun v h_1 =>
 ∃ (t : Int), ∃ (t1 : Int), v = (.agg #[(.int .i64 t), (.int .i64 t1)]) ∧ StoreH h_1 (Addr.mk (h).size 0 none) [(.int .i64 t), (.int .i64 t1)] fun h_2 => ∃ (t2 : Int), ∃ (t3 : Int), cellsH h_2 (Addr.mk (h).size 0 none) 0 [(.int .i64 t2), (.int .i64 t3)] ∧ R (.agg #[(.int .i64 t2), (.int .i64 t3)]) h_2)
 (J56_0 P R h s at_ h_)
theorem vc56 (P : Program) (s : ByteArray) (at_ : Int) (R : Value → Heap → Prop) (h : Heap) : fnC P ret56 code56 [(.string s), (.int .i64 at_)] h R = VC56 P s at_ R h := by kernel_rfl
theorem run56 (s : ByteArray) (at_ : Int) (R : Value → Heap → Prop) (h : Heap) (hv : VC56 Tryd.prog s at_ R h) : CallsH Tryd.prog 56 #[(.string s), (.int .i64 at_)] h R := calls_of_fnC (Checked.mixed Tryd.checked) Tryd.func56 comp56 (Nat.le_of_ble_eq_true rfl) (by rw [vc56]; exact hv)

/-! 57: trestle/trestleref02.Get0 -/
def code57 : SCode := (.seq (.region false [⟨(some 4), .mv (.const (.int .i64 0)), none⟩,
  ⟨(some 5), .mv (.const (.int .i64 0)), none⟩,
  ⟨(some 6), .mv (.const (.bool false)), none⟩]) (.seq (.region false [⟨(some 7), .mv (.const (.int .i64 0)), none⟩,
  ⟨(some 8), .mv (.const (.int .i64 1)), none⟩]) (.seq (.seq (.region false [⟨(some 13), .mv (.tmp 1), none⟩,
  ⟨(some 9), .mv (.tmp 13), none⟩]) (.block 0 (.loop [(7, .int .i64), (8, .int .i64), (9, .int .i64)] [14, 15, 16, 17, 18, 19, 20, 21, 22, 23, 26, 27, 28, 29, 10, 30, 31, 32, 33, 34, 35, 7, 36, 37, 39, 40, 38, 41, 42, 11, 12, 43, 44, 45, 46, 47, 48, 49, 50, 51, 52, 53, 54, 55, 56, 4, 5, 6, 57, 58, 8, 24, 25, 9] (.seq (.seq (.region false [⟨(some 14), .mv (.tmp 9), none⟩,
  ⟨(some 15), .mv (.tmp 0), none⟩,
  ⟨(some 16), .lenS (.tmp 15), none⟩,
  ⟨(some 17), .icmp .lss .i64 (.tmp 14) (.tmp 16), none⟩,
  ⟨(some 18), .mv (.tmp 17), none⟩,
  ⟨(some 19), .mv (.tmp 9), (some (18, true))⟩,
  ⟨(some 20), .mv (.tmp 1), (some (18, true))⟩,
  ⟨(some 21), .arith .add .i64 (.tmp 20) (.const (.int .i64 5)), (some (18, true))⟩,
  ⟨(some 22), .icmp .lss .i64 (.tmp 19) (.tmp 21), (some (18, true))⟩,
  ⟨(some 23), .pick (.tmp 18) (.tmp 22) (.const (.bool false)), none⟩]) (.cond (.tmp 23) .skip (.exit 0))) (.seq (.block 1 (.seq (.region false [⟨(some 26), .mv (.tmp 0), none⟩,
  ⟨(some 27), .mv (.tmp 9), none⟩,
  ⟨(some 28), .idxS (.tmp 26) (.tmp 27), none⟩,
  ⟨(some 29), .conv .i64 (.tmp 28), none⟩,
  ⟨(some 10), .mv (.tmp 29), none⟩]) (.seq (.region false [⟨(some 30), .mv (.tmp 7), none⟩,
  ⟨(some 31), .mv (.tmp 10), none⟩,
  ⟨(some 32), .divc .rem .i64 (.tmp 31) 128, none⟩,
  ⟨(some 33), .mv (.tmp 8), none⟩,
  ⟨(some 34), .arith .mul .i64 (.tmp 32) (.tmp 33), none⟩,
  ⟨(some 35), .arith .add .i64 (.tmp 30) (.tmp 34), none⟩,
  ⟨(some 7), .mv (.tmp 35), none⟩]) (.seq (.seq (.region false [⟨(some 36), .mv (.tmp 10), none⟩,
  ⟨(some 37), .icmp .lss .i64 (.tmp 36) (.const (.int .i64 128)), none⟩]) (.cond (.tmp 37) (.seq (.region false [⟨(some 39), .mv (.tmp 7), none⟩,
  ⟨(some 40), .call 27 [(.tmp 39)] (.tup [.one (.str), .one (.int .i64)]), none⟩,
  ⟨(some 38), .mv (.tmp 40), none⟩,
  ⟨(some 41), .extr (.tmp 38) 0, none⟩,
  ⟨(some 42), .extr (.tmp 38) 1, none⟩,
  ⟨(some 11), .mv (.tmp 41), none⟩,
  ⟨(some 12), .mv (.tmp 42), none⟩]) (.seq (.region false [⟨(some 43), .mv (.tmp 7), none⟩,
  ⟨(some 44), .mv (.tmp 9), none⟩,
  ⟨(some 45), .arith .add .i64 (.tmp 44) (.const (.int .i64 1)), none⟩,
  ⟨(some 46), .mv (.tmp 12), none⟩,
  ⟨(some 47), .icmp .eql .i64 (.tmp 46) (.const (.int .i64 0)), none⟩,
  ⟨(some 48), .mv (.tmp 47), none⟩,
  ⟨(some 49), .mv (.tmp 11), (some (48, true))⟩,
  ⟨(some 50), .mv (.tmp 0), (some (48, true))⟩,
  ⟨(some 51), .mv (.tmp 1), (some (48, true))⟩,
  ⟨(some 52), .mv (.tmp 9), (some (48, true))⟩,
  ⟨(some 53), .arith .add .i64 (.tmp 52) (.const (.int .i64 1)), (some (48, true))⟩,
  ⟨(some 54), .slcS (.tmp 50) (some (.tmp 51)) (some (.tmp 53)), (some (48, true))⟩,
  ⟨(some 55), .scmp .eql (.tmp 49) (.tmp 54), (some (48, true))⟩,
  ⟨(some 56), .pick (.tmp 48) (.tmp 55) (.const (.bool false)), none⟩,
  ⟨(some 4), .mv (.tmp 43), none⟩,
  ⟨(some 5), .mv (.tmp 45), none⟩,
  ⟨(some 6), .mv (.tmp 56), none⟩]) .ret)) .skip)) (.region false [⟨(some 57), .mv (.tmp 8), none⟩,
  ⟨(some 58), .arith .mul .i64 (.tmp 57) (.const (.int .i64 128)), none⟩,
  ⟨(some 8), .mv (.tmp 58), none⟩]))))) (.region false [⟨(some 24), .mv (.tmp 9), none⟩,
  ⟨(some 25), .arith .add .i64 (.tmp 24) (.const (.int .i64 1)), none⟩,
  ⟨(some 9), .mv (.tmp 25), none⟩])))))) (.seq (.region false [⟨(some 4), .mv (.const (.int .i64 0)), none⟩,
  ⟨(some 5), .mv (.const (.int .i64 0)), none⟩,
  ⟨(some 6), .mv (.const (.bool false)), none⟩]) .ret))))
def loops57 : List (List (Nat × Shp)) := [[(7, .int .i64), (8, .int .i64), (9, .int .i64)]]
def ret57 : List RV := [.tmp 4, .tmp 5, .tmp 6]
theorem comp57 : compF Tryd.prog Tryd.f57 loops57 = some (59, ret57, code57) := by kernel_rfl
def J57_1  (P : Program) (R : Value → Heap → Prop) (s : ByteArray) (at_ : Int) (n : Int) (unit : Int) (i : Int) (next_ : (Int × Int × Int → Heap → Prop)) (h_1 : Heap) : Prop :=
 0 ≤ (i : Int) ∧ (i : Int) < (s.size : Nat) ∧ PIf (((IntKind.wrap .i64 (byteAt s i)) : Int) < 128)
 (CallsH P 27 #[(.int .i64 (IntKind.wrap .i64 (n + (IntKind.wrap .i64 ((Int.tmod (IntKind.wrap .i64 (byteAt s i)) 128) * unit)))))] h_1 fun v h_2 =>
 ∃ (t : ByteArray), ∃ (t1 : Int), v = (.tuple #[(.string t), (.int .i64 t1)]) ∧ PIf ((t1 : Int) = 0)
 (0 ≤ (at_ : Int) ∧ (at_ : Int) ≤ (IntKind.wrap .i64 (i + 1)) ∧ ((IntKind.wrap .i64 (i + 1)) : Int) ≤ (s.size : Nat) ∧ PIf ((t : ByteArray) = (s.extract (Int.toNat at_) (Int.toNat (IntKind.wrap .i64 (i + 1)))))
 (R (.tuple #[(.int .i64 (IntKind.wrap .i64 (n + (IntKind.wrap .i64 ((Int.tmod (IntKind.wrap .i64 (byteAt s i)) 128) * unit))))), (.int .i64 (IntKind.wrap .i64 (i + 1))), (.bool true)]) h_2)
 (R (.tuple #[(.int .i64 (IntKind.wrap .i64 (n + (IntKind.wrap .i64 ((Int.tmod (IntKind.wrap .i64 (byteAt s i)) 128) * unit))))), (.int .i64 (IntKind.wrap .i64 (i + 1))), (.bool false)]) h_2))
 (R (.tuple #[(.int .i64 (IntKind.wrap .i64 (n + (IntKind.wrap .i64 ((Int.tmod (IntKind.wrap .i64 (byteAt s i)) 128) * unit))))), (.int .i64 (IntKind.wrap .i64 (i + 1))), (.bool false)]) h_2))
 (next_ ((IntKind.wrap .i64 (n + (IntKind.wrap .i64 ((Int.tmod (IntKind.wrap .i64 (byteAt s i)) 128) * unit)))), (IntKind.wrap .i64 (unit * 128)), (IntKind.wrap .i64 (i + 1))) h_1)
def J57_0  (R : Value → Heap → Prop) (h_3 : Heap) : Prop :=
 R (.tuple #[(.int .i64 0), (.int .i64 0), (.bool false)]) h_3
def B57_2 (P : Program) (R : Value → Heap → Prop) (s : ByteArray) (at_ : Int) (n : Int) (unit : Int) (i : Int) (h_ : Heap) (next_ : Int × Int × Int → Heap → Prop) : Prop :=
 PIf ((i : Int) < ((s.size : Nat) : Int))
 (PIf ((i : Int) < (IntKind.wrap .i64 (at_ + 5)))
 (J57_1 P R s at_ n unit i next_ h_)
 (J57_0 R h_))
 (J57_0 R h_)
def VC57 (P : Program) (s : ByteArray) (at_ : Int) (R : Value → Heap → Prop) (h : Heap) : Prop :=
 LoopT (σ := Int × Int × Int) (fun st_ h_st nx_st => B57_2 P R s at_ (st_.1) (st_.2.1) (st_.2.2) h_st nx_st) (0, 1, at_) h
theorem vc57 (P : Program) (s : ByteArray) (at_ : Int) (R : Value → Heap → Prop) (h : Heap) : fnC P ret57 code57 [(.string s), (.int .i64 at_)] h R = VC57 P s at_ R h := by kernel_rfl
theorem run57 (s : ByteArray) (at_ : Int) (R : Value → Heap → Prop) (h : Heap) (hv : VC57 Tryd.prog s at_ R h) : CallsH Tryd.prog 57 #[(.string s), (.int .i64 at_)] h R := calls_of_fnC (Checked.mixed Tryd.checked) Tryd.func57 comp57 (Nat.le_of_ble_eq_true rfl) (by rw [vc57]; exact hv)

/-! 58: trestle/trestleref02.wrong -/
def code58 : SCode := (.seq (.region false [⟨(some 4), .alloc 25 (.agg #[(.int .i64 0), (.int .i64 0)]), none⟩]) (.seq (.region false [⟨(some 5), .mv (.tmp 0), none⟩,
  ⟨(some 6), .mv (.tmp 1), none⟩,
  ⟨(some 7), .mkAgg #[(.int .i64 0), (.int .i64 0)] [(0, 1, (.tmp 5)), (1, 1, (.tmp 6))], none⟩,
  ⟨none, .st 2 (.tmp 4) (.tmp 7), none⟩]) .ret))
def loops58 : List (List (Nat × Shp)) := []
def ret58 : List RV := [.cellN 4 [.int .i64, .int .i64]]
theorem comp58 : compF Tryd.prog Tryd.f58 loops58 = some (8, ret58, code58) := by kernel_rfl
def VC58 (P : Program) (at_ : Int) (e : Int) (R : Value → Heap → Prop) (h : Heap) : Prop :=
 let h_ : Heap := (h).push (.cells #[(.int .i64 0), (.int .i64 0)] 25); StoreH h_ (Addr.mk (h).size 0 none) [(.int .i64 at_), (.int .i64 e)] fun h_1 => ∃ (t : Int), ∃ (t1 : Int), cellsH h_1 (Addr.mk (h).size 0 none) 0 [(.int .i64 t), (.int .i64 t1)] ∧ R (.agg #[(.int .i64 t), (.int .i64 t1)]) h_1
theorem vc58 (P : Program) (at_ : Int) (e : Int) (R : Value → Heap → Prop) (h : Heap) : fnC P ret58 code58 [(.int .i64 at_), (.int .i64 e)] h R = VC58 P at_ e R h := by kernel_rfl
theorem run58 (at_ : Int) (e : Int) (R : Value → Heap → Prop) (h : Heap) (hv : VC58 Tryd.prog at_ e R h) : CallsH Tryd.prog 58 #[(.int .i64 at_), (.int .i64 e)] h R := calls_of_fnC (Checked.mixed Tryd.checked) Tryd.func58 comp58 (Nat.le_of_ble_eq_true rfl) (by rw [vc58]; exact hv)

/-! 59: strconv.ParseUint -/
def code59 : SCode := (.seq (.region false [⟨(some 6), .mv (.const (.int .u64 0)), none⟩,
  ⟨(some 7), .mv (.const .nilIface), none⟩]) (.seq (.region false [⟨(some 11), .mv (.tmp 0), none⟩,
  ⟨(some 12), .mv (.tmp 1), none⟩,
  ⟨(some 13), .mv (.tmp 2), none⟩,
  ⟨(some 14), .call 66 [(.tmp 11), (.tmp 12), (.tmp 13)] (.tup [.one (.int .u64), .one (.any)]), none⟩,
  ⟨(some 10), .mv (.tmp 14), none⟩,
  ⟨(some 15), .extr (.tmp 10) 0, none⟩,
  ⟨(some 16), .extr (.tmp 10) 1, none⟩,
  ⟨(some 8), .mv (.tmp 15), none⟩,
  ⟨(some 9), .mv (.tmp 16), none⟩]) (.seq (.seq (.region false [⟨(some 17), .mv (.tmp 9), none⟩,
  ⟨(some 18), .isnil .ifc true (.tmp 17), none⟩]) (.cond (.tmp 18) (.seq (.region false [⟨(some 19), .mv (.tmp 8), none⟩,
  ⟨(some 20), .mv (.tmp 0), none⟩,
  ⟨(some 21), .mv (.tmp 1), none⟩,
  ⟨(some 22), .mv (.tmp 2), none⟩,
  ⟨(some 23), .mv (.tmp 9), none⟩,
  ⟨(some 24), .call 67 [(.const (.string (ByteArray.mk #[80, 97, 114, 115, 101, 85, 105, 110, 116]))), (.tmp 20), (.tmp 21), (.tmp 22), (.tmp 23)] (.val (.one (.any))), none⟩,
  ⟨(some 6), .mv (.tmp 19), none⟩,
  ⟨(some 7), .mv (.tmp 24), none⟩]) .ret) .skip)) (.seq (.region false [⟨(some 25), .mv (.tmp 8), none⟩,
  ⟨(some 6), .mv (.tmp 25), none⟩,
  ⟨(some 7), .mv (.const .nilIface), none⟩]) .ret))))
def loops59 : List (List (Nat × Shp)) := []
def ret59 : List RV := [.tmp 6, .tmp 7]
theorem comp59 : compF Tryd.prog Tryd.f59 loops59 = some (26, ret59, code59) := by kernel_rfl
def VC59 (P : Program) (s : ByteArray) (base : Int) (bitSize : Int) (R : Value → Heap → Prop) (h : Heap) : Prop :=
 CallsH P 66 #[(.string s), (.int .i64 base), (.int .i64 bitSize)] h fun v h_ =>
 ∃ (t : Int), ∃ (t1 : Value), v = (.tuple #[(.int .u64 t), t1]) ∧ isNilP .ifc t1 fun p => PIf p
 (R (.tuple #[(.int .u64 t), .nilIface]) h_)
 (CallsH P 67 #[(.string (ByteArray.mk #[80, 97, 114, 115, 101, 85, 105, 110, 116])), (.string s), (.int .i64 base), (.int .i64 bitSize), t1] h_ fun v1 h_1 =>
 ∃ (t2 : Value), v1 = t2 ∧ R (.tuple #[(.int .u64 t), t2]) h_1)
theorem vc59 (P : Program) (s : ByteArray) (base : Int) (bitSize : Int) (R : Value → Heap → Prop) (h : Heap) : fnC P ret59 code59 [(.string s), (.int .i64 base), (.int .i64 bitSize)] h R = VC59 P s base bitSize R h := by kernel_rfl
theorem run59 (s : ByteArray) (base : Int) (bitSize : Int) (R : Value → Heap → Prop) (h : Heap) (hv : VC59 Tryd.prog s base bitSize R h) : CallsH Tryd.prog 59 #[(.string s), (.int .i64 base), (.int .i64 bitSize)] h R := calls_of_fnC (Checked.mixed Tryd.checked) Tryd.func59 comp59 (Nat.le_of_ble_eq_true rfl) (by rw [vc59]; exact hv)

/-! 60: trestle/trestleref02.Number0 -/
def code60 : SCode := (.seq (.region false [⟨(some 4), .mv (.const (.int .i64 0)), none⟩,
  ⟨(some 5), .mv (.const (.int .i64 0)), none⟩,
  ⟨(some 6), .mv (.const (.bool false)), none⟩]) (.seq (.seq (.region false [⟨(some 9), .mv (.tmp 0), none⟩,
  ⟨(some 10), .mv (.tmp 1), none⟩,
  ⟨(some 11), .call 68 [(.tmp 9), (.tmp 10)] (.val (.one (.bool))), none⟩,
  ⟨(some 12), .not (.tmp 11), none⟩,
  ⟨(some 13), .mv (.tmp 12), none⟩,
  ⟨(some 14), .mv (.tmp 0), (some (13, false))⟩,
  ⟨(some 15), .mv (.tmp 1), (some (13, false))⟩,
  ⟨(some 16), .idxS (.tmp 14) (.tmp 15), (some (13, false))⟩,
  ⟨(some 17), .icmp .eql .u8 (.tmp 16) (.const (.int .u8 48)), (some (13, false))⟩,
  ⟨(some 18), .mv (.tmp 17), (some (13, false))⟩,
  ⟨(some 19), .mv (.tmp 0), (some (18, true))⟩,
  ⟨(some 20), .mv (.tmp 1), (some (18, true))⟩,
  ⟨(some 21), .arith .add .i64 (.tmp 20) (.const (.int .i64 1)), (some (18, true))⟩,
  ⟨(some 22), .call 68 [(.tmp 19), (.tmp 21)] (.val (.one (.bool))), (some (18, true))⟩,
  ⟨(some 23), .pick (.tmp 18) (.tmp 22) (.const (.bool false)), (some (13, false))⟩,
  ⟨(some 24), .pick (.tmp 13) (.const (.bool true)) (.tmp 23), none⟩]) (.cond (.tmp 24) (.seq (.region false [⟨(some 4), .mv (.const (.int .i64 0)), none⟩,
  ⟨(some 5), .mv (.const (.int .i64 0)), none⟩,
  ⟨(some 6), .mv (.const (.bool false)), none⟩]) .ret) .skip)) (.seq (.region false [⟨(some 25), .mv (.tmp 1), none⟩,
  ⟨(some 7), .mv (.const (.int .i64 0)), none⟩,
  ⟨(some 8), .mv (.tmp 25), none⟩]) (.seq (.block 0 (.loop [(7, .int .i64), (8, .int .i64)] [26, 27, 28, 29, 30, 31, 32, 33, 34, 35, 36, 7, 37, 38, 4, 5, 6, 39, 40, 8] (.seq (.seq (.region false [⟨(some 26), .mv (.tmp 0), none⟩,
  ⟨(some 27), .mv (.tmp 8), none⟩,
  ⟨(some 28), .call 68 [(.tmp 26), (.tmp 27)] (.val (.one (.bool))), none⟩]) (.cond (.tmp 28) .skip (.exit 0))) (.block 1 (.seq (.region false [⟨(some 29), .mv (.tmp 7), none⟩,
  ⟨(some 30), .arith .mul .i64 (.tmp 29) (.const (.int .i64 10)), none⟩,
  ⟨(some 31), .mv (.tmp 0), none⟩,
  ⟨(some 32), .mv (.tmp 8), none⟩,
  ⟨(some 33), .idxS (.tmp 31) (.tmp 32), none⟩,
  ⟨(some 34), .arith .sub .u8 (.tmp 33) (.const (.int .u8 48)), none⟩,
  ⟨(some 35), .conv .i64 (.tmp 34), none⟩,
  ⟨(some 36), .arith .add .i64 (.tmp 30) (.tmp 35), none⟩,
  ⟨(some 7), .mv (.tmp 36), none⟩]) (.seq (.seq (.region false [⟨(some 37), .mv (.tmp 7), none⟩,
  ⟨(some 38), .icmp .gtr .i64 (.tmp 37) (.const (.int .i64 2147483647)), none⟩]) (.cond (.tmp 38) (.seq (.region false [⟨(some 4), .mv (.const (.int .i64 0)), none⟩,
  ⟨(some 5), .mv (.const (.int .i64 0)), none⟩,
  ⟨(some 6), .mv (.const (.bool false)), none⟩]) .ret) .skip)) (.region false [⟨(some 39), .mv (.tmp 8), none⟩,
  ⟨(some 40), .arith .add .i64 (.tmp 39) (.const (.int .i64 1)), none⟩,
  ⟨(some 8), .mv (.tmp 40), none⟩]))))))) (.seq (.region false [⟨(some 41), .mv (.tmp 7), none⟩,
  ⟨(some 42), .mv (.tmp 8), none⟩,
  ⟨(some 4), .mv (.tmp 41), none⟩,
  ⟨(some 5), .mv (.tmp 42), none⟩,
  ⟨(some 6), .mv (.const (.bool true)), none⟩]) .ret)))))
def loops60 : List (List (Nat × Shp)) := [[(7, .int .i64), (8, .int .i64)]]
def ret60 : List RV := [.tmp 4, .tmp 5, .tmp 6]
theorem comp60 : compF Tryd.prog Tryd.f60 loops60 = some (43, ret60, code60) := by kernel_rfl
def J60_2  (R : Value → Heap → Prop) (s : ByteArray) (n : Int) (i : Int) (next_ : (Int × Int → Heap → Prop)) (h_5 : Heap) : Prop :=
 0 ≤ (i : Int) ∧ (i : Int) < (s.size : Nat) ∧ PIf ((2147483647 : Int) < (IntKind.wrap .i64 ((IntKind.wrap .i64 (n * 10)) + (IntKind.wrap .i64 (IntKind.wrap .u8 ((byteAt s i) - 48))))))
 (R (.tuple #[(.int .i64 0), (.int .i64 0), (.bool false)]) h_5)
 (next_ ((IntKind.wrap .i64 ((IntKind.wrap .i64 (n * 10)) + (IntKind.wrap .i64 (IntKind.wrap .u8 ((byteAt s i) - 48))))), (IntKind.wrap .i64 (i + 1))) h_5)
def J60_1  (R : Value → Heap → Prop) (n1 : Int) (i1 : Int) (h_6 : Heap) : Prop :=
 R (.tuple #[(.int .i64 n1), (.int .i64 i1), (.bool true)]) h_6
def B60_3 (P : Program) (R : Value → Heap → Prop) (s : ByteArray) (n : Int) (i : Int) (h_3 : Heap) (next_ : Int × Int → Heap → Prop) : Prop :=
 CallsH P 68 #[(.string s), (.int .i64 i)] h_3 fun v2 h_4 =>
 ∃ (t2 : Bool), v2 = (.bool t2) ∧ BIf t2 (J60_2 R s n i next_ h_4) (J60_1 R (n) (i) h_4)
def J60_0  (P : Program) (R : Value → Heap → Prop) (s : ByteArray) (at_ : Int) (h_2 : Heap) : Prop :=
 LoopT (σ := Int × Int) (fun st_ h_st nx_st => B60_3 P R s (st_.1) (st_.2) h_st nx_st) (0, at_) h_2
def VC60 (P : Program) (s : ByteArray) (at_ : Int) (R : Value → Heap → Prop) (h : Heap) : Prop :=
 CallsH P 68 #[(.string s), (.int .i64 at_)] h fun v h_ =>
 ∃ (t : Bool), v = (.bool t) ∧ BIf (!t) (R (.tuple #[(.int .i64 0), (.int .i64 0), (.bool false)]) h_) (0 ≤ (at_ : Int) ∧ (at_ : Int) < (s.size : Nat) ∧ PIf (((byteAt s at_) : Int) = 48)
 (CallsH P 68 #[(.string s), (.int .i64 (IntKind.wrap .i64 (at_ + 1)))] h_ fun v1 h_1 =>
 ∃ (t1 : Bool), v1 = (.bool t1) ∧ BIf t1 (R (.tuple #[(.int .i64 0), (.int .i64 0), (.bool false)]) h_1) (J60_0 P R s at_ h_1))
 (J60_0 P R s at_ h_))
theorem vc60 (P : Program) (s : ByteArray) (at_ : Int) (R : Value → Heap → Prop) (h : Heap) : fnC P ret60 code60 [(.string s), (.int .i64 at_)] h R = VC60 P s at_ R h := by kernel_rfl
theorem run60 (s : ByteArray) (at_ : Int) (R : Value → Heap → Prop) (h : Heap) (hv : VC60 Tryd.prog s at_ R h) : CallsH Tryd.prog 60 #[(.string s), (.int .i64 at_)] h R := calls_of_fnC (Checked.mixed Tryd.checked) Tryd.func60 comp60 (Nat.le_of_ble_eq_true rfl) (by rw [vc60]; exact hv)

/-! 61: trestle/trestleref02.Row0 -/
def code61 : SCode := (.seq (.region false [⟨(some 4), .mv (.const (.slice none 0 0)), none⟩]) (.seq (.region false [⟨(some 7), .mv (.tmp 1), none⟩,
  ⟨(some 8), .mkS 4 1 1 #[(.bool false)] (.tmp 7) (.tmp 7), none⟩,
  ⟨(some 5), .mv (.tmp 8), none⟩]) (.seq (.seq (.region false [⟨(some 6), .mv (.const (.int .i64 0)), none⟩]) (.block 0 (.loop [(0, .int .i64), (6, .int .i64)] [9, 10, 11, 14, 15, 16, 17, 18, 19, 20, 21, 0, 12, 13, 6] (.seq (.seq (.region false [⟨(some 9), .mv (.tmp 6), none⟩,
  ⟨(some 10), .mv (.tmp 1), none⟩,
  ⟨(some 11), .icmp .lss .i64 (.tmp 9) (.tmp 10), none⟩]) (.cond (.tmp 11) .skip (.exit 0))) (.seq (.block 1 (.seq (.region false [⟨(some 14), .mv (.tmp 5), none⟩,
  ⟨(some 15), .mv (.tmp 6), none⟩,
  ⟨(some 16), .mv (.tmp 0), none⟩,
  ⟨(some 17), .divc .rem .i64 (.tmp 16) 2, none⟩,
  ⟨(some 18), .icmp .eql .i64 (.tmp 17) (.const (.int .i64 1)), none⟩,
  ⟨(some 19), .idxA 1 (.tmp 14) (.tmp 15), none⟩,
  ⟨none, .st 1 (.tmp 19) (.tmp 18), none⟩]) (.region false [⟨(some 20), .mv (.tmp 0), none⟩,
  ⟨(some 21), .divc .quo .i64 (.tmp 20) 2, none⟩,
  ⟨(some 0), .mv (.tmp 21), none⟩]))) (.region false [⟨(some 12), .mv (.tmp 6), none⟩,
  ⟨(some 13), .arith .add .i64 (.tmp 12) (.const (.int .i64 1)), none⟩,
  ⟨(some 6), .mv (.tmp 13), none⟩])))))) (.seq (.region false [⟨(some 22), .mv (.tmp 5), none⟩,
  ⟨(some 4), .mv (.tmp 22), none⟩]) .ret))))
def loops61 : List (List (Nat × Shp)) := [[(0, .int .i64), (6, .int .i64)]]
def ret61 : List RV := [.tmp 4]
theorem comp61 : compF Tryd.prog Tryd.f61 loops61 = some (23, ret61, code61) := by kernel_rfl
def J61_1  (h : Heap) (n : Int) (index1 : Int) (i : Int) (next_ : (Int × Int → Heap → Prop)) (h_2 : Heap) : Prop :=
 PIf (((Int.tmod index1 2) : Int) = 1)
 (0 ≤ (i : Int) ∧ (i : Int) < ((Int.toNat n) : Nat) ∧ StoreH h_2 (Addr.add (Addr.mk (h).size 0 none) (Int.toNat i * 1)) [(.bool true)] fun h_3 => next_ ((IntKind.wrap .i64 (Int.tdiv index1 2)), (IntKind.wrap .i64 (i + 1))) h_3)
 (0 ≤ (i : Int) ∧ (i : Int) < ((Int.toNat n) : Nat) ∧ StoreH h_2 (Addr.add (Addr.mk (h).size 0 none) (Int.toNat i * 1)) [(.bool false)] fun h_4 => next_ ((IntKind.wrap .i64 (Int.tdiv index1 2)), (IntKind.wrap .i64 (i + 1))) h_4)
def J61_0  (R : Value → Heap → Prop) (h : Heap) (n : Int) (h_5 : Heap) : Prop :=
 R (.slice (some (Addr.mk (h).size 0 none)) (Int.toNat n) (Int.toNat n)) h_5
def B61_2 (R : Value → Heap → Prop) (h : Heap) (n : Int) (index1 : Int) (i : Int) (h_1 : Heap) (next_ : Int × Int → Heap → Prop) : Prop :=
 PIf ((i : Int) < n)
 (J61_1 h n index1 i next_ h_1)
 (J61_0 R h n h_1)
def VC61 (P : Program) (index : Int) (n : Int) (R : Value → Heap → Prop) (h : Heap) : Prop :=
 0 ≤ (n : Int) ∧ (n : Int) ≤ n ∧ (1 : Int) * n ≤ 281474976710656 ∧ let h_ : Heap := (h).push (.cells (zeroRow #[(.bool false)] (Int.toNat n * 1)).toArray 4); LoopT (σ := Int × Int) (fun st_ h_st nx_st => B61_2 R h n (st_.1) (st_.2) h_st nx_st) (index, 0) h_
theorem vc61 (P : Program) (index : Int) (n : Int) (R : Value → Heap → Prop) (h : Heap) : fnC P ret61 code61 [(.int .i64 index), (.int .i64 n)] h R = VC61 P index n R h := by kernel_rfl
theorem run61 (index : Int) (n : Int) (R : Value → Heap → Prop) (h : Heap) (hv : VC61 Tryd.prog index n R h) : CallsH Tryd.prog 61 #[(.int .i64 index), (.int .i64 n)] h R := calls_of_fnC (Checked.mixed Tryd.checked) Tryd.func61 comp61 (Nat.le_of_ble_eq_true rfl) (by rw [vc61]; exact hv)

/-! 62: trestle/words.words -/
def code62 : SCode := (.seq (.region false [⟨(some 2), .mv (.const (.int .i64 0)), none⟩]) (.seq (.region false [⟨(some 3), .mv (.tmp 0), none⟩,
  ⟨(some 4), .arith .add .i64 (.tmp 3) (.const (.int .i64 63)), none⟩,
  ⟨(some 5), .shc .shr .i64 (.tmp 4) 6, none⟩,
  ⟨(some 2), .mv (.tmp 5), none⟩]) .ret))
def loops62 : List (List (Nat × Shp)) := []
def ret62 : List RV := [.tmp 2]
theorem comp62 : compF Tryd.prog Tryd.f62 loops62 = some (6, ret62, code62) := by kernel_rfl
def VC62 (P : Program) (n : Int) (R : Value → Heap → Prop) (h : Heap) : Prop :=
 R (.int .i64 ((IntKind.wrap .i64 (n + 63)) / ((2 ^ 6 : Nat) : Int))) h
theorem vc62 (P : Program) (n : Int) (R : Value → Heap → Prop) (h : Heap) : fnC P ret62 code62 [(.int .i64 n)] h R = VC62 P n R h := by kernel_rfl
theorem run62 (n : Int) (R : Value → Heap → Prop) (h : Heap) (hv : VC62 Tryd.prog n R h) : CallsH Tryd.prog 62 #[(.int .i64 n)] h R := calls_of_fnC (Checked.mixed Tryd.checked) Tryd.func62 comp62 (Nat.le_of_ble_eq_true rfl) (by rw [vc62]; exact hv)

/-! 63: trestle/words.bit -/
def code63 : SCode := (.seq (.region false [⟨(some 4), .mv (.const (.bool false)), none⟩]) (.seq (.region false [⟨(some 5), .mv (.tmp 0), none⟩,
  ⟨(some 6), .mv (.tmp 1), none⟩,
  ⟨(some 7), .shc .shr .i64 (.tmp 6) 6, none⟩,
  ⟨(some 8), .idxA 1 (.tmp 5) (.tmp 7), none⟩,
  ⟨(some 9), .ld (.int .u64) (.tmp 8), none⟩,
  ⟨(some 10), .mv (.tmp 1), none⟩,
  ⟨(some 11), .bits .and .i64 (.tmp 10) (.const (.int .i64 63)), none⟩,
  ⟨(some 12), .shv .shr .u64 (.tmp 9) (.tmp 11), none⟩,
  ⟨(some 13), .bits .and .u64 (.tmp 12) (.const (.int .u64 1)), none⟩,
  ⟨(some 14), .icmp .eql .u64 (.tmp 13) (.const (.int .u64 1)), none⟩,
  ⟨(some 4), .mv (.tmp 14), none⟩]) .ret))
def loops63 : List (List (Nat × Shp)) := []
def ret63 : List RV := [.tmp 4]
theorem comp63 : compF Tryd.prog Tryd.f63 loops63 = some (15, ret63, code63) := by kernel_rfl
def VC63 (P : Program) (wA : Option Addr) (wN : Nat) (wC : Nat) (i : Int) (R : Value → Heap → Prop) (h : Heap) : Prop :=
 0 ≤ ((i / ((2 ^ 6 : Nat) : Int)) : Int) ∧ ((i / ((2 ^ 6 : Nat) : Int)) : Int) < (wN : Nat) ∧ AtP wA fun ad => ∃ (t : Int), cellH h (Addr.add ad (Int.toNat (i / ((2 ^ 6 : Nat) : Int)) * 1)) = some (.int .u64 t) ∧ 0 ≤ ((bop .and .i64 i 63) : Int) ∧ PIf (((bop .and .u64 (t / 2 ^ min (Int.toNat (bop .and .i64 i 63)) (IntKind.bits .u64)) 1) : Int) = 1)
 (R (.bool true) h)
 (R (.bool false) h)
theorem vc63 (P : Program) (wA : Option Addr) (wN : Nat) (wC : Nat) (i : Int) (R : Value → Heap → Prop) (h : Heap) : fnC P ret63 code63 [(.slice wA wN wC), (.int .i64 i)] h R = VC63 P wA wN wC i R h := by kernel_rfl
theorem run63 (wA : Option Addr) (wN : Nat) (wC : Nat) (i : Int) (R : Value → Heap → Prop) (h : Heap) (hv : VC63 Tryd.prog wA wN wC i R h) : CallsH Tryd.prog 63 #[(.slice wA wN wC), (.int .i64 i)] h R := calls_of_fnC (Checked.mixed Tryd.checked) Tryd.func63 comp63 (Nat.le_of_ble_eq_true rfl) (by rw [vc63]; exact hv)

/-! 64: math/bits.OnesCount64 -/
def code64 : SCode := (.seq (.region false [⟨(some 2), .mv (.const (.int .i64 0)), none⟩]) (.seq (.region false [⟨(some 3), .mv (.tmp 0), none⟩,
  ⟨(some 4), .shc .shr .u64 (.tmp 3) 1, none⟩,
  ⟨(some 5), .bits .and .u64 (.tmp 4) (.const (.int .u64 6148914691236517205)), none⟩,
  ⟨(some 6), .mv (.tmp 0), none⟩,
  ⟨(some 7), .bits .and .u64 (.tmp 6) (.const (.int .u64 6148914691236517205)), none⟩,
  ⟨(some 8), .arith .add .u64 (.tmp 5) (.tmp 7), none⟩,
  ⟨(some 0), .mv (.tmp 8), none⟩]) (.seq (.region false [⟨(some 9), .mv (.tmp 0), none⟩,
  ⟨(some 10), .shc .shr .u64 (.tmp 9) 2, none⟩,
  ⟨(some 11), .bits .and .u64 (.tmp 10) (.const (.int .u64 3689348814741910323)), none⟩,
  ⟨(some 12), .mv (.tmp 0), none⟩,
  ⟨(some 13), .bits .and .u64 (.tmp 12) (.const (.int .u64 3689348814741910323)), none⟩,
  ⟨(some 14), .arith .add .u64 (.tmp 11) (.tmp 13), none⟩,
  ⟨(some 0), .mv (.tmp 14), none⟩]) (.seq (.region false [⟨(some 15), .mv (.tmp 0), none⟩,
  ⟨(some 16), .shc .shr .u64 (.tmp 15) 4, none⟩,
  ⟨(some 17), .mv (.tmp 0), none⟩,
  ⟨(some 18), .arith .add .u64 (.tmp 16) (.tmp 17), none⟩,
  ⟨(some 19), .bits .and .u64 (.tmp 18) (.const (.int .u64 1085102592571150095)), none⟩,
  ⟨(some 0), .mv (.tmp 19), none⟩]) (.seq (.region false [⟨(some 20), .mv (.tmp 0), none⟩,
  ⟨(some 21), .mv (.tmp 0), none⟩,
  ⟨(some 22), .shc .shr .u64 (.tmp 21) 8, none⟩,
  ⟨(some 23), .arith .add .u64 (.tmp 20) (.tmp 22), none⟩,
  ⟨(some 0), .mv (.tmp 23), none⟩]) (.seq (.region false [⟨(some 24), .mv (.tmp 0), none⟩,
  ⟨(some 25), .mv (.tmp 0), none⟩,
  ⟨(some 26), .shc .shr .u64 (.tmp 25) 16, none⟩,
  ⟨(some 27), .arith .add .u64 (.tmp 24) (.tmp 26), none⟩,
  ⟨(some 0), .mv (.tmp 27), none⟩]) (.seq (.region false [⟨(some 28), .mv (.tmp 0), none⟩,
  ⟨(some 29), .mv (.tmp 0), none⟩,
  ⟨(some 30), .shc .shr .u64 (.tmp 29) 32, none⟩,
  ⟨(some 31), .arith .add .u64 (.tmp 28) (.tmp 30), none⟩,
  ⟨(some 0), .mv (.tmp 31), none⟩]) (.seq (.region false [⟨(some 32), .mv (.tmp 0), none⟩,
  ⟨(some 33), .conv .i64 (.tmp 32), none⟩,
  ⟨(some 34), .bits .and .i64 (.tmp 33) (.const (.int .i64 127)), none⟩,
  ⟨(some 2), .mv (.tmp 34), none⟩]) .ret))))))))
def loops64 : List (List (Nat × Shp)) := []
def ret64 : List RV := [.tmp 2]
theorem comp64 : compF Tryd.prog Tryd.f64 loops64 = some (35, ret64, code64) := by kernel_rfl
def VC64 (P : Program) (x : Int) (R : Value → Heap → Prop) (h : Heap) : Prop :=
 R (.int .i64 (bop .and .i64 (IntKind.wrap .i64 (IntKind.wrap .u64 ((IntKind.wrap .u64 ((IntKind.wrap .u64 ((bop .and .u64 (IntKind.wrap .u64 (((IntKind.wrap .u64 ((bop .and .u64 ((IntKind.wrap .u64 ((bop .and .u64 (x / ((2 ^ 1 : Nat) : Int)) 6148914691236517205) + (bop .and .u64 x 6148914691236517205))) / ((2 ^ 2 : Nat) : Int)) 3689348814741910323) + (bop .and .u64 (IntKind.wrap .u64 ((bop .and .u64 (x / ((2 ^ 1 : Nat) : Int)) 6148914691236517205) + (bop .and .u64 x 6148914691236517205))) 3689348814741910323))) / ((2 ^ 4 : Nat) : Int)) + (IntKind.wrap .u64 ((bop .and .u64 ((IntKind.wrap .u64 ((bop .and .u64 (x / ((2 ^ 1 : Nat) : Int)) 6148914691236517205) + (bop .and .u64 x 6148914691236517205))) / ((2 ^ 2 : Nat) : Int)) 3689348814741910323) + (bop .and .u64 (IntKind.wrap .u64 ((bop .and .u64 (x / ((2 ^ 1 : Nat) : Int)) 6148914691236517205) + (bop .and .u64 x 6148914691236517205))) 3689348814741910323))))) 1085102592571150095) + ((bop .and .u64 (IntKind.wrap .u64 (((IntKind.wrap .u64 ((bop .and .u64 ((IntKind.wrap .u64 ((bop .and .u64 (x / ((2 ^ 1 : Nat) : Int)) 6148914691236517205) + (bop .and .u64 x 6148914691236517205))) / ((2 ^ 2 : Nat) : Int)) 3689348814741910323) + (bop .and .u64 (IntKind.wrap .u64 ((bop .and .u64 (x / ((2 ^ 1 : Nat) : Int)) 6148914691236517205) + (bop .and .u64 x 6148914691236517205))) 3689348814741910323))) / ((2 ^ 4 : Nat) : Int)) + (IntKind.wrap .u64 ((bop .and .u64 ((IntKind.wrap .u64 ((bop .and .u64 (x / ((2 ^ 1 : Nat) : Int)) 6148914691236517205) + (bop .and .u64 x 6148914691236517205))) / ((2 ^ 2 : Nat) : Int)) 3689348814741910323) + (bop .and .u64 (IntKind.wrap .u64 ((bop .and .u64 (x / ((2 ^ 1 : Nat) : Int)) 6148914691236517205) + (bop .and .u64 x 6148914691236517205))) 3689348814741910323))))) 1085102592571150095) / ((2 ^ 8 : Nat) : Int)))) + ((IntKind.wrap .u64 ((bop .and .u64 (IntKind.wrap .u64 (((IntKind.wrap .u64 ((bop .and .u64 ((IntKind.wrap .u64 ((bop .and .u64 (x / ((2 ^ 1 : Nat) : Int)) 6148914691236517205) + (bop .and .u64 x 6148914691236517205))) / ((2 ^ 2 : Nat) : Int)) 3689348814741910323) + (bop .and .u64 (IntKind.wrap .u64 ((bop .and .u64 (x / ((2 ^ 1 : Nat) : Int)) 6148914691236517205) + (bop .and .u64 x 6148914691236517205))) 3689348814741910323))) / ((2 ^ 4 : Nat) : Int)) + (IntKind.wrap .u64 ((bop .and .u64 ((IntKind.wrap .u64 ((bop .and .u64 (x / ((2 ^ 1 : Nat) : Int)) 6148914691236517205) + (bop .and .u64 x 6148914691236517205))) / ((2 ^ 2 : Nat) : Int)) 3689348814741910323) + (bop .and .u64 (IntKind.wrap .u64 ((bop .and .u64 (x / ((2 ^ 1 : Nat) : Int)) 6148914691236517205) + (bop .and .u64 x 6148914691236517205))) 3689348814741910323))))) 1085102592571150095) + ((bop .and .u64 (IntKind.wrap .u64 (((IntKind.wrap .u64 ((bop .and .u64 ((IntKind.wrap .u64 ((bop .and .u64 (x / ((2 ^ 1 : Nat) : Int)) 6148914691236517205) + (bop .and .u64 x 6148914691236517205))) / ((2 ^ 2 : Nat) : Int)) 3689348814741910323) + (bop .and .u64 (IntKind.wrap .u64 ((bop .and .u64 (x / ((2 ^ 1 : Nat) : Int)) 6148914691236517205) + (bop .and .u64 x 6148914691236517205))) 3689348814741910323))) / ((2 ^ 4 : Nat) : Int)) + (IntKind.wrap .u64 ((bop .and .u64 ((IntKind.wrap .u64 ((bop .and .u64 (x / ((2 ^ 1 : Nat) : Int)) 6148914691236517205) + (bop .and .u64 x 6148914691236517205))) / ((2 ^ 2 : Nat) : Int)) 3689348814741910323) + (bop .and .u64 (IntKind.wrap .u64 ((bop .and .u64 (x / ((2 ^ 1 : Nat) : Int)) 6148914691236517205) + (bop .and .u64 x 6148914691236517205))) 3689348814741910323))))) 1085102592571150095) / ((2 ^ 8 : Nat) : Int)))) / ((2 ^ 16 : Nat) : Int)))) + ((IntKind.wrap .u64 ((IntKind.wrap .u64 ((bop .and .u64 (IntKind.wrap .u64 (((IntKind.wrap .u64 ((bop .and .u64 ((IntKind.wrap .u64 ((bop .and .u64 (x / ((2 ^ 1 : Nat) : Int)) 6148914691236517205) + (bop .and .u64 x 6148914691236517205))) / ((2 ^ 2 : Nat) : Int)) 3689348814741910323) + (bop .and .u64 (IntKind.wrap .u64 ((bop .and .u64 (x / ((2 ^ 1 : Nat) : Int)) 6148914691236517205) + (bop .and .u64 x 6148914691236517205))) 3689348814741910323))) / ((2 ^ 4 : Nat) : Int)) + (IntKind.wrap .u64 ((bop .and .u64 ((IntKind.wrap .u64 ((bop .and .u64 (x / ((2 ^ 1 : Nat) : Int)) 6148914691236517205) + (bop .and .u64 x 6148914691236517205))) / ((2 ^ 2 : Nat) : Int)) 3689348814741910323) + (bop .and .u64 (IntKind.wrap .u64 ((bop .and .u64 (x / ((2 ^ 1 : Nat) : Int)) 6148914691236517205) + (bop .and .u64 x 6148914691236517205))) 3689348814741910323))))) 1085102592571150095) + ((bop .and .u64 (IntKind.wrap .u64 (((IntKind.wrap .u64 ((bop .and .u64 ((IntKind.wrap .u64 ((bop .and .u64 (x / ((2 ^ 1 : Nat) : Int)) 6148914691236517205) + (bop .and .u64 x 6148914691236517205))) / ((2 ^ 2 : Nat) : Int)) 3689348814741910323) + (bop .and .u64 (IntKind.wrap .u64 ((bop .and .u64 (x / ((2 ^ 1 : Nat) : Int)) 6148914691236517205) + (bop .and .u64 x 6148914691236517205))) 3689348814741910323))) / ((2 ^ 4 : Nat) : Int)) + (IntKind.wrap .u64 ((bop .and .u64 ((IntKind.wrap .u64 ((bop .and .u64 (x / ((2 ^ 1 : Nat) : Int)) 6148914691236517205) + (bop .and .u64 x 6148914691236517205))) / ((2 ^ 2 : Nat) : Int)) 3689348814741910323) + (bop .and .u64 (IntKind.wrap .u64 ((bop .and .u64 (x / ((2 ^ 1 : Nat) : Int)) 6148914691236517205) + (bop .and .u64 x 6148914691236517205))) 3689348814741910323))))) 1085102592571150095) / ((2 ^ 8 : Nat) : Int)))) + ((IntKind.wrap .u64 ((bop .and .u64 (IntKind.wrap .u64 (((IntKind.wrap .u64 ((bop .and .u64 ((IntKind.wrap .u64 ((bop .and .u64 (x / ((2 ^ 1 : Nat) : Int)) 6148914691236517205) + (bop .and .u64 x 6148914691236517205))) / ((2 ^ 2 : Nat) : Int)) 3689348814741910323) + (bop .and .u64 (IntKind.wrap .u64 ((bop .and .u64 (x / ((2 ^ 1 : Nat) : Int)) 6148914691236517205) + (bop .and .u64 x 6148914691236517205))) 3689348814741910323))) / ((2 ^ 4 : Nat) : Int)) + (IntKind.wrap .u64 ((bop .and .u64 ((IntKind.wrap .u64 ((bop .and .u64 (x / ((2 ^ 1 : Nat) : Int)) 6148914691236517205) + (bop .and .u64 x 6148914691236517205))) / ((2 ^ 2 : Nat) : Int)) 3689348814741910323) + (bop .and .u64 (IntKind.wrap .u64 ((bop .and .u64 (x / ((2 ^ 1 : Nat) : Int)) 6148914691236517205) + (bop .and .u64 x 6148914691236517205))) 3689348814741910323))))) 1085102592571150095) + ((bop .and .u64 (IntKind.wrap .u64 (((IntKind.wrap .u64 ((bop .and .u64 ((IntKind.wrap .u64 ((bop .and .u64 (x / ((2 ^ 1 : Nat) : Int)) 6148914691236517205) + (bop .and .u64 x 6148914691236517205))) / ((2 ^ 2 : Nat) : Int)) 3689348814741910323) + (bop .and .u64 (IntKind.wrap .u64 ((bop .and .u64 (x / ((2 ^ 1 : Nat) : Int)) 6148914691236517205) + (bop .and .u64 x 6148914691236517205))) 3689348814741910323))) / ((2 ^ 4 : Nat) : Int)) + (IntKind.wrap .u64 ((bop .and .u64 ((IntKind.wrap .u64 ((bop .and .u64 (x / ((2 ^ 1 : Nat) : Int)) 6148914691236517205) + (bop .and .u64 x 6148914691236517205))) / ((2 ^ 2 : Nat) : Int)) 3689348814741910323) + (bop .and .u64 (IntKind.wrap .u64 ((bop .and .u64 (x / ((2 ^ 1 : Nat) : Int)) 6148914691236517205) + (bop .and .u64 x 6148914691236517205))) 3689348814741910323))))) 1085102592571150095) / ((2 ^ 8 : Nat) : Int)))) / ((2 ^ 16 : Nat) : Int)))) / ((2 ^ 32 : Nat) : Int))))) 127)) h
theorem vc64 (P : Program) (x : Int) (R : Value → Heap → Prop) (h : Heap) : fnC P ret64 code64 [(.int .u64 x)] h R = VC64 P x R h := by kernel_rfl
theorem run64 (x : Int) (R : Value → Heap → Prop) (h : Heap) (hv : VC64 Tryd.prog x R h) : CallsH Tryd.prog 64 #[(.int .u64 x)] h R := calls_of_fnC (Checked.mixed Tryd.checked) Tryd.func64 comp64 (Nat.le_of_ble_eq_true rfl) (by rw [vc64]; exact hv)
end Go.Proofs.YtbgjbokcngdnfaaDoor
