/- Words and facts that the claim's proof leans on. No condition. -/
import Derived.Test.YtbgjbokcngdnfaaDoorHxL
import Derived.Test.YtbgjbokcngdnfaaDoorChecked
set_option maxRecDepth 100000
set_option linter.unusedVariables false
namespace Go.Proofs.YtbgjbokcngdnfaaDoor
open Go.Hx

/-! 66: internal/strconv.ParseUint -/
def rest66 : SCode := (.seq (.region false [⟨(some 23), .mv (.tmp 0), none⟩,
  ⟨(some 9), .mv (.tmp 23), none⟩]) (.seq (.block 0 (.seq (.region false [⟨(some 26), .mv (.tmp 1), none⟩,
  ⟨(some 27), .icmp .leq .i64 (.const (.int .i64 2)) (.tmp 26), none⟩,
  ⟨(some 28), .mv (.tmp 27), none⟩,
  ⟨(some 29), .mv (.tmp 1), (some (28, true))⟩,
  ⟨(some 30), .icmp .leq .i64 (.tmp 29) (.const (.int .i64 36)), (some (28, true))⟩,
  ⟨(some 31), .pick (.tmp 28) (.tmp 30) (.const (.bool false)), none⟩,
  ⟨(some 25), .mv (.tmp 31), none⟩]) (.cond (.tmp 25) .skip (.seq (.region false [⟨(some 33), .mv (.tmp 1), none⟩,
  ⟨(some 34), .icmp .eql .i64 (.tmp 33) (.const (.int .i64 0)), none⟩,
  ⟨(some 32), .mv (.tmp 34), none⟩]) (.cond (.tmp 32) (.seq (.region false [⟨(some 1), .mv (.const (.int .i64 10)), none⟩]) (.seq (.region false [⟨(some 35), .mv (.tmp 0), none⟩,
  ⟨(some 36), .idxS (.tmp 35) (.const (.int .i64 0)), none⟩,
  ⟨(some 37), .icmp .eql .u8 (.tmp 36) (.const (.int .u8 48)), none⟩]) (.cond (.tmp 37) (.block 1 (.seq (.region false [⟨(some 41), .mv (.tmp 0), none⟩,
  ⟨(some 42), .lenS (.tmp 41), none⟩,
  ⟨(some 43), .icmp .geq .i64 (.tmp 42) (.const (.int .i64 3)), none⟩,
  ⟨(some 44), .mv (.tmp 43), none⟩,
  ⟨(some 45), .mv (.tmp 0), (some (44, true))⟩,
  ⟨(some 46), .idxS (.tmp 45) (.const (.int .i64 1)), (some (44, true))⟩,
  ⟨(some 47), .call 70 [(.tmp 46)] (.val (.one (.int .u8))), (some (44, true))⟩,
  ⟨(some 48), .icmp .eql .u8 (.tmp 47) (.const (.int .u8 98)), (some (44, true))⟩,
  ⟨(some 49), .pick (.tmp 44) (.tmp 48) (.const (.bool false)), none⟩,
  ⟨(some 40), .mv (.tmp 49), none⟩]) (.cond (.tmp 40) (.seq (.region false [⟨(some 1), .mv (.const (.int .i64 2)), none⟩]) (.region false [⟨(some 50), .mv (.tmp 0), none⟩,
  ⟨(some 51), .slcS (.tmp 50) (some (.const (.int .i64 2))) none, none⟩,
  ⟨(some 0), .mv (.tmp 51), none⟩])) (.seq (.region false [⟨(some 53), .mv (.tmp 0), none⟩,
  ⟨(some 54), .lenS (.tmp 53), none⟩,
  ⟨(some 55), .icmp .geq .i64 (.tmp 54) (.const (.int .i64 3)), none⟩,
  ⟨(some 56), .mv (.tmp 55), none⟩,
  ⟨(some 57), .mv (.tmp 0), (some (56, true))⟩,
  ⟨(some 58), .idxS (.tmp 57) (.const (.int .i64 1)), (some (56, true))⟩,
  ⟨(some 59), .call 70 [(.tmp 58)] (.val (.one (.int .u8))), (some (56, true))⟩,
  ⟨(some 60), .icmp .eql .u8 (.tmp 59) (.const (.int .u8 111)), (some (56, true))⟩,
  ⟨(some 61), .pick (.tmp 56) (.tmp 60) (.const (.bool false)), none⟩,
  ⟨(some 52), .mv (.tmp 61), none⟩]) (.cond (.tmp 52) (.seq (.region false [⟨(some 1), .mv (.const (.int .i64 8)), none⟩]) (.region false [⟨(some 62), .mv (.tmp 0), none⟩,
  ⟨(some 63), .slcS (.tmp 62) (some (.const (.int .i64 2))) none, none⟩,
  ⟨(some 0), .mv (.tmp 63), none⟩])) (.seq (.region false [⟨(some 65), .mv (.tmp 0), none⟩,
  ⟨(some 66), .lenS (.tmp 65), none⟩,
  ⟨(some 67), .icmp .geq .i64 (.tmp 66) (.const (.int .i64 3)), none⟩,
  ⟨(some 68), .mv (.tmp 67), none⟩,
  ⟨(some 69), .mv (.tmp 0), (some (68, true))⟩,
  ⟨(some 70), .idxS (.tmp 69) (.const (.int .i64 1)), (some (68, true))⟩,
  ⟨(some 71), .call 70 [(.tmp 70)] (.val (.one (.int .u8))), (some (68, true))⟩,
  ⟨(some 72), .icmp .eql .u8 (.tmp 71) (.const (.int .u8 120)), (some (68, true))⟩,
  ⟨(some 73), .pick (.tmp 68) (.tmp 72) (.const (.bool false)), none⟩,
  ⟨(some 64), .mv (.tmp 73), none⟩]) (.cond (.tmp 64) (.seq (.region false [⟨(some 1), .mv (.const (.int .i64 16)), none⟩]) (.region false [⟨(some 74), .mv (.tmp 0), none⟩,
  ⟨(some 75), .slcS (.tmp 74) (some (.const (.int .i64 2))) none, none⟩,
  ⟨(some 0), .mv (.tmp 75), none⟩])) (.seq (.region false [⟨(some 1), .mv (.const (.int .i64 8)), none⟩]) (.region false [⟨(some 38), .mv (.tmp 0), none⟩,
  ⟨(some 39), .slcS (.tmp 38) (some (.const (.int .i64 1))) none, none⟩,
  ⟨(some 0), .mv (.tmp 39), none⟩]))))))))) .skip))) (.seq (.region false [⟨(some 24), .ifc 82 (.const (.int .i64 3)), none⟩,
  ⟨(some 6), .mv (.const (.int .u64 0)), none⟩,
  ⟨(some 7), .mv (.tmp 24), none⟩]) .ret)))))) (.seq (.seq (.region false [⟨(some 76), .mv (.tmp 2), none⟩,
  ⟨(some 77), .icmp .eql .i64 (.tmp 76) (.const (.int .i64 0)), none⟩]) (.cond (.tmp 77) (.region false [⟨(some 2), .mv (.const (.int .i64 64)), none⟩]) (.seq (.region false [⟨(some 78), .mv (.tmp 2), none⟩,
  ⟨(some 79), .icmp .lss .i64 (.tmp 78) (.const (.int .i64 0)), none⟩,
  ⟨(some 80), .mv (.tmp 79), none⟩,
  ⟨(some 81), .mv (.tmp 2), (some (80, false))⟩,
  ⟨(some 82), .icmp .gtr .i64 (.tmp 81) (.const (.int .i64 64)), (some (80, false))⟩,
  ⟨(some 83), .pick (.tmp 80) (.const (.bool true)) (.tmp 82), none⟩]) (.cond (.tmp 83) (.seq (.region false [⟨(some 84), .ifc 82 (.const (.int .i64 4)), none⟩,
  ⟨(some 6), .mv (.const (.int .u64 0)), none⟩,
  ⟨(some 7), .mv (.tmp 84), none⟩]) .ret) .skip)))) (.seq (.region false [⟨(some 10), .mv (.const (.int .u64 0)), none⟩]) (.seq (.seq (.region false [⟨(some 85), .mv (.tmp 1), none⟩]) (.block 2 (.seq (.region false [⟨(some 91), .icmp .eql .i64 (.tmp 85) (.const (.int .i64 10)), none⟩,
  ⟨(some 90), .mv (.tmp 91), none⟩]) (.cond (.tmp 90) (.region false [⟨(some 10), .mv (.const (.int .u64 1844674407370955162)), none⟩]) (.seq (.region false [⟨(some 93), .icmp .eql .i64 (.tmp 85) (.const (.int .i64 16)), none⟩,
  ⟨(some 92), .mv (.tmp 93), none⟩]) (.cond (.tmp 92) (.region false [⟨(some 10), .mv (.const (.int .u64 1152921504606846976)), none⟩]) (.region false [⟨(some 86), .mv (.tmp 1), none⟩,
  ⟨(some 87), .conv .u64 (.tmp 86), none⟩,
  ⟨(some 88), .divv .quo .u64 (.const (.int .u64 18446744073709551615)) (.tmp 87), none⟩,
  ⟨(some 89), .arith .add .u64 (.tmp 88) (.const (.int .u64 1)), none⟩,
  ⟨(some 10), .mv (.tmp 89), none⟩]))))))) (.seq (.region false [⟨(some 94), .mv (.tmp 2), none⟩,
  ⟨(some 95), .conv .u64 (.tmp 94), none⟩,
  ⟨(some 96), .shv .shl .u64 (.const (.int .u64 1)) (.tmp 95), none⟩,
  ⟨(some 97), .arith .sub .u64 (.tmp 96) (.const (.int .u64 1)), none⟩,
  ⟨(some 11), .mv (.tmp 97), none⟩]) (.seq (.region false [⟨(some 12), .mv (.const (.bool false)), none⟩]) (.seq (.region false [⟨(some 13), .mv (.const (.int .u64 0)), none⟩]) (.seq (.seq (.region false [⟨(some 98), .mv (.tmp 0), none⟩,
  ⟨(some 99), .toBytes 5 (.tmp 98), none⟩,
  ⟨(some 100), .len (.tmp 99), none⟩,
  ⟨(some 101), .mv (.const (.int .i64 0)), none⟩]) (.block 3 (.loop [(12, .bool), (13, .int .u64), (101, .int .i64)] [102, 103, 104, 15, 16, 107, 108, 109, 110, 111, 106, 12, 113, 114, 115, 116, 117, 118, 112, 119, 120, 16, 122, 123, 124, 125, 126, 127, 128, 129, 121, 130, 131, 132, 133, 16, 105, 6, 7, 134, 135, 136, 137, 138, 6, 7, 139, 140, 141, 142, 143, 6, 7, 144, 145, 146, 147, 13, 148, 149, 150, 151, 17, 152, 153, 154, 155, 156, 157, 158, 159, 160, 161, 6, 7, 162, 13, 163, 101] (.seq (.region false [⟨(some 102), .icmp .lss .i64 (.tmp 101) (.tmp 100), none⟩]) (.seq (.cond (.tmp 102) .skip (.exit 3)) (.seq (.block 4 (.seq (.region false [⟨(some 103), .idxA 1 (.tmp 99) (.tmp 101), none⟩,
  ⟨(some 104), .ld (.int .u8) (.tmp 103), none⟩,
  ⟨(some 15), .mv (.tmp 104), none⟩]) (.seq (.region false [⟨(some 16), .mv (.const (.int .u8 0)), none⟩]) (.seq (.block 5 (.seq (.region false [⟨(some 107), .mv (.tmp 15), none⟩,
  ⟨(some 108), .icmp .eql .u8 (.tmp 107) (.const (.int .u8 95)), none⟩,
  ⟨(some 109), .mv (.tmp 108), none⟩,
  ⟨(some 110), .mv (.tmp 8), (some (109, true))⟩,
  ⟨(some 111), .pick (.tmp 109) (.tmp 110) (.const (.bool false)), none⟩,
  ⟨(some 106), .mv (.tmp 111), none⟩]) (.cond (.tmp 106) (.seq (.region false [⟨(some 12), .mv (.const (.bool true)), none⟩]) (.exit 4)) (.seq (.region false [⟨(some 113), .mv (.tmp 15), none⟩,
  ⟨(some 114), .icmp .leq .u8 (.const (.int .u8 48)) (.tmp 113), none⟩,
  ⟨(some 115), .mv (.tmp 114), none⟩,
  ⟨(some 116), .mv (.tmp 15), (some (115, true))⟩,
  ⟨(some 117), .icmp .leq .u8 (.tmp 116) (.const (.int .u8 57)), (some (115, true))⟩,
  ⟨(some 118), .pick (.tmp 115) (.tmp 117) (.const (.bool false)), none⟩,
  ⟨(some 112), .mv (.tmp 118), none⟩]) (.cond (.tmp 112) (.region false [⟨(some 119), .mv (.tmp 15), none⟩,
  ⟨(some 120), .arith .sub .u8 (.tmp 119) (.const (.int .u8 48)), none⟩,
  ⟨(some 16), .mv (.tmp 120), none⟩]) (.seq (.region false [⟨(some 122), .mv (.tmp 15), none⟩,
  ⟨(some 123), .call 70 [(.tmp 122)] (.val (.one (.int .u8))), none⟩,
  ⟨(some 124), .icmp .leq .u8 (.const (.int .u8 97)) (.tmp 123), none⟩,
  ⟨(some 125), .mv (.tmp 124), none⟩,
  ⟨(some 126), .mv (.tmp 15), (some (125, true))⟩,
  ⟨(some 127), .call 70 [(.tmp 126)] (.val (.one (.int .u8))), (some (125, true))⟩,
  ⟨(some 128), .icmp .leq .u8 (.tmp 127) (.const (.int .u8 122)), (some (125, true))⟩,
  ⟨(some 129), .pick (.tmp 125) (.tmp 128) (.const (.bool false)), none⟩,
  ⟨(some 121), .mv (.tmp 129), none⟩]) (.cond (.tmp 121) (.region false [⟨(some 130), .mv (.tmp 15), none⟩,
  ⟨(some 131), .call 70 [(.tmp 130)] (.val (.one (.int .u8))), none⟩,
  ⟨(some 132), .arith .sub .u8 (.tmp 131) (.const (.int .u8 97)), none⟩,
  ⟨(some 133), .arith .add .u8 (.tmp 132) (.const (.int .u8 10)), none⟩,
  ⟨(some 16), .mv (.tmp 133), none⟩]) (.seq (.region false [⟨(some 105), .ifc 82 (.const (.int .i64 2)), none⟩,
  ⟨(some 6), .mv (.const (.int .u64 0)), none⟩,
  ⟨(some 7), .mv (.tmp 105), none⟩]) .ret)))))))) (.seq (.seq (.region false [⟨(some 134), .mv (.tmp 16), none⟩,
  ⟨(some 135), .mv (.tmp 1), none⟩,
  ⟨(some 136), .conv .u8 (.tmp 135), none⟩,
  ⟨(some 137), .icmp .geq .u8 (.tmp 134) (.tmp 136), none⟩]) (.cond (.tmp 137) (.seq (.region false [⟨(some 138), .ifc 82 (.const (.int .i64 2)), none⟩,
  ⟨(some 6), .mv (.const (.int .u64 0)), none⟩,
  ⟨(some 7), .mv (.tmp 138), none⟩]) .ret) .skip)) (.seq (.seq (.region false [⟨(some 139), .mv (.tmp 13), none⟩,
  ⟨(some 140), .mv (.tmp 10), none⟩,
  ⟨(some 141), .icmp .geq .u64 (.tmp 139) (.tmp 140), none⟩]) (.cond (.tmp 141) (.seq (.region false [⟨(some 142), .mv (.tmp 11), none⟩,
  ⟨(some 143), .ifc 82 (.const (.int .i64 1)), none⟩,
  ⟨(some 6), .mv (.tmp 142), none⟩,
  ⟨(some 7), .mv (.tmp 143), none⟩]) .ret) .skip)) (.seq (.region false [⟨(some 144), .mv (.tmp 13), none⟩,
  ⟨(some 145), .mv (.tmp 1), none⟩,
  ⟨(some 146), .conv .u64 (.tmp 145), none⟩,
  ⟨(some 147), .arith .mul .u64 (.tmp 144) (.tmp 146), none⟩,
  ⟨(some 13), .mv (.tmp 147), none⟩]) (.seq (.region false [⟨(some 148), .mv (.tmp 13), none⟩,
  ⟨(some 149), .mv (.tmp 16), none⟩,
  ⟨(some 150), .conv .u64 (.tmp 149), none⟩,
  ⟨(some 151), .arith .add .u64 (.tmp 148) (.tmp 150), none⟩,
  ⟨(some 17), .mv (.tmp 151), none⟩]) (.seq (.seq (.region false [⟨(some 152), .mv (.tmp 17), none⟩,
  ⟨(some 153), .mv (.tmp 13), none⟩,
  ⟨(some 154), .icmp .lss .u64 (.tmp 152) (.tmp 153), none⟩,
  ⟨(some 155), .mv (.tmp 154), none⟩,
  ⟨(some 156), .mv (.tmp 17), (some (155, false))⟩,
  ⟨(some 157), .mv (.tmp 11), (some (155, false))⟩,
  ⟨(some 158), .icmp .gtr .u64 (.tmp 156) (.tmp 157), (some (155, false))⟩,
  ⟨(some 159), .pick (.tmp 155) (.const (.bool true)) (.tmp 158), none⟩]) (.cond (.tmp 159) (.seq (.region false [⟨(some 160), .mv (.tmp 11), none⟩,
  ⟨(some 161), .ifc 82 (.const (.int .i64 1)), none⟩,
  ⟨(some 6), .mv (.tmp 160), none⟩,
  ⟨(some 7), .mv (.tmp 161), none⟩]) .ret) .skip)) (.region false [⟨(some 162), .mv (.tmp 17), none⟩,
  ⟨(some 13), .mv (.tmp 162), none⟩])))))))))) (.region false [⟨(some 163), .arith .add .i64 (.tmp 101) (.const (.int .i64 1)), none⟩,
  ⟨(some 101), .mv (.tmp 163), none⟩]))))))) (.seq (.seq (.region false [⟨(some 164), .mv (.tmp 12), none⟩,
  ⟨(some 165), .mv (.tmp 164), none⟩,
  ⟨(some 166), .mv (.tmp 9), (some (165, true))⟩,
  ⟨(some 167), .call 71 [(.tmp 166)] (.val (.one (.bool))), (some (165, true))⟩,
  ⟨(some 168), .not (.tmp 167), (some (165, true))⟩,
  ⟨(some 169), .pick (.tmp 165) (.tmp 168) (.const (.bool false)), none⟩]) (.cond (.tmp 169) (.seq (.region false [⟨(some 170), .ifc 82 (.const (.int .i64 2)), none⟩,
  ⟨(some 6), .mv (.const (.int .u64 0)), none⟩,
  ⟨(some 7), .mv (.tmp 170), none⟩]) .ret) .skip)) (.seq (.region false [⟨(some 171), .mv (.tmp 13), none⟩,
  ⟨(some 6), .mv (.tmp 171), none⟩,
  ⟨(some 7), .mv (.const .nilIface), none⟩]) .ret)))))))))))
def code66 : SCode := (.seq (.region false [⟨(some 6), .mv (.const (.int .u64 0)), none⟩,
  ⟨(some 7), .mv (.const .nilIface), none⟩]) (.seq (.seq (.region false [⟨(some 18), .mv (.tmp 0), none⟩,
  ⟨(some 19), .scmp .eql (.tmp 18) (.const (.string (ByteArray.mk #[]))), none⟩]) (.cond (.tmp 19) (.seq (.region false [⟨(some 20), .ifc 82 (.const (.int .i64 2)), none⟩,
  ⟨(some 6), .mv (.const (.int .u64 0)), none⟩,
  ⟨(some 7), .mv (.tmp 20), none⟩]) .ret) .skip)) (.seq (.region false [⟨(some 21), .mv (.tmp 1), none⟩,
  ⟨(some 22), .icmp .eql .i64 (.tmp 21) (.const (.int .i64 0)), none⟩,
  ⟨(some 8), .mv (.tmp 22), none⟩]) rest66)))
def loops66 : List (List (Nat × Shp)) := [[(12, .bool), (13, .int .u64), (101, .int .i64)]]
def ret66 : List RV := [.tmp 6, .tmp 7]
theorem comp66 : compF Tryd.prog Tryd.f66 loops66 = some (172, ret66, code66) := by kernel_rfl
def J66_18  (R : Value → Heap → Prop) (base2 : Int) (bitSize2 : Int) (n2 : Int) (t23 : Int) (next_1 : (Bool × Int × Int → Heap → Prop)) (underscores4 : Bool) (d1 : Int) (h_40 : Heap) : Prop :=
 PIf (((IntKind.wrap .u64 ((IntKind.wrap .u64 (n2 * (IntKind.wrap .u64 base2))) + (IntKind.wrap .u64 d1))) : Int) < (IntKind.wrap .u64 (n2 * (IntKind.wrap .u64 base2))))
 (R (.tuple #[(.int .u64 (IntKind.wrap .u64 ((IntKind.wrap .u64 (1 * 2 ^ min (Int.toNat (IntKind.wrap .u64 bitSize2)) (IntKind.bits .u64))) - 1))), (.iface 82 (.int .i64 1))]) h_40)
 (PIf (((IntKind.wrap .u64 ((IntKind.wrap .u64 (1 * 2 ^ min (Int.toNat (IntKind.wrap .u64 bitSize2)) (IntKind.bits .u64))) - 1)) : Int) < (IntKind.wrap .u64 ((IntKind.wrap .u64 (n2 * (IntKind.wrap .u64 base2))) + (IntKind.wrap .u64 d1))))
 (R (.tuple #[(.int .u64 (IntKind.wrap .u64 ((IntKind.wrap .u64 (1 * 2 ^ min (Int.toNat (IntKind.wrap .u64 bitSize2)) (IntKind.bits .u64))) - 1))), (.iface 82 (.int .i64 1))]) h_40)
 (next_1 (underscores4, (IntKind.wrap .u64 ((IntKind.wrap .u64 (n2 * (IntKind.wrap .u64 base2))) + (IntKind.wrap .u64 d1))), (IntKind.wrap .i64 (t23 + 1))) h_40))
def J66_17  (R : Value → Heap → Prop) (base2 : Int) (bitSize2 : Int) (cutoff1 : Int) (n2 : Int) (t23 : Int) (next_1 : (Bool × Int × Int → Heap → Prop)) (underscores4 : Bool) (d1 : Int) (h_39 : Heap) : Prop :=
 PIf ((cutoff1 : Int) ≤ n2)
 (R (.tuple #[(.int .u64 (IntKind.wrap .u64 ((IntKind.wrap .u64 (1 * 2 ^ min (Int.toNat (IntKind.wrap .u64 bitSize2)) (IntKind.bits .u64))) - 1))), (.iface 82 (.int .i64 1))]) h_39)
 (J66_18 R base2 bitSize2 n2 t23 next_1 underscores4 d1 h_39)
def J66_16  (R : Value → Heap → Prop) (base2 : Int) (bitSize2 : Int) (cutoff1 : Int) (n2 : Int) (t23 : Int) (next_1 : (Bool × Int × Int → Heap → Prop)) (underscores4 : Bool) (d1 : Int) (h_38 : Heap) : Prop :=
 PIf (((IntKind.wrap .u8 base2) : Int) ≤ d1)
 (R (.tuple #[(.int .u64 0), (.iface 82 (.int .i64 2))]) h_38)
 (J66_17 R base2 bitSize2 cutoff1 n2 t23 next_1 underscores4 d1 h_38)
def J66_15  (P : Program) (R : Value → Heap → Prop) (s2 : ByteArray) (base2 : Int) (bitSize2 : Int) (cutoff1 : Int) (h_34 : Heap) (underscores3 : Bool) (n2 : Int) (t23 : Int) (next_1 : (Bool × Int × Int → Heap → Prop)) (h_37 : Heap) : Prop :=
 0 ≤ (t23 : Int) ∧ (t23 : Int) < (s2.size : Nat) ∧ ∃ (t24 : Int), cellH h_37 (Addr.add (Addr.mk (h_34).size 0 none) (Int.toNat t23 * 1)) = some (.int .u8 t24) ∧ PIf ((t24 : Int) = 95)
 (PIf ((48 : Int) ≤ t24)
 (PIf ((t24 : Int) ≤ 57)
 (J66_16 R base2 bitSize2 cutoff1 n2 t23 next_1 (underscores3) ((IntKind.wrap .u8 (t24 - 48))) h_37)
 (CallsH P 70 #[(.int .u8 t24)] h_37 fun v21 h_41 =>
 ∃ (t25 : Int), v21 = (.int .u8 t25) ∧ PIf ((97 : Int) ≤ t25)
 (CallsH P 70 #[(.int .u8 t24)] h_41 fun v22 h_42 =>
 ∃ (t26 : Int), v22 = (.int .u8 t26) ∧ PIf ((t26 : Int) ≤ 122)
 (CallsH P 70 #[(.int .u8 t24)] h_42 fun v23 h_43 =>
 ∃ (t27 : Int), v23 = (.int .u8 t27) ∧ J66_16 R base2 bitSize2 cutoff1 n2 t23 next_1 (underscores3) ((IntKind.wrap .u8 ((IntKind.wrap .u8 (t27 - 97)) + 10))) h_43)
 (R (.tuple #[(.int .u64 0), (.iface 82 (.int .i64 2))]) h_42))
 (R (.tuple #[(.int .u64 0), (.iface 82 (.int .i64 2))]) h_41)))
 (CallsH P 70 #[(.int .u8 t24)] h_37 fun v24 h_44 =>
 ∃ (t28 : Int), v24 = (.int .u8 t28) ∧ PIf ((97 : Int) ≤ t28)
 (CallsH P 70 #[(.int .u8 t24)] h_44 fun v25 h_45 =>
 ∃ (t29 : Int), v25 = (.int .u8 t29) ∧ PIf ((t29 : Int) ≤ 122)
 (CallsH P 70 #[(.int .u8 t24)] h_45 fun v26 h_46 =>
 ∃ (t30 : Int), v26 = (.int .u8 t30) ∧ J66_16 R base2 bitSize2 cutoff1 n2 t23 next_1 (underscores3) ((IntKind.wrap .u8 ((IntKind.wrap .u8 (t30 - 97)) + 10))) h_46)
 (R (.tuple #[(.int .u64 0), (.iface 82 (.int .i64 2))]) h_45))
 (R (.tuple #[(.int .u64 0), (.iface 82 (.int .i64 2))]) h_44)))
 (PIf ((48 : Int) ≤ t24)
 (PIf ((t24 : Int) ≤ 57)
 (J66_16 R base2 bitSize2 cutoff1 n2 t23 next_1 (underscores3) ((IntKind.wrap .u8 (t24 - 48))) h_37)
 (CallsH P 70 #[(.int .u8 t24)] h_37 fun v27 h_47 =>
 ∃ (t31 : Int), v27 = (.int .u8 t31) ∧ PIf ((97 : Int) ≤ t31)
 (CallsH P 70 #[(.int .u8 t24)] h_47 fun v28 h_48 =>
 ∃ (t32 : Int), v28 = (.int .u8 t32) ∧ PIf ((t32 : Int) ≤ 122)
 (CallsH P 70 #[(.int .u8 t24)] h_48 fun v29 h_49 =>
 ∃ (t33 : Int), v29 = (.int .u8 t33) ∧ J66_16 R base2 bitSize2 cutoff1 n2 t23 next_1 (underscores3) ((IntKind.wrap .u8 ((IntKind.wrap .u8 (t33 - 97)) + 10))) h_49)
 (R (.tuple #[(.int .u64 0), (.iface 82 (.int .i64 2))]) h_48))
 (R (.tuple #[(.int .u64 0), (.iface 82 (.int .i64 2))]) h_47)))
 (CallsH P 70 #[(.int .u8 t24)] h_37 fun v30 h_50 =>
 ∃ (t34 : Int), v30 = (.int .u8 t34) ∧ PIf ((97 : Int) ≤ t34)
 (CallsH P 70 #[(.int .u8 t24)] h_50 fun v31 h_51 =>
 ∃ (t35 : Int), v31 = (.int .u8 t35) ∧ PIf ((t35 : Int) ≤ 122)
 (CallsH P 70 #[(.int .u8 t24)] h_51 fun v32 h_52 =>
 ∃ (t36 : Int), v32 = (.int .u8 t36) ∧ J66_16 R base2 bitSize2 cutoff1 n2 t23 next_1 (underscores3) ((IntKind.wrap .u8 ((IntKind.wrap .u8 (t36 - 97)) + 10))) h_52)
 (R (.tuple #[(.int .u64 0), (.iface 82 (.int .i64 2))]) h_51))
 (R (.tuple #[(.int .u64 0), (.iface 82 (.int .i64 2))]) h_50)))
def J66_14  (P : Program) (R : Value → Heap → Prop) (s : ByteArray) (underscores5 : Bool) (n3 : Int) (h_53 : Heap) : Prop :=
 BIf underscores5 (CallsH P 71 #[(.string s)] h_53 fun v33 h_54 =>
 ∃ (t37 : Bool), v33 = (.bool t37) ∧ BIf (!t37) (R (.tuple #[(.int .u64 0), (.iface 82 (.int .i64 2))]) h_54) (R (.tuple #[(.int .u64 n3), .nilIface]) h_54)) (R (.tuple #[(.int .u64 n3), .nilIface]) h_53)
def B66_20 (P : Program) (R : Value → Heap → Prop) (s : ByteArray) (s2 : ByteArray) (base2 : Int) (bitSize2 : Int) (cutoff1 : Int) (h_34 : Heap) (underscores3 : Bool) (n2 : Int) (t23 : Int) (h_36 : Heap) (next_1 : Bool × Int × Int → Heap → Prop) : Prop :=
 PIf ((t23 : Int) < ((s2.size : Nat) : Int))
 (J66_15 P R s2 base2 bitSize2 cutoff1 h_34 underscores3 n2 t23 next_1 h_36)
 (J66_14 P R s (underscores3) (n2) h_36)
def J66_13  (P : Program) (R : Value → Heap → Prop) (s : ByteArray) (s2 : ByteArray) (base2 : Int) (bitSize2 : Int) (cutoff1 : Int) (h_34 : Heap) : Prop :=
 0 ≤ ((IntKind.wrap .u64 bitSize2) : Int) ∧ ∀ cap1 : Nat, s2.size ≤ cap1 → let h_35 : Heap := (h_34).push (.cells (bytesV s2 ++ List.replicate (cap1 - s2.size) (Value.int .u8 0)).toArray 5 (cap1, cap1 + 1)); LoopT (σ := Bool × Int × Int) (fun st_ h_st nx_st => B66_20 P R s s2 base2 bitSize2 cutoff1 h_34 (st_.1) (st_.2.1) (st_.2.2) h_st nx_st) (false, 0, 0) h_35
def J66_12  (P : Program) (R : Value → Heap → Prop) (s : ByteArray) (s2 : ByteArray) (base2 : Int) (bitSize2 : Int) (h_33 : Heap) : Prop :=
 PIf ((base2 : Int) = 10)
 (J66_13 P R s s2 base2 bitSize2 (1844674407370955162) h_33)
 (PIf ((base2 : Int) = 16)
 (J66_13 P R s s2 base2 bitSize2 (1152921504606846976) h_33)
 (((IntKind.wrap .u64 base2) : Int) ≠ 0 ∧ J66_13 P R s s2 base2 bitSize2 ((IntKind.wrap .u64 ((IntKind.wrap .u64 (Int.tdiv 18446744073709551615 (IntKind.wrap .u64 base2))) + 1))) h_33))
def J66_11  (P : Program) (R : Value → Heap → Prop) (s : ByteArray) (bitSize : Int) (s2 : ByteArray) (base2 : Int) (h_32 : Heap) : Prop :=
 PIf ((bitSize : Int) = 0)
 (J66_12 P R s s2 base2 (64) h_32)
 (PIf ((bitSize : Int) < 0)
 (R (.tuple #[(.int .u64 0), (.iface 82 (.int .i64 4))]) h_32)
 (PIf ((64 : Int) < bitSize)
 (R (.tuple #[(.int .u64 0), (.iface 82 (.int .i64 4))]) h_32)
 (J66_12 P R s s2 base2 (bitSize) h_32)))
def VB66 (P : Program) (R : Value → Heap → Prop) (s : ByteArray) (base : Int) (bitSize : Int) (h_ : Heap) : Prop :=
 (PIf ((2 : Int) ≤ base)
 (PIf ((base : Int) ≤ 36)
 (J66_11 P R s bitSize (s) (base) h_)
 (PIf ((base : Int) = 0)
 (0 ≤ (0 : Int) ∧ (0 : Int) < (s.size : Nat) ∧ PIf (((byteAt s 0) : Int) = 48)
 (PIf ((3 : Int) ≤ ((s.size : Nat) : Int))
 (0 ≤ (1 : Int) ∧ (1 : Int) < (s.size : Nat) ∧ CallsH P 70 #[(.int .u8 (byteAt s 1))] h_ fun v34 h_55 =>
 ∃ (t38 : Int), v34 = (.int .u8 t38) ∧ PIf ((t38 : Int) = 98)
 (0 ≤ (2 : Int) ∧ (2 : Int) ≤ ((s.size : Nat) : Int) ∧ (((s.size : Nat) : Int) : Int) ≤ (s.size : Nat) ∧ J66_11 P R s bitSize ((s.extract (Int.toNat 2) (Int.toNat ((s.size : Nat) : Int)))) (2) h_55)
 (PIf ((3 : Int) ≤ ((s.size : Nat) : Int))
 (0 ≤ (1 : Int) ∧ (1 : Int) < (s.size : Nat) ∧ CallsH P 70 #[(.int .u8 (byteAt s 1))] h_55 fun v35 h_56 =>
 ∃ (t39 : Int), v35 = (.int .u8 t39) ∧ PIf ((t39 : Int) = 111)
 (0 ≤ (2 : Int) ∧ (2 : Int) ≤ ((s.size : Nat) : Int) ∧ (((s.size : Nat) : Int) : Int) ≤ (s.size : Nat) ∧ J66_11 P R s bitSize ((s.extract (Int.toNat 2) (Int.toNat ((s.size : Nat) : Int)))) (8) h_56)
 (PIf ((3 : Int) ≤ ((s.size : Nat) : Int))
 (0 ≤ (1 : Int) ∧ (1 : Int) < (s.size : Nat) ∧ CallsH P 70 #[(.int .u8 (byteAt s 1))] h_56 fun v36 h_57 =>
 ∃ (t40 : Int), v36 = (.int .u8 t40) ∧ PIf ((t40 : Int) = 120)
 (0 ≤ (2 : Int) ∧ (2 : Int) ≤ ((s.size : Nat) : Int) ∧ (((s.size : Nat) : Int) : Int) ≤ (s.size : Nat) ∧ J66_11 P R s bitSize ((s.extract (Int.toNat 2) (Int.toNat ((s.size : Nat) : Int)))) (16) h_57)
 (0 ≤ (1 : Int) ∧ (1 : Int) ≤ ((s.size : Nat) : Int) ∧ (((s.size : Nat) : Int) : Int) ≤ (s.size : Nat) ∧ J66_11 P R s bitSize ((s.extract (Int.toNat 1) (Int.toNat ((s.size : Nat) : Int)))) (8) h_57))
 (0 ≤ (1 : Int) ∧ (1 : Int) ≤ ((s.size : Nat) : Int) ∧ (((s.size : Nat) : Int) : Int) ≤ (s.size : Nat) ∧ J66_11 P R s bitSize ((s.extract (Int.toNat 1) (Int.toNat ((s.size : Nat) : Int)))) (8) h_56)))
 (PIf ((3 : Int) ≤ ((s.size : Nat) : Int))
 (0 ≤ (1 : Int) ∧ (1 : Int) < (s.size : Nat) ∧ CallsH P 70 #[(.int .u8 (byteAt s 1))] h_55 fun v37 h_58 =>
 ∃ (t41 : Int), v37 = (.int .u8 t41) ∧ PIf ((t41 : Int) = 120)
 (0 ≤ (2 : Int) ∧ (2 : Int) ≤ ((s.size : Nat) : Int) ∧ (((s.size : Nat) : Int) : Int) ≤ (s.size : Nat) ∧ J66_11 P R s bitSize ((s.extract (Int.toNat 2) (Int.toNat ((s.size : Nat) : Int)))) (16) h_58)
 (0 ≤ (1 : Int) ∧ (1 : Int) ≤ ((s.size : Nat) : Int) ∧ (((s.size : Nat) : Int) : Int) ≤ (s.size : Nat) ∧ J66_11 P R s bitSize ((s.extract (Int.toNat 1) (Int.toNat ((s.size : Nat) : Int)))) (8) h_58))
 (0 ≤ (1 : Int) ∧ (1 : Int) ≤ ((s.size : Nat) : Int) ∧ (((s.size : Nat) : Int) : Int) ≤ (s.size : Nat) ∧ J66_11 P R s bitSize ((s.extract (Int.toNat 1) (Int.toNat ((s.size : Nat) : Int)))) (8) h_55))))
 (PIf ((3 : Int) ≤ ((s.size : Nat) : Int))
 (0 ≤ (1 : Int) ∧ (1 : Int) < (s.size : Nat) ∧ CallsH P 70 #[(.int .u8 (byteAt s 1))] h_ fun v38 h_59 =>
 ∃ (t42 : Int), v38 = (.int .u8 t42) ∧ PIf ((t42 : Int) = 111)
 (0 ≤ (2 : Int) ∧ (2 : Int) ≤ ((s.size : Nat) : Int) ∧ (((s.size : Nat) : Int) : Int) ≤ (s.size : Nat) ∧ J66_11 P R s bitSize ((s.extract (Int.toNat 2) (Int.toNat ((s.size : Nat) : Int)))) (8) h_59)
 (PIf ((3 : Int) ≤ ((s.size : Nat) : Int))
 (0 ≤ (1 : Int) ∧ (1 : Int) < (s.size : Nat) ∧ CallsH P 70 #[(.int .u8 (byteAt s 1))] h_59 fun v39 h_60 =>
 ∃ (t43 : Int), v39 = (.int .u8 t43) ∧ PIf ((t43 : Int) = 120)
 (0 ≤ (2 : Int) ∧ (2 : Int) ≤ ((s.size : Nat) : Int) ∧ (((s.size : Nat) : Int) : Int) ≤ (s.size : Nat) ∧ J66_11 P R s bitSize ((s.extract (Int.toNat 2) (Int.toNat ((s.size : Nat) : Int)))) (16) h_60)
 (0 ≤ (1 : Int) ∧ (1 : Int) ≤ ((s.size : Nat) : Int) ∧ (((s.size : Nat) : Int) : Int) ≤ (s.size : Nat) ∧ J66_11 P R s bitSize ((s.extract (Int.toNat 1) (Int.toNat ((s.size : Nat) : Int)))) (8) h_60))
 (0 ≤ (1 : Int) ∧ (1 : Int) ≤ ((s.size : Nat) : Int) ∧ (((s.size : Nat) : Int) : Int) ≤ (s.size : Nat) ∧ J66_11 P R s bitSize ((s.extract (Int.toNat 1) (Int.toNat ((s.size : Nat) : Int)))) (8) h_59)))
 (PIf ((3 : Int) ≤ ((s.size : Nat) : Int))
 (0 ≤ (1 : Int) ∧ (1 : Int) < (s.size : Nat) ∧ CallsH P 70 #[(.int .u8 (byteAt s 1))] h_ fun v40 h_61 =>
 ∃ (t44 : Int), v40 = (.int .u8 t44) ∧ PIf ((t44 : Int) = 120)
 (0 ≤ (2 : Int) ∧ (2 : Int) ≤ ((s.size : Nat) : Int) ∧ (((s.size : Nat) : Int) : Int) ≤ (s.size : Nat) ∧ J66_11 P R s bitSize ((s.extract (Int.toNat 2) (Int.toNat ((s.size : Nat) : Int)))) (16) h_61)
 (0 ≤ (1 : Int) ∧ (1 : Int) ≤ ((s.size : Nat) : Int) ∧ (((s.size : Nat) : Int) : Int) ≤ (s.size : Nat) ∧ J66_11 P R s bitSize ((s.extract (Int.toNat 1) (Int.toNat ((s.size : Nat) : Int)))) (8) h_61))
 (0 ≤ (1 : Int) ∧ (1 : Int) ≤ ((s.size : Nat) : Int) ∧ (((s.size : Nat) : Int) : Int) ≤ (s.size : Nat) ∧ J66_11 P R s bitSize ((s.extract (Int.toNat 1) (Int.toNat ((s.size : Nat) : Int)))) (8) h_))))
 (J66_11 P R s bitSize (s) (10) h_))
 (R (.tuple #[(.int .u64 0), (.iface 82 (.int .i64 3))]) h_)))
 (PIf ((base : Int) = 0)
 (0 ≤ (0 : Int) ∧ (0 : Int) < (s.size : Nat) ∧ PIf (((byteAt s 0) : Int) = 48)
 (PIf ((3 : Int) ≤ ((s.size : Nat) : Int))
 (0 ≤ (1 : Int) ∧ (1 : Int) < (s.size : Nat) ∧ CallsH P 70 #[(.int .u8 (byteAt s 1))] h_ fun v41 h_62 =>
 ∃ (t45 : Int), v41 = (.int .u8 t45) ∧ PIf ((t45 : Int) = 98)
 (0 ≤ (2 : Int) ∧ (2 : Int) ≤ ((s.size : Nat) : Int) ∧ (((s.size : Nat) : Int) : Int) ≤ (s.size : Nat) ∧ J66_11 P R s bitSize ((s.extract (Int.toNat 2) (Int.toNat ((s.size : Nat) : Int)))) (2) h_62)
 (PIf ((3 : Int) ≤ ((s.size : Nat) : Int))
 (0 ≤ (1 : Int) ∧ (1 : Int) < (s.size : Nat) ∧ CallsH P 70 #[(.int .u8 (byteAt s 1))] h_62 fun v42 h_63 =>
 ∃ (t46 : Int), v42 = (.int .u8 t46) ∧ PIf ((t46 : Int) = 111)
 (0 ≤ (2 : Int) ∧ (2 : Int) ≤ ((s.size : Nat) : Int) ∧ (((s.size : Nat) : Int) : Int) ≤ (s.size : Nat) ∧ J66_11 P R s bitSize ((s.extract (Int.toNat 2) (Int.toNat ((s.size : Nat) : Int)))) (8) h_63)
 (PIf ((3 : Int) ≤ ((s.size : Nat) : Int))
 (0 ≤ (1 : Int) ∧ (1 : Int) < (s.size : Nat) ∧ CallsH P 70 #[(.int .u8 (byteAt s 1))] h_63 fun v43 h_64 =>
 ∃ (t47 : Int), v43 = (.int .u8 t47) ∧ PIf ((t47 : Int) = 120)
 (0 ≤ (2 : Int) ∧ (2 : Int) ≤ ((s.size : Nat) : Int) ∧ (((s.size : Nat) : Int) : Int) ≤ (s.size : Nat) ∧ J66_11 P R s bitSize ((s.extract (Int.toNat 2) (Int.toNat ((s.size : Nat) : Int)))) (16) h_64)
 (0 ≤ (1 : Int) ∧ (1 : Int) ≤ ((s.size : Nat) : Int) ∧ (((s.size : Nat) : Int) : Int) ≤ (s.size : Nat) ∧ J66_11 P R s bitSize ((s.extract (Int.toNat 1) (Int.toNat ((s.size : Nat) : Int)))) (8) h_64))
 (0 ≤ (1 : Int) ∧ (1 : Int) ≤ ((s.size : Nat) : Int) ∧ (((s.size : Nat) : Int) : Int) ≤ (s.size : Nat) ∧ J66_11 P R s bitSize ((s.extract (Int.toNat 1) (Int.toNat ((s.size : Nat) : Int)))) (8) h_63)))
 (PIf ((3 : Int) ≤ ((s.size : Nat) : Int))
 (0 ≤ (1 : Int) ∧ (1 : Int) < (s.size : Nat) ∧ CallsH P 70 #[(.int .u8 (byteAt s 1))] h_62 fun v44 h_65 =>
 ∃ (t48 : Int), v44 = (.int .u8 t48) ∧ PIf ((t48 : Int) = 120)
 (0 ≤ (2 : Int) ∧ (2 : Int) ≤ ((s.size : Nat) : Int) ∧ (((s.size : Nat) : Int) : Int) ≤ (s.size : Nat) ∧ J66_11 P R s bitSize ((s.extract (Int.toNat 2) (Int.toNat ((s.size : Nat) : Int)))) (16) h_65)
 (0 ≤ (1 : Int) ∧ (1 : Int) ≤ ((s.size : Nat) : Int) ∧ (((s.size : Nat) : Int) : Int) ≤ (s.size : Nat) ∧ J66_11 P R s bitSize ((s.extract (Int.toNat 1) (Int.toNat ((s.size : Nat) : Int)))) (8) h_65))
 (0 ≤ (1 : Int) ∧ (1 : Int) ≤ ((s.size : Nat) : Int) ∧ (((s.size : Nat) : Int) : Int) ≤ (s.size : Nat) ∧ J66_11 P R s bitSize ((s.extract (Int.toNat 1) (Int.toNat ((s.size : Nat) : Int)))) (8) h_62))))
 (PIf ((3 : Int) ≤ ((s.size : Nat) : Int))
 (0 ≤ (1 : Int) ∧ (1 : Int) < (s.size : Nat) ∧ CallsH P 70 #[(.int .u8 (byteAt s 1))] h_ fun v45 h_66 =>
 ∃ (t49 : Int), v45 = (.int .u8 t49) ∧ PIf ((t49 : Int) = 111)
 (0 ≤ (2 : Int) ∧ (2 : Int) ≤ ((s.size : Nat) : Int) ∧ (((s.size : Nat) : Int) : Int) ≤ (s.size : Nat) ∧ J66_11 P R s bitSize ((s.extract (Int.toNat 2) (Int.toNat ((s.size : Nat) : Int)))) (8) h_66)
 (PIf ((3 : Int) ≤ ((s.size : Nat) : Int))
 (0 ≤ (1 : Int) ∧ (1 : Int) < (s.size : Nat) ∧ CallsH P 70 #[(.int .u8 (byteAt s 1))] h_66 fun v46 h_67 =>
 ∃ (t50 : Int), v46 = (.int .u8 t50) ∧ PIf ((t50 : Int) = 120)
 (0 ≤ (2 : Int) ∧ (2 : Int) ≤ ((s.size : Nat) : Int) ∧ (((s.size : Nat) : Int) : Int) ≤ (s.size : Nat) ∧ J66_11 P R s bitSize ((s.extract (Int.toNat 2) (Int.toNat ((s.size : Nat) : Int)))) (16) h_67)
 (0 ≤ (1 : Int) ∧ (1 : Int) ≤ ((s.size : Nat) : Int) ∧ (((s.size : Nat) : Int) : Int) ≤ (s.size : Nat) ∧ J66_11 P R s bitSize ((s.extract (Int.toNat 1) (Int.toNat ((s.size : Nat) : Int)))) (8) h_67))
 (0 ≤ (1 : Int) ∧ (1 : Int) ≤ ((s.size : Nat) : Int) ∧ (((s.size : Nat) : Int) : Int) ≤ (s.size : Nat) ∧ J66_11 P R s bitSize ((s.extract (Int.toNat 1) (Int.toNat ((s.size : Nat) : Int)))) (8) h_66)))
 (PIf ((3 : Int) ≤ ((s.size : Nat) : Int))
 (0 ≤ (1 : Int) ∧ (1 : Int) < (s.size : Nat) ∧ CallsH P 70 #[(.int .u8 (byteAt s 1))] h_ fun v47 h_68 =>
 ∃ (t51 : Int), v47 = (.int .u8 t51) ∧ PIf ((t51 : Int) = 120)
 (0 ≤ (2 : Int) ∧ (2 : Int) ≤ ((s.size : Nat) : Int) ∧ (((s.size : Nat) : Int) : Int) ≤ (s.size : Nat) ∧ J66_11 P R s bitSize ((s.extract (Int.toNat 2) (Int.toNat ((s.size : Nat) : Int)))) (16) h_68)
 (0 ≤ (1 : Int) ∧ (1 : Int) ≤ ((s.size : Nat) : Int) ∧ (((s.size : Nat) : Int) : Int) ≤ (s.size : Nat) ∧ J66_11 P R s bitSize ((s.extract (Int.toNat 1) (Int.toNat ((s.size : Nat) : Int)))) (8) h_68))
 (0 ≤ (1 : Int) ∧ (1 : Int) ≤ ((s.size : Nat) : Int) ∧ (((s.size : Nat) : Int) : Int) ≤ (s.size : Nat) ∧ J66_11 P R s bitSize ((s.extract (Int.toNat 1) (Int.toNat ((s.size : Nat) : Int)))) (8) h_))))
 (J66_11 P R s bitSize (s) (10) h_))
 (R (.tuple #[(.int .u64 0), (.iface 82 (.int .i64 3))]) h_)))
def fin66 (R : Value → Heap → Prop) : SEx → SF → Heap → Prop := fun e s h => match e with
  | .exit _ => False
  | _ => resC ret66 s h fun vs => R (retV vs) h
def s66 (b : Bool) (s : ByteArray) (base : Int) (bitSize : Int) : SF := [(8, .bool b), (22, .bool b), (21, .int .i64 base), (19, .bool false), (18, .string s), (7, .nilIface), (6, .int .u64 0), (0, .string s), (1, .int .i64 base), (2, .int .i64 bitSize)]
theorem pre66 (P : Program) (s : ByteArray) (base : Int) (bitSize : Int) (h : Heap) (K : SEx → SF → Heap → Prop) (rest : SCode) : scC P (.seq (.region false [⟨(some 6), .mv (.const (.int .u64 0)), none⟩,
  ⟨(some 7), .mv (.const .nilIface), none⟩]) (.seq (.seq (.region false [⟨(some 18), .mv (.tmp 0), none⟩,
  ⟨(some 19), .scmp .eql (.tmp 18) (.const (.string (ByteArray.mk #[]))), none⟩]) (.cond (.tmp 19) (.seq (.region false [⟨(some 20), .ifc 82 (.const (.int .i64 2)), none⟩,
  ⟨(some 6), .mv (.const (.int .u64 0)), none⟩,
  ⟨(some 7), .mv (.tmp 20), none⟩]) .ret) .skip)) (.seq (.region false [⟨(some 21), .mv (.tmp 1), none⟩,
  ⟨(some 22), .icmp .eql .i64 (.tmp 21) (.const (.int .i64 0)), none⟩,
  ⟨(some 8), .mv (.tmp 22), none⟩]) rest))) (argsF [(.string s), (.int .i64 base), (.int .i64 bitSize)] 0) h K =
 PIf ((s : ByteArray) = (ByteArray.mk #[]))
 (K .ret [(7, .iface 82 (.int .i64 2)), (6, .int .u64 0), (20, .iface 82 (.int .i64 2)), (19, .bool true), (18, .string s), (7, .nilIface), (6, .int .u64 0), (0, .string s), (1, .int .i64 base), (2, .int .i64 bitSize)] h)
 (PIf ((base : Int) = 0) (scC P rest (s66 true s base bitSize) h K) (scC P rest (s66 false s base bitSize) h K)) := by kernel_rfl
theorem vcB66 (P : Program) (s : ByteArray) (base : Int) (bitSize : Int) (R : Value → Heap → Prop) (h : Heap) : scC P rest66 (s66 false s base bitSize) h (fin66 R) = VB66 P R s base bitSize h := by kernel_rfl
/-- For a base that isn't 0. -/
theorem run66 (s : ByteArray) (base : Int) (bitSize : Int) (R : Value → Heap → Prop) (h : Heap) (hb : base ≠ 0) (h0 : s = ByteArray.mk #[] → R (.tuple #[(.int .u64 0), (.iface 82 (.int .i64 2))]) h) (hv : s ≠ ByteArray.mk #[] → VB66 Tryd.prog R s base bitSize h) :
    CallsH Tryd.prog 66 #[(.string s), (.int .i64 base), (.int .i64 bitSize)] h R :=
  calls_of_fnC (Checked.mixed Tryd.checked) Tryd.func66 comp66 (Nat.le_of_ble_eq_true rfl) (by
    unfold fnC code66
    rw [pre66]
    refine ⟨fun h5 => h0 h5, fun hn => ⟨fun h5 => absurd h5 hb, fun _ => ?_⟩⟩
    have := hv hn
    rw [← vcB66] at this
    exact this)

/-! 68: trestle/trestleref02.isDigit -/
def code68 : SCode := (.seq (.region false [⟨(some 4), .mv (.const (.bool false)), none⟩]) (.seq (.region false [⟨(some 5), .mv (.tmp 1), none⟩,
  ⟨(some 6), .icmp .geq .i64 (.tmp 5) (.const (.int .i64 0)), none⟩,
  ⟨(some 7), .mv (.tmp 6), none⟩,
  ⟨(some 8), .mv (.tmp 1), (some (7, true))⟩,
  ⟨(some 9), .mv (.tmp 0), (some (7, true))⟩,
  ⟨(some 10), .lenS (.tmp 9), (some (7, true))⟩,
  ⟨(some 11), .icmp .lss .i64 (.tmp 8) (.tmp 10), (some (7, true))⟩,
  ⟨(some 12), .pick (.tmp 7) (.tmp 11) (.const (.bool false)), none⟩,
  ⟨(some 13), .mv (.tmp 12), none⟩,
  ⟨(some 14), .mv (.tmp 0), (some (13, true))⟩,
  ⟨(some 15), .mv (.tmp 1), (some (13, true))⟩,
  ⟨(some 16), .idxS (.tmp 14) (.tmp 15), (some (13, true))⟩,
  ⟨(some 17), .icmp .geq .u8 (.tmp 16) (.const (.int .u8 48)), (some (13, true))⟩,
  ⟨(some 18), .pick (.tmp 13) (.tmp 17) (.const (.bool false)), none⟩,
  ⟨(some 19), .mv (.tmp 18), none⟩,
  ⟨(some 20), .mv (.tmp 0), (some (19, true))⟩,
  ⟨(some 21), .mv (.tmp 1), (some (19, true))⟩,
  ⟨(some 22), .idxS (.tmp 20) (.tmp 21), (some (19, true))⟩,
  ⟨(some 23), .icmp .leq .u8 (.tmp 22) (.const (.int .u8 57)), (some (19, true))⟩,
  ⟨(some 24), .pick (.tmp 19) (.tmp 23) (.const (.bool false)), none⟩,
  ⟨(some 4), .mv (.tmp 24), none⟩]) .ret))
def loops68 : List (List (Nat × Shp)) := []
def ret68 : List RV := [.tmp 4]
theorem comp68 : compF Tryd.prog Tryd.f68 loops68 = some (25, ret68, code68) := by kernel_rfl
def VC68 (P : Program) (s : ByteArray) (at_ : Int) (R : Value → Heap → Prop) (h : Heap) : Prop :=
 PIf ((0 : Int) ≤ at_)
 (PIf ((at_ : Int) < ((s.size : Nat) : Int))
 (0 ≤ (at_ : Int) ∧ (at_ : Int) < (s.size : Nat) ∧ PIf ((48 : Int) ≤ (byteAt s at_))
 (0 ≤ (at_ : Int) ∧ (at_ : Int) < (s.size : Nat) ∧ PIf (((byteAt s at_) : Int) ≤ 57)
 (R (.bool true) h)
 (R (.bool false) h))
 (R (.bool false) h))
 (R (.bool false) h))
 (R (.bool false) h)
theorem vc68 (P : Program) (s : ByteArray) (at_ : Int) (R : Value → Heap → Prop) (h : Heap) : fnC P ret68 code68 [(.string s), (.int .i64 at_)] h R = VC68 P s at_ R h := by kernel_rfl
theorem run68 (s : ByteArray) (at_ : Int) (R : Value → Heap → Prop) (h : Heap) (hv : VC68 Tryd.prog s at_ R h) : CallsH Tryd.prog 68 #[(.string s), (.int .i64 at_)] h R := calls_of_fnC (Checked.mixed Tryd.checked) Tryd.func68 comp68 (Nat.le_of_ble_eq_true rfl) (by rw [vc68]; exact hv)

/-! 70: internal/strconv.lower -/
def code70 : SCode := (.seq (.region false [⟨(some 2), .mv (.const (.int .u8 0)), none⟩]) (.seq (.region false [⟨(some 3), .mv (.tmp 0), none⟩,
  ⟨(some 4), .bits .or .u8 (.tmp 3) (.const (.int .u8 32)), none⟩,
  ⟨(some 2), .mv (.tmp 4), none⟩]) .ret))
def loops70 : List (List (Nat × Shp)) := []
def ret70 : List RV := [.tmp 2]
theorem comp70 : compF Tryd.prog Tryd.f70 loops70 = some (5, ret70, code70) := by kernel_rfl
def VC70 (P : Program) (c : Int) (R : Value → Heap → Prop) (h : Heap) : Prop :=
 R (.int .u8 (bop .or .u8 c 32)) h
theorem vc70 (P : Program) (c : Int) (R : Value → Heap → Prop) (h : Heap) : fnC P ret70 code70 [(.int .u8 c)] h R = VC70 P c R h := by kernel_rfl
theorem run70 (c : Int) (R : Value → Heap → Prop) (h : Heap) (hv : VC70 Tryd.prog c R h) : CallsH Tryd.prog 70 #[(.int .u8 c)] h R := calls_of_fnC (Checked.mixed Tryd.checked) Tryd.func70 comp70 (Nat.le_of_ble_eq_true rfl) (by rw [vc70]; exact hv)
end Go.Proofs.YtbgjbokcngdnfaaDoor
