/- Words and facts that the claim's proof leans on. No condition. -/
import Derived.Test.YtpmpacdjcfijbaaHxK
import Derived.Test.YtpmpacdjcfijbaaChecked
set_option maxRecDepth 100000
set_option linter.unusedVariables false
namespace Go.Proofs.Ytpmpacdjcfijbaa
open Go.Hx

/-! 51: trestle/trestleref03.Check -/
def code51 : SCode := (.seq (.region .txt [⟨(some 1), .box 29 (.tmp 0), none⟩,
  ⟨(some 2), .mv (.const (.int .i64 0)), none⟩,
  ⟨(some 3), .mv (.const (.int .i64 0)), none⟩]) (.seq (.seq (.region .txt [⟨(some 16), .ldn [.int .i64, .slice, .slice, .slice, .slice, .slice, .slice, .slice, .slice, .slice, .slice] (.tmp 1), none⟩,
  ⟨(some 17), .call 88 [(.tmp 16)] (.val (.one (.int .i64))), none⟩,
  ⟨(some 4), .mv (.tmp 17), none⟩]) (.seq (.region .txt [⟨(some 18), .mv (.tmp 4), none⟩,
  ⟨(some 19), .icmp .neq .i64 (.tmp 18) (.const (.int .i64 0)), none⟩]) (.cond (.tmp 19) (.seq (.region .txt [⟨(some 20), .mv (.tmp 4), none⟩,
  ⟨(some 2), .mv (.const (.int .i64 0)), none⟩,
  ⟨(some 3), .mv (.tmp 20), none⟩]) .ret) .skip))) (.seq (.region .txt [⟨(some 22), .ldn [.int .i64, .slice, .slice, .slice, .slice, .slice, .slice, .slice, .slice, .slice, .slice] (.tmp 1), none⟩,
  ⟨(some 23), .call 89 [(.tmp 22)] (.tup [.one (.slice), .one (.int .i64), .one (.int .i64)]), none⟩,
  ⟨(some 21), .mv (.tmp 23), none⟩,
  ⟨(some 24), .extr (.tmp 21) 0, none⟩,
  ⟨(some 25), .extr (.tmp 21) 1, none⟩,
  ⟨(some 26), .extr (.tmp 21) 2, none⟩,
  ⟨(some 5), .mv (.tmp 24), none⟩,
  ⟨(some 6), .mv (.tmp 25), none⟩,
  ⟨(some 7), .mv (.tmp 26), none⟩]) (.seq (.seq (.region .txt [⟨(some 27), .mv (.tmp 7), none⟩,
  ⟨(some 28), .icmp .neq .i64 (.tmp 27) (.const (.int .i64 0)), none⟩]) (.cond (.tmp 28) (.seq (.region .txt [⟨(some 29), .mv (.tmp 6), none⟩,
  ⟨(some 30), .mv (.tmp 7), none⟩,
  ⟨(some 2), .mv (.tmp 29), none⟩,
  ⟨(some 3), .mv (.tmp 30), none⟩]) .ret) .skip)) (.seq (.seq (.region .txt [⟨(some 32), .ldn [.int .i64, .slice, .slice, .slice, .slice, .slice, .slice, .slice, .slice, .slice, .slice] (.tmp 1), none⟩,
  ⟨(some 33), .mv (.tmp 5), none⟩,
  ⟨(some 34), .call 90 [(.tmp 32), (.tmp 33)] (.tup [.one (.int .i64), .one (.int .i64)]), none⟩,
  ⟨(some 31), .mv (.tmp 34), none⟩,
  ⟨(some 35), .extr (.tmp 31) 0, none⟩,
  ⟨(some 36), .extr (.tmp 31) 1, none⟩,
  ⟨(some 8), .mv (.tmp 35), none⟩,
  ⟨(some 9), .mv (.tmp 36), none⟩]) (.seq (.region .txt [⟨(some 37), .mv (.tmp 9), none⟩,
  ⟨(some 38), .icmp .neq .i64 (.tmp 37) (.const (.int .i64 0)), none⟩]) (.cond (.tmp 38) (.seq (.region .txt [⟨(some 39), .mv (.tmp 8), none⟩,
  ⟨(some 40), .mv (.tmp 9), none⟩,
  ⟨(some 2), .mv (.tmp 39), none⟩,
  ⟨(some 3), .mv (.tmp 40), none⟩]) .ret) .skip))) (.seq (.seq (.region .ext [⟨(some 41), .ldn [.int .i64, .slice, .slice, .slice, .slice, .slice, .slice, .slice, .slice, .slice, .slice] (.tmp 1), none⟩,
  ⟨(some 42), .call 91 [(.tmp 41)] (.val (.one (.slice))), none⟩,
  ⟨(some 43), .len (.tmp 42), none⟩,
  ⟨(some 44), .fldA 8 (.tmp 1), none⟩,
  ⟨(some 45), .ld (.slice) (.tmp 44), none⟩,
  ⟨(some 46), .len (.tmp 45), none⟩,
  ⟨(some 47), .icmp .lss .i64 (.tmp 43) (.tmp 46), none⟩]) (.cond (.tmp 47) (.seq (.region .txt [⟨(some 48), .ldn [.int .i64, .slice, .slice, .slice, .slice, .slice, .slice, .slice, .slice, .slice, .slice] (.tmp 1), none⟩,
  ⟨(some 49), .call 92 [(.tmp 48)] (.val (.one (.slice))), none⟩,
  ⟨(some 10), .mv (.tmp 49), none⟩]) (.seq (.region .txt [⟨(some 11), .mv (.const (.int .i64 0)), none⟩]) (.block 0 (.loop [(11, .int .i64)] [50, 51, 52, 53, 54, 57, 58, 59, 60, 61, 2, 3, 55, 56, 11] (.seq (.seq (.region .txt [⟨(some 50), .mv (.tmp 11), none⟩,
  ⟨(some 51), .fldA 8 (.tmp 1), none⟩,
  ⟨(some 52), .ld (.slice) (.tmp 51), none⟩,
  ⟨(some 53), .len (.tmp 52), none⟩,
  ⟨(some 54), .icmp .lss .i64 (.tmp 50) (.tmp 53), none⟩]) (.cond (.tmp 54) .skip (.exit 0))) (.seq (.block 1 (.seq (.region .txt [⟨(some 57), .ldn [.int .i64, .slice, .slice, .slice, .slice, .slice, .slice, .slice, .slice, .slice, .slice] (.tmp 1), none⟩,
  ⟨(some 58), .mv (.tmp 10), none⟩,
  ⟨(some 59), .mv (.tmp 11), none⟩,
  ⟨(some 60), .call 93 [(.tmp 57), (.tmp 58), (.tmp 59)] (.val (.one (.bool))), none⟩]) (.cond (.tmp 60) (.seq (.region .txt [⟨(some 61), .mv (.tmp 11), none⟩,
  ⟨(some 2), .mv (.tmp 61), none⟩,
  ⟨(some 3), .mv (.const (.int .i64 34)), none⟩]) .ret) .skip))) (.region .txt [⟨(some 55), .mv (.tmp 11), none⟩,
  ⟨(some 56), .arith .add .i64 (.tmp 55) (.const (.int .i64 1)), none⟩,
  ⟨(some 11), .mv (.tmp 56), none⟩]))))))) .skip)) (.seq (.seq (.region .txt [⟨(some 63), .ldn [.int .i64, .slice, .slice, .slice, .slice, .slice, .slice, .slice, .slice, .slice, .slice] (.tmp 1), none⟩,
  ⟨(some 64), .call 94 [(.tmp 63)] (.tup [.one (.int .i64), .one (.int .i64)]), none⟩,
  ⟨(some 62), .mv (.tmp 64), none⟩,
  ⟨(some 65), .extr (.tmp 62) 0, none⟩,
  ⟨(some 66), .extr (.tmp 62) 1, none⟩,
  ⟨(some 12), .mv (.tmp 65), none⟩,
  ⟨(some 13), .mv (.tmp 66), none⟩]) (.seq (.region .txt [⟨(some 67), .mv (.tmp 13), none⟩,
  ⟨(some 68), .icmp .neq .i64 (.tmp 67) (.const (.int .i64 0)), none⟩]) (.cond (.tmp 68) (.seq (.region .txt [⟨(some 69), .mv (.tmp 12), none⟩,
  ⟨(some 70), .mv (.tmp 13), none⟩,
  ⟨(some 2), .mv (.tmp 69), none⟩,
  ⟨(some 3), .mv (.tmp 70), none⟩]) .ret) .skip))) (.seq (.seq (.region .txt [⟨(some 14), .mv (.const (.int .i64 0)), none⟩]) (.block 2 (.loop [(14, .int .i64)] [71, 72, 73, 74, 75, 15, 78, 79, 80, 81, 82, 83, 84, 85, 88, 89, 90, 91, 92, 93, 94, 95, 96, 2, 3, 86, 87, 15, 76, 77, 14] (.seq (.seq (.region .txt [⟨(some 71), .mv (.tmp 14), none⟩,
  ⟨(some 72), .fldA 10 (.tmp 1), none⟩,
  ⟨(some 73), .ld (.slice) (.tmp 72), none⟩,
  ⟨(some 74), .len (.tmp 73), none⟩,
  ⟨(some 75), .icmp .lss .i64 (.tmp 71) (.tmp 74), none⟩]) (.cond (.tmp 75) .skip (.exit 2))) (.seq (.block 3 (.seq (.region .txt [⟨(some 15), .mv (.const (.int .i64 0)), none⟩]) (.block 4 (.loop [(15, .int .i64)] [78, 79, 80, 81, 82, 83, 84, 85, 88, 89, 90, 91, 92, 93, 94, 95, 96, 2, 3, 86, 87, 15] (.seq (.seq (.region .txt [⟨(some 78), .mv (.tmp 15), none⟩,
  ⟨(some 79), .fldA 10 (.tmp 1), none⟩,
  ⟨(some 80), .ld (.slice) (.tmp 79), none⟩,
  ⟨(some 81), .mv (.tmp 14), none⟩,
  ⟨(some 82), .idxA 1 (.tmp 80) (.tmp 81), none⟩,
  ⟨(some 83), .ld (.str) (.tmp 82), none⟩,
  ⟨(some 84), .lenS (.tmp 83), none⟩,
  ⟨(some 85), .icmp .lss .i64 (.tmp 78) (.tmp 84), none⟩]) (.cond (.tmp 85) .skip (.exit 4))) (.seq (.block 5 (.seq (.region .txt [⟨(some 88), .fldA 10 (.tmp 1), none⟩,
  ⟨(some 89), .ld (.slice) (.tmp 88), none⟩,
  ⟨(some 90), .mv (.tmp 14), none⟩,
  ⟨(some 91), .idxA 1 (.tmp 89) (.tmp 90), none⟩,
  ⟨(some 92), .ld (.str) (.tmp 91), none⟩,
  ⟨(some 93), .mv (.tmp 15), none⟩,
  ⟨(some 94), .idxS (.tmp 92) (.tmp 93), none⟩,
  ⟨(some 95), .icmp .eql .u8 (.tmp 94) (.const (.int .u8 10)), none⟩]) (.cond (.tmp 95) (.seq (.region .txt [⟨(some 96), .mv (.tmp 14), none⟩,
  ⟨(some 2), .mv (.tmp 96), none⟩,
  ⟨(some 3), .mv (.const (.int .i64 36)), none⟩]) .ret) .skip))) (.region .txt [⟨(some 86), .mv (.tmp 15), none⟩,
  ⟨(some 87), .arith .add .i64 (.tmp 86) (.const (.int .i64 1)), none⟩,
  ⟨(some 15), .mv (.tmp 87), none⟩]))))))) (.region .txt [⟨(some 76), .mv (.tmp 14), none⟩,
  ⟨(some 77), .arith .add .i64 (.tmp 76) (.const (.int .i64 1)), none⟩,
  ⟨(some 14), .mv (.tmp 77), none⟩])))))) (.seq (.region .txt [⟨(some 2), .mv (.const (.int .i64 0)), none⟩,
  ⟨(some 3), .mv (.const (.int .i64 0)), none⟩]) .ret)))))))))
def loops51 : List (List (Nat × Shp)) := [[(11, .int .i64)], [(14, .int .i64)], [(15, .int .i64)]]
def ret51 : List RV := [.tmp 2, .tmp 3]
theorem comp51 : compF Try.prog Try.f51 loops51 = some (97, ret51, code51) := by kernel_rfl
def J51_4  (P : Program) (R : Value → Heap → Prop) (h : Heap) (A53 : (Option Addr)) (N53 : Nat) (C53 : Nat) (i : Int) (next_ : (Int → Heap → Prop)) (h_10 : Heap) : Prop :=
 ∃ (t10 : Int), ∃ (A55 : Option Addr), ∃ (N55 : Nat), ∃ (C55 : Nat), ∃ (A56 : Option Addr), ∃ (N56 : Nat), ∃ (C56 : Nat), ∃ (A57 : Option Addr), ∃ (N57 : Nat), ∃ (C57 : Nat), ∃ (A58 : Option Addr), ∃ (N58 : Nat), ∃ (C58 : Nat), ∃ (A59 : Option Addr), ∃ (N59 : Nat), ∃ (C59 : Nat), ∃ (A60 : Option Addr), ∃ (N60 : Nat), ∃ (C60 : Nat), ∃ (A61 : Option Addr), ∃ (N61 : Nat), ∃ (C61 : Nat), ∃ (A62 : Option Addr), ∃ (N62 : Nat), ∃ (C62 : Nat), ∃ (A63 : Option Addr), ∃ (N63 : Nat), ∃ (C63 : Nat), ∃ (A64 : Option Addr), ∃ (N64 : Nat), ∃ (C64 : Nat), cellsH h_10 (Addr.mk (h).size 0 none) 0 [(.int .i64 t10), (.slice A55 N55 C55), (.slice A56 N56 C56), (.slice A57 N57 C57), (.slice A58 N58 C58), (.slice A59 N59 C59), (.slice A60 N60 C60), (.slice A61 N61 C61), (.slice A62 N62 C62), (.slice A63 N63 C63), (.slice A64 N64 C64)] ∧ CallsH P 93 #[(.agg #[(.int .i64 t10), (.slice A55 N55 C55), (.slice A56 N56 C56), (.slice A57 N57 C57), (.slice A58 N58 C58), (.slice A59 N59 C59), (.slice A60 N60 C60), (.slice A61 N61 C61), (.slice A62 N62 C62), (.slice A63 N63 C63), (.slice A64 N64 C64)]), (.slice A53 N53 C53), (.int .i64 i)] h_10 fun v5 h_11 =>
 ∃ (t11 : Bool), v5 = (.bool t11) ∧ BIf t11 (R (.tuple #[(.int .i64 i), (.int .i64 34)]) h_11) (next_ ((IntKind.wrap .i64 (i + 1))) h_11)
def J51_9  (R : Value → Heap → Prop) (h : Heap) (i1 : Int) (k : Int) (next_2 : (Int → Heap → Prop)) (h_18 : Heap) : Prop :=
 ∃ (A77 : Option Addr), ∃ (N77 : Nat), ∃ (C77 : Nat), cellH h_18 (Addr.add (Addr.mk (h).size 0 none) 10) = some (.slice A77 N77 C77) ∧ 0 ≤ (i1 : Int) ∧ (i1 : Int) < (N77 : Nat) ∧ AtP A77 fun ad1 => ∃ (t16 : ByteArray), cellH h_18 (Addr.add ad1 (Int.toNat i1 * 1)) = some (.string t16) ∧ 0 ≤ (k : Int) ∧ (k : Int) < (t16.size : Nat) ∧ PIf (((byteAt t16 k) : Int) = 10)
 (R (.tuple #[(.int .i64 i1), (.int .i64 36)]) h_18)
 (next_2 ((IntKind.wrap .i64 (k + 1))) h_18)
def J51_8  (i1 : Int) (next_1 : (Int → Heap → Prop)) (h_19 : Heap) : Prop :=
 next_1 ((IntKind.wrap .i64 (i1 + 1))) h_19
def B51_10 (R : Value → Heap → Prop) (h : Heap) (i1 : Int) (next_1 : (Int → Heap → Prop)) (k : Int) (h_17 : Heap) (next_2 : Int → Heap → Prop) : Prop :=
 ∃ (A76 : Option Addr), ∃ (N76 : Nat), ∃ (C76 : Nat), cellH h_17 (Addr.add (Addr.mk (h).size 0 none) 10) = some (.slice A76 N76 C76) ∧ 0 ≤ (i1 : Int) ∧ (i1 : Int) < (N76 : Nat) ∧ AtP A76 fun ad => ∃ (t15 : ByteArray), cellH h_17 (Addr.add ad (Int.toNat i1 * 1)) = some (.string t15) ∧ PIf ((k : Int) < ((t15.size : Nat) : Int))
 (J51_9 R h i1 k next_2 h_17)
 (J51_8 i1 next_1 h_17)
def J51_7  (R : Value → Heap → Prop) (h : Heap) (i1 : Int) (next_1 : (Int → Heap → Prop)) (h_16 : Heap) : Prop :=
 LoopT (σ := Int) (fun st_ h_st nx_st => B51_10 R h i1 next_1 (st_) h_st nx_st) (0) h_16
def J51_6  (R : Value → Heap → Prop) (h_20 : Heap) : Prop :=
 R (.tuple #[(.int .i64 0), (.int .i64 0)]) h_20
def B51_11 (R : Value → Heap → Prop) (h : Heap) (i1 : Int) (h_15 : Heap) (next_1 : Int → Heap → Prop) : Prop :=
 ∃ (A75 : Option Addr), ∃ (N75 : Nat), ∃ (C75 : Nat), cellH h_15 (Addr.add (Addr.mk (h).size 0 none) 10) = some (.slice A75 N75 C75) ∧ PIf ((i1 : Int) < ((N75 : Nat) : Int))
 (J51_7 R h i1 next_1 h_15)
 (J51_6 R h_15)
def J51_5  (R : Value → Heap → Prop) (h : Heap) (h_14 : Heap) : Prop :=
 LoopT (σ := Int) (fun st_ h_st nx_st => B51_11 R h (st_) h_st nx_st) (0) h_14
def J51_3  (P : Program) (R : Value → Heap → Prop) (h : Heap) (h_12 : Heap) : Prop :=
 ∃ (t12 : Int), ∃ (A65 : Option Addr), ∃ (N65 : Nat), ∃ (C65 : Nat), ∃ (A66 : Option Addr), ∃ (N66 : Nat), ∃ (C66 : Nat), ∃ (A67 : Option Addr), ∃ (N67 : Nat), ∃ (C67 : Nat), ∃ (A68 : Option Addr), ∃ (N68 : Nat), ∃ (C68 : Nat), ∃ (A69 : Option Addr), ∃ (N69 : Nat), ∃ (C69 : Nat), ∃ (A70 : Option Addr), ∃ (N70 : Nat), ∃ (C70 : Nat), ∃ (A71 : Option Addr), ∃ (N71 : Nat), ∃ (C71 : Nat), ∃ (A72 : Option Addr), ∃ (N72 : Nat), ∃ (C72 : Nat), ∃ (A73 : Option Addr), ∃ (N73 : Nat), ∃ (C73 : Nat), ∃ (A74 : Option Addr), ∃ (N74 : Nat), ∃ (C74 : Nat), cellsH h_12 (Addr.mk (h).size 0 none) 0 [(.int .i64 t12), (.slice A65 N65 C65), (.slice A66 N66 C66), (.slice A67 N67 C67), (.slice A68 N68 C68), (.slice A69 N69 C69), (.slice A70 N70 C70), (.slice A71 N71 C71), (.slice A72 N72 C72), (.slice A73 N73 C73), (.slice A74 N74 C74)] ∧ CallsH P 94 #[(.agg #[(.int .i64 t12), (.slice A65 N65 C65), (.slice A66 N66 C66), (.slice A67 N67 C67), (.slice A68 N68 C68), (.slice A69 N69 C69), (.slice A70 N70 C70), (.slice A71 N71 C71), (.slice A72 N72 C72), (.slice A73 N73 C73), (.slice A74 N74 C74)])] h_12 fun v6 h_13 =>
 ∃ (t13 : Int), ∃ (t14 : Int), v6 = (.tuple #[(.int .i64 t13), (.int .i64 t14)]) ∧ PIf ((t14 : Int) = 0)
 (J51_5 R h h_13)
 (R (.tuple #[(.int .i64 t13), (.int .i64 t14)]) h_13)
def B51_12 (P : Program) (R : Value → Heap → Prop) (h : Heap) (A53 : (Option Addr)) (N53 : Nat) (C53 : Nat) (i : Int) (h_9 : Heap) (next_ : Int → Heap → Prop) : Prop :=
 ∃ (A54 : Option Addr), ∃ (N54 : Nat), ∃ (C54 : Nat), cellH h_9 (Addr.add (Addr.mk (h).size 0 none) 8) = some (.slice A54 N54 C54) ∧ PIf ((i : Int) < ((N54 : Nat) : Int))
 (J51_4 P R h A53 N53 C53 i next_ h_9)
 (J51_3 P R h h_9)
def J51_2  (P : Program) (R : Value → Heap → Prop) (h : Heap) (h_6 : Heap) : Prop :=
 (Addr.block (Addr.mk (h).size 0 none)) < (h_6).size ∧ ∃ (t8 : Int), ∃ (A31 : Option Addr), ∃ (N31 : Nat), ∃ (C31 : Nat), ∃ (A32 : Option Addr), ∃ (N32 : Nat), ∃ (C32 : Nat), ∃ (A33 : Option Addr), ∃ (N33 : Nat), ∃ (C33 : Nat), ∃ (A34 : Option Addr), ∃ (N34 : Nat), ∃ (C34 : Nat), ∃ (A35 : Option Addr), ∃ (N35 : Nat), ∃ (C35 : Nat), ∃ (A36 : Option Addr), ∃ (N36 : Nat), ∃ (C36 : Nat), ∃ (A37 : Option Addr), ∃ (N37 : Nat), ∃ (C37 : Nat), ∃ (A38 : Option Addr), ∃ (N38 : Nat), ∃ (C38 : Nat), ∃ (A39 : Option Addr), ∃ (N39 : Nat), ∃ (C39 : Nat), ∃ (A40 : Option Addr), ∃ (N40 : Nat), ∃ (C40 : Nat), cellsH h_6 (Addr.mk (h).size 0 none) 0 [(.int .i64 t8), (.slice A31 N31 C31), (.slice A32 N32 C32), (.slice A33 N33 C33), (.slice A34 N34 C34), (.slice A35 N35 C35), (.slice A36 N36 C36), (.slice A37 N37 C37), (.slice A38 N38 C38), (.slice A39 N39 C39), (.slice A40 N40 C40)] ∧ CallsH P 91 #[(.agg #[(.int .i64 t8), (.slice A31 N31 C31), (.slice A32 N32 C32), (.slice A33 N33 C33), (.slice A34 N34 C34), (.slice A35 N35 C35), (.slice A36 N36 C36), (.slice A37 N37 C37), (.slice A38 N38 C38), (.slice A39 N39 C39), (.slice A40 N40 C40)])] h_6 fun v3 h_7 =>
 ∃ (A41 : Option Addr), ∃ (N41 : Nat), ∃ (C41 : Nat), v3 = (.slice A41 N41 C41) ∧ AgreeH (h_6).size h_6 h_7 ∧ (Addr.block (Addr.add (Addr.mk (h).size 0 none) 8)) < (h_6).size ∧ ∃ (A42 : Option Addr), ∃ (N42 : Nat), ∃ (C42 : Nat), cellH h_7 (Addr.add (Addr.mk (h).size 0 none) 8) = some (.slice A42 N42 C42) ∧ PIf ((((N41 : Nat) : Int) : Int) < ((N42 : Nat) : Int))
 (∃ (t9 : Int), ∃ (A43 : Option Addr), ∃ (N43 : Nat), ∃ (C43 : Nat), ∃ (A44 : Option Addr), ∃ (N44 : Nat), ∃ (C44 : Nat), ∃ (A45 : Option Addr), ∃ (N45 : Nat), ∃ (C45 : Nat), ∃ (A46 : Option Addr), ∃ (N46 : Nat), ∃ (C46 : Nat), ∃ (A47 : Option Addr), ∃ (N47 : Nat), ∃ (C47 : Nat), ∃ (A48 : Option Addr), ∃ (N48 : Nat), ∃ (C48 : Nat), ∃ (A49 : Option Addr), ∃ (N49 : Nat), ∃ (C49 : Nat), ∃ (A50 : Option Addr), ∃ (N50 : Nat), ∃ (C50 : Nat), ∃ (A51 : Option Addr), ∃ (N51 : Nat), ∃ (C51 : Nat), ∃ (A52 : Option Addr), ∃ (N52 : Nat), ∃ (C52 : Nat), cellsH h_7 (Addr.mk (h).size 0 none) 0 [(.int .i64 t9), (.slice A43 N43 C43), (.slice A44 N44 C44), (.slice A45 N45 C45), (.slice A46 N46 C46), (.slice A47 N47 C47), (.slice A48 N48 C48), (.slice A49 N49 C49), (.slice A50 N50 C50), (.slice A51 N51 C51), (.slice A52 N52 C52)] ∧ CallsH P 92 #[(.agg #[(.int .i64 t9), (.slice A43 N43 C43), (.slice A44 N44 C44), (.slice A45 N45 C45), (.slice A46 N46 C46), (.slice A47 N47 C47), (.slice A48 N48 C48), (.slice A49 N49 C49), (.slice A50 N50 C50), (.slice A51 N51 C51), (.slice A52 N52 C52)])] h_7 fun v4 h_8 =>
 ∃ (A53 : Option Addr), ∃ (N53 : Nat), ∃ (C53 : Nat), v4 = (.slice A53 N53 C53) ∧ LoopT (σ := Int) (fun st_ h_st nx_st => B51_12 P R h A53 N53 C53 (st_) h_st nx_st) (0) h_8)
 (J51_3 P R h h_7)
def J51_1  (P : Program) (R : Value → Heap → Prop) (h : Heap) (A20 : (Option Addr)) (N20 : Nat) (C20 : Nat) (h_4 : Heap) : Prop :=
 ∃ (t5 : Int), ∃ (A21 : Option Addr), ∃ (N21 : Nat), ∃ (C21 : Nat), ∃ (A22 : Option Addr), ∃ (N22 : Nat), ∃ (C22 : Nat), ∃ (A23 : Option Addr), ∃ (N23 : Nat), ∃ (C23 : Nat), ∃ (A24 : Option Addr), ∃ (N24 : Nat), ∃ (C24 : Nat), ∃ (A25 : Option Addr), ∃ (N25 : Nat), ∃ (C25 : Nat), ∃ (A26 : Option Addr), ∃ (N26 : Nat), ∃ (C26 : Nat), ∃ (A27 : Option Addr), ∃ (N27 : Nat), ∃ (C27 : Nat), ∃ (A28 : Option Addr), ∃ (N28 : Nat), ∃ (C28 : Nat), ∃ (A29 : Option Addr), ∃ (N29 : Nat), ∃ (C29 : Nat), ∃ (A30 : Option Addr), ∃ (N30 : Nat), ∃ (C30 : Nat), cellsH h_4 (Addr.mk (h).size 0 none) 0 [(.int .i64 t5), (.slice A21 N21 C21), (.slice A22 N22 C22), (.slice A23 N23 C23), (.slice A24 N24 C24), (.slice A25 N25 C25), (.slice A26 N26 C26), (.slice A27 N27 C27), (.slice A28 N28 C28), (.slice A29 N29 C29), (.slice A30 N30 C30)] ∧ CallsH P 90 #[(.agg #[(.int .i64 t5), (.slice A21 N21 C21), (.slice A22 N22 C22), (.slice A23 N23 C23), (.slice A24 N24 C24), (.slice A25 N25 C25), (.slice A26 N26 C26), (.slice A27 N27 C27), (.slice A28 N28 C28), (.slice A29 N29 C29), (.slice A30 N30 C30)]), (.slice A20 N20 C20)] h_4 fun v2 h_5 =>
 ∃ (t6 : Int), ∃ (t7 : Int), v2 = (.tuple #[(.int .i64 t6), (.int .i64 t7)]) ∧ PIf ((t7 : Int) = 0)
 (J51_2 P R h h_5)
 (R (.tuple #[(.int .i64 t6), (.int .i64 t7)]) h_5)
def J51_0  (P : Program) (R : Value → Heap → Prop) (h : Heap) (h_2 : Heap) : Prop :=
 ∃ (t2 : Int), ∃ (A10 : Option Addr), ∃ (N10 : Nat), ∃ (C10 : Nat), ∃ (A11 : Option Addr), ∃ (N11 : Nat), ∃ (C11 : Nat), ∃ (A12 : Option Addr), ∃ (N12 : Nat), ∃ (C12 : Nat), ∃ (A13 : Option Addr), ∃ (N13 : Nat), ∃ (C13 : Nat), ∃ (A14 : Option Addr), ∃ (N14 : Nat), ∃ (C14 : Nat), ∃ (A15 : Option Addr), ∃ (N15 : Nat), ∃ (C15 : Nat), ∃ (A16 : Option Addr), ∃ (N16 : Nat), ∃ (C16 : Nat), ∃ (A17 : Option Addr), ∃ (N17 : Nat), ∃ (C17 : Nat), ∃ (A18 : Option Addr), ∃ (N18 : Nat), ∃ (C18 : Nat), ∃ (A19 : Option Addr), ∃ (N19 : Nat), ∃ (C19 : Nat), cellsH h_2 (Addr.mk (h).size 0 none) 0 [(.int .i64 t2), (.slice A10 N10 C10), (.slice A11 N11 C11), (.slice A12 N12 C12), (.slice A13 N13 C13), (.slice A14 N14 C14), (.slice A15 N15 C15), (.slice A16 N16 C16), (.slice A17 N17 C17), (.slice A18 N18 C18), (.slice A19 N19 C19)] ∧ CallsH P 89 #[(.agg #[(.int .i64 t2), (.slice A10 N10 C10), (.slice A11 N11 C11), (.slice A12 N12 C12), (.slice A13 N13 C13), (.slice A14 N14 C14), (.slice A15 N15 C15), (.slice A16 N16 C16), (.slice A17 N17 C17), (.slice A18 N18 C18), (.slice A19 N19 C19)])] h_2 fun v1 h_3 =>
 ∃ (A20 : Option Addr), ∃ (N20 : Nat), ∃ (C20 : Nat), ∃ (t3 : Int), ∃ (t4 : Int), v1 = (.tuple #[(.slice A20 N20 C20), (.int .i64 t3), (.int .i64 t4)]) ∧ PIf ((t4 : Int) = 0)
 (J51_1 P R h A20 N20 C20 h_3)
 (R (.tuple #[(.int .i64 t3), (.int .i64 t4)]) h_3)
def VC51 (P : Program) (c : Int) (cA : Option Addr) (cN : Nat) (cC : Nat) (cA1 : Option Addr) (cN1 : Nat) (cC1 : Nat) (cA2 : Option Addr) (cN2 : Nat) (cC2 : Nat) (cA3 : Option Addr) (cN3 : Nat) (cC3 : Nat) (cA4 : Option Addr) (cN4 : Nat) (cC4 : Nat) (cA5 : Option Addr) (cN5 : Nat) (cC5 : Nat) (cA6 : Option Addr) (cN6 : Nat) (cC6 : Nat) (cA7 : Option Addr) (cN7 : Nat) (cC7 : Nat) (cA8 : Option Addr) (cN8 : Nat) (cC8 : Nat) (cA9 : Option Addr) (cN9 : Nat) (cC9 : Nat) (R : Value → Heap → Prop) (h : Heap) : Prop :=
 let h_ : Heap := (h).push (.cells (Value.cells (.agg #[(.int .i64 c), (.slice cA cN cC), (.slice cA1 cN1 cC1), (.slice cA2 cN2 cC2), (.slice cA3 cN3 cC3), (.slice cA4 cN4 cC4), (.slice cA5 cN5 cC5), (.slice cA6 cN6 cC6), (.slice cA7 cN7 cC7), (.slice cA8 cN8 cC8), (.slice cA9 cN9 cC9)])) 29); ∃ (t : Int), ∃ (A : Option Addr), ∃ (N : Nat), ∃ (C : Nat), ∃ (A1 : Option Addr), ∃ (N1 : Nat), ∃ (C1 : Nat), ∃ (A2 : Option Addr), ∃ (N2 : Nat), ∃ (C2 : Nat), ∃ (A3 : Option Addr), ∃ (N3 : Nat), ∃ (C3 : Nat), ∃ (A4 : Option Addr), ∃ (N4 : Nat), ∃ (C4 : Nat), ∃ (A5 : Option Addr), ∃ (N5 : Nat), ∃ (C5 : Nat), ∃ (A6 : Option Addr), ∃ (N6 : Nat), ∃ (C6 : Nat), ∃ (A7 : Option Addr), ∃ (N7 : Nat), ∃ (C7 : Nat), ∃ (A8 : Option Addr), ∃ (N8 : Nat), ∃ (C8 : Nat), ∃ (A9 : Option Addr), ∃ (N9 : Nat), ∃ (C9 : Nat), cellsH h_ (Addr.mk (h).size 0 none) 0 [(.int .i64 t), (.slice A N C), (.slice A1 N1 C1), (.slice A2 N2 C2), (.slice A3 N3 C3), (.slice A4 N4 C4), (.slice A5 N5 C5), (.slice A6 N6 C6), (.slice A7 N7 C7), (.slice A8 N8 C8), (.slice A9 N9 C9)] ∧ CallsH P 88 #[(.agg #[(.int .i64 t), (.slice A N C), (.slice A1 N1 C1), (.slice A2 N2 C2), (.slice A3 N3 C3), (.slice A4 N4 C4), (.slice A5 N5 C5), (.slice A6 N6 C6), (.slice A7 N7 C7), (.slice A8 N8 C8), (.slice A9 N9 C9)])] h_ fun v h_1 =>
 ∃ (t1 : Int), v = (.int .i64 t1) ∧ PIf ((t1 : Int) = 0)
 (J51_0 P R h h_1)
 (R (.tuple #[(.int .i64 0), (.int .i64 t1)]) h_1)
theorem vc51 (P : Program) (c : Int) (cA : Option Addr) (cN : Nat) (cC : Nat) (cA1 : Option Addr) (cN1 : Nat) (cC1 : Nat) (cA2 : Option Addr) (cN2 : Nat) (cC2 : Nat) (cA3 : Option Addr) (cN3 : Nat) (cC3 : Nat) (cA4 : Option Addr) (cN4 : Nat) (cC4 : Nat) (cA5 : Option Addr) (cN5 : Nat) (cC5 : Nat) (cA6 : Option Addr) (cN6 : Nat) (cC6 : Nat) (cA7 : Option Addr) (cN7 : Nat) (cC7 : Nat) (cA8 : Option Addr) (cN8 : Nat) (cC8 : Nat) (cA9 : Option Addr) (cN9 : Nat) (cC9 : Nat) (R : Value → Heap → Prop) (h : Heap) : fnC P ret51 code51 [(.agg #[(.int .i64 c), (.slice cA cN cC), (.slice cA1 cN1 cC1), (.slice cA2 cN2 cC2), (.slice cA3 cN3 cC3), (.slice cA4 cN4 cC4), (.slice cA5 cN5 cC5), (.slice cA6 cN6 cC6), (.slice cA7 cN7 cC7), (.slice cA8 cN8 cC8), (.slice cA9 cN9 cC9)])] h R = VC51 P c cA cN cC cA1 cN1 cC1 cA2 cN2 cC2 cA3 cN3 cC3 cA4 cN4 cC4 cA5 cN5 cC5 cA6 cN6 cC6 cA7 cN7 cC7 cA8 cN8 cC8 cA9 cN9 cC9 R h := by kernel_rfl
theorem run51 (c : Int) (cA : Option Addr) (cN : Nat) (cC : Nat) (cA1 : Option Addr) (cN1 : Nat) (cC1 : Nat) (cA2 : Option Addr) (cN2 : Nat) (cC2 : Nat) (cA3 : Option Addr) (cN3 : Nat) (cC3 : Nat) (cA4 : Option Addr) (cN4 : Nat) (cC4 : Nat) (cA5 : Option Addr) (cN5 : Nat) (cC5 : Nat) (cA6 : Option Addr) (cN6 : Nat) (cC6 : Nat) (cA7 : Option Addr) (cN7 : Nat) (cC7 : Nat) (cA8 : Option Addr) (cN8 : Nat) (cC8 : Nat) (cA9 : Option Addr) (cN9 : Nat) (cC9 : Nat) (R : Value → Heap → Prop) (h : Heap) (hv : VC51 Try.prog c cA cN cC cA1 cN1 cC1 cA2 cN2 cC2 cA3 cN3 cC3 cA4 cN4 cC4 cA5 cN5 cC5 cA6 cN6 cC6 cA7 cN7 cC7 cA8 cN8 cC8 cA9 cN9 cC9 R h) : CallsH Try.prog 51 #[(.agg #[(.int .i64 c), (.slice cA cN cC), (.slice cA1 cN1 cC1), (.slice cA2 cN2 cC2), (.slice cA3 cN3 cC3), (.slice cA4 cN4 cC4), (.slice cA5 cN5 cC5), (.slice cA6 cN6 cC6), (.slice cA7 cN7 cC7), (.slice cA8 cN8 cC8), (.slice cA9 cN9 cC9)])] h R := calls_of_fnC (Checked.mixed Try.checked) Try.func51 comp51 (Nat.le_of_ble_eq_true rfl) (by rw [vc51]; exact hv)

/-! 89: trestle/trestleref03.Defined -/
def code89 : SCode := (.seq (.region .txt [⟨(some 1), .box 29 (.tmp 0), none⟩,
  ⟨(some 2), .mv (.const (.slice none 0 0)), none⟩,
  ⟨(some 3), .mv (.const (.int .i64 0)), none⟩,
  ⟨(some 4), .mv (.const (.int .i64 0)), none⟩]) (.seq (.region .txt [⟨(some 13), .fldA 0 (.tmp 1), none⟩,
  ⟨(some 14), .ld (.int .i64) (.tmp 13), none⟩,
  ⟨(some 15), .arith .add .i64 (.tmp 14) (.const (.int .i64 1)), none⟩,
  ⟨(some 16), .mkS 4 1 1 #[(.bool false)] (.tmp 15) (.tmp 15), none⟩,
  ⟨(some 5), .mv (.tmp 16), none⟩]) (.seq (.seq (.region .txt [⟨(some 6), .mv (.const (.int .i64 0)), none⟩]) (.block 0 (.loop [(6, .int .i64)] [17, 18, 19, 20, 21, 24, 25, 26, 27, 28, 29, 30, 31, 7, 32, 33, 34, 35, 2, 3, 4, 22, 23, 6] (.seq (.seq (.region .txt [⟨(some 17), .mv (.tmp 6), none⟩,
  ⟨(some 18), .fldA 1 (.tmp 1), none⟩,
  ⟨(some 19), .ld (.slice) (.tmp 18), none⟩,
  ⟨(some 20), .len (.tmp 19), none⟩,
  ⟨(some 21), .icmp .lss .i64 (.tmp 17) (.tmp 20), none⟩]) (.cond (.tmp 21) .skip (.exit 0))) (.seq (.block 1 (.seq (.region .txt [⟨(some 24), .ldn [.int .i64, .slice, .slice, .slice, .slice, .slice, .slice, .slice, .slice, .slice, .slice] (.tmp 1), none⟩,
  ⟨(some 25), .mv (.tmp 5), none⟩,
  ⟨(some 26), .fldA 1 (.tmp 1), none⟩,
  ⟨(some 27), .ld (.slice) (.tmp 26), none⟩,
  ⟨(some 28), .mv (.tmp 6), none⟩,
  ⟨(some 29), .idxA 1 (.tmp 27) (.tmp 28), none⟩,
  ⟨(some 30), .ld (.int .i64) (.tmp 29), none⟩,
  ⟨(some 31), .call 124 [(.tmp 24), (.tmp 25), (.tmp 30)] (.val (.one (.int .i64))), none⟩,
  ⟨(some 7), .mv (.tmp 31), none⟩]) (.seq (.region .txt [⟨(some 32), .mv (.tmp 7), none⟩,
  ⟨(some 33), .icmp .neq .i64 (.tmp 32) (.const (.int .i64 0)), none⟩]) (.cond (.tmp 33) (.seq (.region .txt [⟨(some 34), .mv (.tmp 6), none⟩,
  ⟨(some 35), .mv (.tmp 7), none⟩,
  ⟨(some 2), .mv (.const (.slice none 0 0)), none⟩,
  ⟨(some 3), .mv (.tmp 34), none⟩,
  ⟨(some 4), .mv (.tmp 35), none⟩]) .ret) .skip)))) (.region .txt [⟨(some 22), .mv (.tmp 6), none⟩,
  ⟨(some 23), .arith .add .i64 (.tmp 22) (.const (.int .i64 1)), none⟩,
  ⟨(some 6), .mv (.tmp 23), none⟩])))))) (.seq (.seq (.region .txt [⟨(some 8), .mv (.const (.int .i64 0)), none⟩]) (.block 2 (.loop [(8, .int .i64)] [36, 37, 38, 39, 40, 43, 44, 45, 46, 47, 9, 48, 49, 50, 51, 52, 10, 53, 54, 55, 56, 2, 3, 4, 57, 58, 59, 60, 61, 62, 63, 64, 65, 66, 67, 68, 69, 70, 71, 72, 2, 3, 4, 41, 42, 8] (.seq (.seq (.region .txt [⟨(some 36), .mv (.tmp 8), none⟩,
  ⟨(some 37), .fldA 2 (.tmp 1), none⟩,
  ⟨(some 38), .ld (.slice) (.tmp 37), none⟩,
  ⟨(some 39), .len (.tmp 38), none⟩,
  ⟨(some 40), .icmp .lss .i64 (.tmp 36) (.tmp 39), none⟩]) (.cond (.tmp 40) .skip (.exit 2))) (.seq (.block 3 (.seq (.region .txt [⟨(some 43), .fldA 2 (.tmp 1), none⟩,
  ⟨(some 44), .ld (.slice) (.tmp 43), none⟩,
  ⟨(some 45), .mv (.tmp 8), none⟩,
  ⟨(some 46), .idxA 3 (.tmp 44) (.tmp 45), none⟩,
  ⟨(some 47), .ldn [.int .i64, .int .i64, .int .i64] (.tmp 46), none⟩,
  ⟨(some 9), .alloc 80 (.agg #[(.int .i64 0), (.int .i64 0), (.int .i64 0)]), none⟩,
  ⟨none, .st 3 (.tmp 9) (.tmp 47), none⟩]) (.seq (.seq (.region .txt [⟨(some 48), .ldn [.int .i64, .slice, .slice, .slice, .slice, .slice, .slice, .slice, .slice, .slice, .slice] (.tmp 1), none⟩,
  ⟨(some 49), .mv (.tmp 5), none⟩,
  ⟨(some 50), .fldA 0 (.tmp 9), none⟩,
  ⟨(some 51), .ld (.int .i64) (.tmp 50), none⟩,
  ⟨(some 52), .call 124 [(.tmp 48), (.tmp 49), (.tmp 51)] (.val (.one (.int .i64))), none⟩,
  ⟨(some 10), .mv (.tmp 52), none⟩]) (.seq (.region .txt [⟨(some 53), .mv (.tmp 10), none⟩,
  ⟨(some 54), .icmp .neq .i64 (.tmp 53) (.const (.int .i64 0)), none⟩]) (.cond (.tmp 54) (.seq (.region .txt [⟨(some 55), .mv (.tmp 8), none⟩,
  ⟨(some 56), .mv (.tmp 10), none⟩,
  ⟨(some 2), .mv (.const (.slice none 0 0)), none⟩,
  ⟨(some 3), .mv (.tmp 55), none⟩,
  ⟨(some 4), .mv (.tmp 56), none⟩]) .ret) .skip))) (.seq (.region .txt [⟨(some 57), .fldA 2 (.tmp 9), none⟩,
  ⟨(some 58), .ld (.int .i64) (.tmp 57), none⟩,
  ⟨(some 59), .icmp .neq .i64 (.tmp 58) (.const (.int .i64 0)), none⟩,
  ⟨(some 60), .mv (.tmp 59), none⟩,
  ⟨(some 61), .fldA 2 (.tmp 9), (some (60, true))⟩,
  ⟨(some 62), .ld (.int .i64) (.tmp 61), (some (60, true))⟩,
  ⟨(some 63), .icmp .neq .i64 (.tmp 62) (.const (.int .i64 1)), (some (60, true))⟩,
  ⟨(some 64), .pick (.tmp 60) (.tmp 63) (.const (.bool false)), none⟩,
  ⟨(some 65), .mv (.tmp 64), none⟩,
  ⟨(some 66), .fldA 2 (.tmp 9), (some (65, true))⟩,
  ⟨(some 67), .ld (.int .i64) (.tmp 66), (some (65, true))⟩,
  ⟨(some 68), .fldA 0 (.tmp 9), (some (65, true))⟩,
  ⟨(some 69), .ld (.int .i64) (.tmp 68), (some (65, true))⟩,
  ⟨(some 70), .icmp .neq .i64 (.tmp 67) (.tmp 69), (some (65, true))⟩,
  ⟨(some 71), .pick (.tmp 65) (.tmp 70) (.const (.bool false)), none⟩]) (.cond (.tmp 71) (.seq (.region .txt [⟨(some 72), .mv (.tmp 8), none⟩,
  ⟨(some 2), .mv (.const (.slice none 0 0)), none⟩,
  ⟨(some 3), .mv (.tmp 72), none⟩,
  ⟨(some 4), .mv (.const (.int .i64 33)), none⟩]) .ret) .skip))))) (.region .txt [⟨(some 41), .mv (.tmp 8), none⟩,
  ⟨(some 42), .arith .add .i64 (.tmp 41) (.const (.int .i64 1)), none⟩,
  ⟨(some 8), .mv (.tmp 42), none⟩])))))) (.seq (.seq (.region .txt [⟨(some 11), .mv (.const (.int .i64 0)), none⟩]) (.block 4 (.loop [(11, .int .i64)] [73, 74, 75, 76, 77, 80, 81, 82, 83, 84, 85, 86, 87, 88, 12, 89, 90, 91, 92, 2, 3, 4, 78, 79, 11] (.seq (.seq (.region .txt [⟨(some 73), .mv (.tmp 11), none⟩,
  ⟨(some 74), .fldA 8 (.tmp 1), none⟩,
  ⟨(some 75), .ld (.slice) (.tmp 74), none⟩,
  ⟨(some 76), .len (.tmp 75), none⟩,
  ⟨(some 77), .icmp .lss .i64 (.tmp 73) (.tmp 76), none⟩]) (.cond (.tmp 77) .skip (.exit 4))) (.seq (.block 5 (.seq (.region .txt [⟨(some 80), .ldn [.int .i64, .slice, .slice, .slice, .slice, .slice, .slice, .slice, .slice, .slice, .slice] (.tmp 1), none⟩,
  ⟨(some 81), .mv (.tmp 5), none⟩,
  ⟨(some 82), .fldA 8 (.tmp 1), none⟩,
  ⟨(some 83), .ld (.slice) (.tmp 82), none⟩,
  ⟨(some 84), .mv (.tmp 11), none⟩,
  ⟨(some 85), .idxA 3 (.tmp 83) (.tmp 84), none⟩,
  ⟨(some 86), .fldA 0 (.tmp 85), none⟩,
  ⟨(some 87), .ld (.int .i64) (.tmp 86), none⟩,
  ⟨(some 88), .call 124 [(.tmp 80), (.tmp 81), (.tmp 87)] (.val (.one (.int .i64))), none⟩,
  ⟨(some 12), .mv (.tmp 88), none⟩]) (.seq (.region .txt [⟨(some 89), .mv (.tmp 12), none⟩,
  ⟨(some 90), .icmp .neq .i64 (.tmp 89) (.const (.int .i64 0)), none⟩]) (.cond (.tmp 90) (.seq (.region .txt [⟨(some 91), .mv (.tmp 11), none⟩,
  ⟨(some 92), .mv (.tmp 12), none⟩,
  ⟨(some 2), .mv (.const (.slice none 0 0)), none⟩,
  ⟨(some 3), .mv (.tmp 91), none⟩,
  ⟨(some 4), .mv (.tmp 92), none⟩]) .ret) .skip)))) (.region .txt [⟨(some 78), .mv (.tmp 11), none⟩,
  ⟨(some 79), .arith .add .i64 (.tmp 78) (.const (.int .i64 1)), none⟩,
  ⟨(some 11), .mv (.tmp 79), none⟩])))))) (.seq (.region .txt [⟨(some 93), .mv (.tmp 5), none⟩,
  ⟨(some 94), .idxA 1 (.tmp 93) (.const (.int .i64 0)), none⟩,
  ⟨none, .st 1 (.tmp 94) (.const (.bool true)), none⟩]) (.seq (.region .txt [⟨(some 95), .mv (.tmp 5), none⟩,
  ⟨(some 2), .mv (.tmp 95), none⟩,
  ⟨(some 3), .mv (.const (.int .i64 0)), none⟩,
  ⟨(some 4), .mv (.const (.int .i64 0)), none⟩]) .ret)))))))
def loops89 : List (List (Nat × Shp)) := [[(6, .int .i64)], [(8, .int .i64)], [(11, .int .i64)]]
def ret89 : List RV := [.tmp 2, .tmp 3, .tmp 4]
theorem comp89 : compF Try.prog Try.f89 loops89 = some (96, ret89, code89) := by kernel_rfl
def J89_1  (P : Program) (R : Value → Heap → Prop) (h : Heap) (h_ : Heap) (t : Int) (i : Int) (next_ : (Int → Heap → Prop)) (h_3 : Heap) : Prop :=
 ∃ (t1 : Int), ∃ (A1 : Option Addr), ∃ (N1 : Nat), ∃ (C1 : Nat), ∃ (A2 : Option Addr), ∃ (N2 : Nat), ∃ (C2 : Nat), ∃ (A3 : Option Addr), ∃ (N3 : Nat), ∃ (C3 : Nat), ∃ (A4 : Option Addr), ∃ (N4 : Nat), ∃ (C4 : Nat), ∃ (A5 : Option Addr), ∃ (N5 : Nat), ∃ (C5 : Nat), ∃ (A6 : Option Addr), ∃ (N6 : Nat), ∃ (C6 : Nat), ∃ (A7 : Option Addr), ∃ (N7 : Nat), ∃ (C7 : Nat), ∃ (A8 : Option Addr), ∃ (N8 : Nat), ∃ (C8 : Nat), ∃ (A9 : Option Addr), ∃ (N9 : Nat), ∃ (C9 : Nat), ∃ (A10 : Option Addr), ∃ (N10 : Nat), ∃ (C10 : Nat), cellsH h_3 (Addr.mk (h).size 0 none) 0 [(.int .i64 t1), (.slice A1 N1 C1), (.slice A2 N2 C2), (.slice A3 N3 C3), (.slice A4 N4 C4), (.slice A5 N5 C5), (.slice A6 N6 C6), (.slice A7 N7 C7), (.slice A8 N8 C8), (.slice A9 N9 C9), (.slice A10 N10 C10)] ∧ ∃ (A11 : Option Addr), ∃ (N11 : Nat), ∃ (C11 : Nat), cellH h_3 (Addr.add (Addr.mk (h).size 0 none) 1) = some (.slice A11 N11 C11) ∧ 0 ≤ (i : Int) ∧ (i : Int) < (N11 : Nat) ∧ AtP A11 fun ad => ∃ (t2 : Int), cellH h_3 (Addr.add ad (Int.toNat i * 1)) = some (.int .i64 t2) ∧ CallsH P 124 #[(.agg #[(.int .i64 t1), (.slice A1 N1 C1), (.slice A2 N2 C2), (.slice A3 N3 C3), (.slice A4 N4 C4), (.slice A5 N5 C5), (.slice A6 N6 C6), (.slice A7 N7 C7), (.slice A8 N8 C8), (.slice A9 N9 C9), (.slice A10 N10 C10)]), (.slice (some (Addr.mk (h_).size 0 none)) (Int.toNat (IntKind.wrap .i64 (t + 1))) (Int.toNat (IntKind.wrap .i64 (t + 1)))), (.int .i64 t2)] h_3 fun v h_4 =>
 ∃ (t3 : Int), v = (.int .i64 t3) ∧ PIf ((t3 : Int) = 0)
 (next_ ((IntKind.wrap .i64 (i + 1))) h_4)
 (R (.tuple #[(.slice none 0 0), (.int .i64 i), (.int .i64 t3)]) h_4)
def J89_4  (R : Value → Heap → Prop) (i1 : Int) (next_1 : (Int → Heap → Prop)) (h_7 : Heap) (h_11 : Heap) : Prop :=
 ∃ (t10 : Int), cellH h_11 (Addr.add (Addr.mk (h_7).size 0 none) 2) = some (.int .i64 t10) ∧ PIf ((t10 : Int) = 0)
 (next_1 ((IntKind.wrap .i64 (i1 + 1))) h_11)
 (∃ (t11 : Int), cellH h_11 (Addr.add (Addr.mk (h_7).size 0 none) 2) = some (.int .i64 t11) ∧ PIf ((t11 : Int) = 1)
 (next_1 ((IntKind.wrap .i64 (i1 + 1))) h_11)
 (∃ (t12 : Int), cellH h_11 (Addr.add (Addr.mk (h_7).size 0 none) 2) = some (.int .i64 t12) ∧ ∃ (t13 : Int), cellH h_11 (Addr.add (Addr.mk (h_7).size 0 none) 0) = some (.int .i64 t13) ∧ PIf ((t12 : Int) = t13)
 (next_1 ((IntKind.wrap .i64 (i1 + 1))) h_11)
 (R (.tuple #[(.slice none 0 0), (.int .i64 i1), (.int .i64 33)]) h_11)))
def J89_3  (P : Program) (R : Value → Heap → Prop) (h : Heap) (h_ : Heap) (t : Int) (i1 : Int) (next_1 : (Int → Heap → Prop)) (h_7 : Heap) : Prop :=
 ∃ (A13 : Option Addr), ∃ (N13 : Nat), ∃ (C13 : Nat), cellH h_7 (Addr.add (Addr.mk (h).size 0 none) 2) = some (.slice A13 N13 C13) ∧ 0 ≤ (i1 : Int) ∧ (i1 : Int) < (N13 : Nat) ∧ AtP A13 fun ad1 => ∃ (t4 : Int), ∃ (t5 : Int), ∃ (t6 : Int), cellsH h_7 (Addr.add ad1 (Int.toNat i1 * 3)) 0 [(.int .i64 t4), (.int .i64 t5), (.int .i64 t6)] ∧ let h_8 : Heap := (h_7).push (.cells #[(.int .i64 0), (.int .i64 0), (.int .i64 0)] 80); StoreH h_8 (Addr.mk (h_7).size 0 none) [(.int .i64 t4), (.int .i64 t5), (.int .i64 t6)] fun h_9 => ∃ (t7 : Int), ∃ (A14 : Option Addr), ∃ (N14 : Nat), ∃ (C14 : Nat), ∃ (A15 : Option Addr), ∃ (N15 : Nat), ∃ (C15 : Nat), ∃ (A16 : Option Addr), ∃ (N16 : Nat), ∃ (C16 : Nat), ∃ (A17 : Option Addr), ∃ (N17 : Nat), ∃ (C17 : Nat), ∃ (A18 : Option Addr), ∃ (N18 : Nat), ∃ (C18 : Nat), ∃ (A19 : Option Addr), ∃ (N19 : Nat), ∃ (C19 : Nat), ∃ (A20 : Option Addr), ∃ (N20 : Nat), ∃ (C20 : Nat), ∃ (A21 : Option Addr), ∃ (N21 : Nat), ∃ (C21 : Nat), ∃ (A22 : Option Addr), ∃ (N22 : Nat), ∃ (C22 : Nat), ∃ (A23 : Option Addr), ∃ (N23 : Nat), ∃ (C23 : Nat), cellsH h_9 (Addr.mk (h).size 0 none) 0 [(.int .i64 t7), (.slice A14 N14 C14), (.slice A15 N15 C15), (.slice A16 N16 C16), (.slice A17 N17 C17), (.slice A18 N18 C18), (.slice A19 N19 C19), (.slice A20 N20 C20), (.slice A21 N21 C21), (.slice A22 N22 C22), (.slice A23 N23 C23)] ∧ ∃ (t8 : Int), cellH h_9 (Addr.add (Addr.mk (h_7).size 0 none) 0) = some (.int .i64 t8) ∧ CallsH P 124 #[(.agg #[(.int .i64 t7), (.slice A14 N14 C14), (.slice A15 N15 C15), (.slice A16 N16 C16), (.slice A17 N17 C17), (.slice A18 N18 C18), (.slice A19 N19 C19), (.slice A20 N20 C20), (.slice A21 N21 C21), (.slice A22 N22 C22), (.slice A23 N23 C23)]), (.slice (some (Addr.mk (h_).size 0 none)) (Int.toNat (IntKind.wrap .i64 (t + 1))) (Int.toNat (IntKind.wrap .i64 (t + 1)))), (.int .i64 t8)] h_9 fun v1 h_10 =>
 ∃ (t9 : Int), v1 = (.int .i64 t9) ∧ PIf ((t9 : Int) = 0)
 (J89_4 R i1 next_1 h_7 h_10)
 (R (.tuple #[(.slice none 0 0), (.int .i64 i1), (.int .i64 t9)]) h_10)
def J89_6  (P : Program) (R : Value → Heap → Prop) (h : Heap) (h_ : Heap) (t : Int) (i2 : Int) (next_2 : (Int → Heap → Prop)) (h_14 : Heap) : Prop :=
 ∃ (t14 : Int), ∃ (A25 : Option Addr), ∃ (N25 : Nat), ∃ (C25 : Nat), ∃ (A26 : Option Addr), ∃ (N26 : Nat), ∃ (C26 : Nat), ∃ (A27 : Option Addr), ∃ (N27 : Nat), ∃ (C27 : Nat), ∃ (A28 : Option Addr), ∃ (N28 : Nat), ∃ (C28 : Nat), ∃ (A29 : Option Addr), ∃ (N29 : Nat), ∃ (C29 : Nat), ∃ (A30 : Option Addr), ∃ (N30 : Nat), ∃ (C30 : Nat), ∃ (A31 : Option Addr), ∃ (N31 : Nat), ∃ (C31 : Nat), ∃ (A32 : Option Addr), ∃ (N32 : Nat), ∃ (C32 : Nat), ∃ (A33 : Option Addr), ∃ (N33 : Nat), ∃ (C33 : Nat), ∃ (A34 : Option Addr), ∃ (N34 : Nat), ∃ (C34 : Nat), cellsH h_14 (Addr.mk (h).size 0 none) 0 [(.int .i64 t14), (.slice A25 N25 C25), (.slice A26 N26 C26), (.slice A27 N27 C27), (.slice A28 N28 C28), (.slice A29 N29 C29), (.slice A30 N30 C30), (.slice A31 N31 C31), (.slice A32 N32 C32), (.slice A33 N33 C33), (.slice A34 N34 C34)] ∧ ∃ (A35 : Option Addr), ∃ (N35 : Nat), ∃ (C35 : Nat), cellH h_14 (Addr.add (Addr.mk (h).size 0 none) 8) = some (.slice A35 N35 C35) ∧ 0 ≤ (i2 : Int) ∧ (i2 : Int) < (N35 : Nat) ∧ AtP A35 fun ad2 => ∃ (t15 : Int), cellH h_14 (Addr.add (Addr.add ad2 (Int.toNat i2 * 3)) 0) = some (.int .i64 t15) ∧ CallsH P 124 #[(.agg #[(.int .i64 t14), (.slice A25 N25 C25), (.slice A26 N26 C26), (.slice A27 N27 C27), (.slice A28 N28 C28), (.slice A29 N29 C29), (.slice A30 N30 C30), (.slice A31 N31 C31), (.slice A32 N32 C32), (.slice A33 N33 C33), (.slice A34 N34 C34)]), (.slice (some (Addr.mk (h_).size 0 none)) (Int.toNat (IntKind.wrap .i64 (t + 1))) (Int.toNat (IntKind.wrap .i64 (t + 1)))), (.int .i64 t15)] h_14 fun v2 h_15 =>
 ∃ (t16 : Int), v2 = (.int .i64 t16) ∧ PIf ((t16 : Int) = 0)
 (next_2 ((IntKind.wrap .i64 (i2 + 1))) h_15)
 (R (.tuple #[(.slice none 0 0), (.int .i64 i2), (.int .i64 t16)]) h_15)
def J89_5  (R : Value → Heap → Prop) (h_ : Heap) (t : Int) (h_16 : Heap) : Prop :=
 0 ≤ (0 : Int) ∧ (0 : Int) < ((Int.toNat (IntKind.wrap .i64 (t + 1))) : Nat) ∧ StoreH h_16 (Addr.add (Addr.mk (h_).size 0 none) (Int.toNat 0 * 1)) [(.bool true)] fun h_17 => R (.tuple #[(.slice (some (Addr.mk (h_).size 0 none)) (Int.toNat (IntKind.wrap .i64 (t + 1))) (Int.toNat (IntKind.wrap .i64 (t + 1)))), (.int .i64 0), (.int .i64 0)]) h_17
def B89_7 (P : Program) (R : Value → Heap → Prop) (h : Heap) (h_ : Heap) (t : Int) (i2 : Int) (h_13 : Heap) (next_2 : Int → Heap → Prop) : Prop :=
 ∃ (A24 : Option Addr), ∃ (N24 : Nat), ∃ (C24 : Nat), cellH h_13 (Addr.add (Addr.mk (h).size 0 none) 8) = some (.slice A24 N24 C24) ∧ PIf ((i2 : Int) < ((N24 : Nat) : Int))
 (J89_6 P R h h_ t i2 next_2 h_13)
 (J89_5 R h_ t h_13)
def J89_2  (P : Program) (R : Value → Heap → Prop) (h : Heap) (h_ : Heap) (t : Int) (h_12 : Heap) : Prop :=
 LoopT (σ := Int) (fun st_ h_st nx_st => B89_7 P R h h_ t (st_) h_st nx_st) (0) h_12
def B89_8 (P : Program) (R : Value → Heap → Prop) (h : Heap) (h_ : Heap) (t : Int) (i1 : Int) (h_6 : Heap) (next_1 : Int → Heap → Prop) : Prop :=
 ∃ (A12 : Option Addr), ∃ (N12 : Nat), ∃ (C12 : Nat), cellH h_6 (Addr.add (Addr.mk (h).size 0 none) 2) = some (.slice A12 N12 C12) ∧ PIf ((i1 : Int) < ((N12 : Nat) : Int))
 (J89_3 P R h h_ t i1 next_1 h_6)
 (J89_2 P R h h_ t h_6)
def J89_0  (P : Program) (R : Value → Heap → Prop) (h : Heap) (h_ : Heap) (t : Int) (h_5 : Heap) : Prop :=
 LoopT (σ := Int) (fun st_ h_st nx_st => B89_8 P R h h_ t (st_) h_st nx_st) (0) h_5
def B89_9 (P : Program) (R : Value → Heap → Prop) (h : Heap) (h_ : Heap) (t : Int) (i : Int) (h_2 : Heap) (next_ : Int → Heap → Prop) : Prop :=
 ∃ (A : Option Addr), ∃ (N : Nat), ∃ (C : Nat), cellH h_2 (Addr.add (Addr.mk (h).size 0 none) 1) = some (.slice A N C) ∧ PIf ((i : Int) < ((N : Nat) : Int))
 (J89_1 P R h h_ t i next_ h_2)
 (J89_0 P R h h_ t h_2)
def VC89 (P : Program) (c : Int) (cA : Option Addr) (cN : Nat) (cC : Nat) (cA1 : Option Addr) (cN1 : Nat) (cC1 : Nat) (cA2 : Option Addr) (cN2 : Nat) (cC2 : Nat) (cA3 : Option Addr) (cN3 : Nat) (cC3 : Nat) (cA4 : Option Addr) (cN4 : Nat) (cC4 : Nat) (cA5 : Option Addr) (cN5 : Nat) (cC5 : Nat) (cA6 : Option Addr) (cN6 : Nat) (cC6 : Nat) (cA7 : Option Addr) (cN7 : Nat) (cC7 : Nat) (cA8 : Option Addr) (cN8 : Nat) (cC8 : Nat) (cA9 : Option Addr) (cN9 : Nat) (cC9 : Nat) (R : Value → Heap → Prop) (h : Heap) : Prop :=
 let h_ : Heap := (h).push (.cells (Value.cells (.agg #[(.int .i64 c), (.slice cA cN cC), (.slice cA1 cN1 cC1), (.slice cA2 cN2 cC2), (.slice cA3 cN3 cC3), (.slice cA4 cN4 cC4), (.slice cA5 cN5 cC5), (.slice cA6 cN6 cC6), (.slice cA7 cN7 cC7), (.slice cA8 cN8 cC8), (.slice cA9 cN9 cC9)])) 29); ∃ (t : Int), cellH h_ (Addr.add (Addr.mk (h).size 0 none) 0) = some (.int .i64 t) ∧ 0 ≤ ((IntKind.wrap .i64 (t + 1)) : Int) ∧ ((IntKind.wrap .i64 (t + 1)) : Int) ≤ (IntKind.wrap .i64 (t + 1)) ∧ (1 : Int) * (IntKind.wrap .i64 (t + 1)) ≤ 281474976710656 ∧ let h_1 : Heap := (h_).push (.cells (zeroRow #[(.bool false)] (Int.toNat (IntKind.wrap .i64 (t + 1)) * 1)).toArray 4); LoopT (σ := Int) (fun st_ h_st nx_st => B89_9 P R h h_ t (st_) h_st nx_st) (0) h_1
theorem vc89 (P : Program) (c : Int) (cA : Option Addr) (cN : Nat) (cC : Nat) (cA1 : Option Addr) (cN1 : Nat) (cC1 : Nat) (cA2 : Option Addr) (cN2 : Nat) (cC2 : Nat) (cA3 : Option Addr) (cN3 : Nat) (cC3 : Nat) (cA4 : Option Addr) (cN4 : Nat) (cC4 : Nat) (cA5 : Option Addr) (cN5 : Nat) (cC5 : Nat) (cA6 : Option Addr) (cN6 : Nat) (cC6 : Nat) (cA7 : Option Addr) (cN7 : Nat) (cC7 : Nat) (cA8 : Option Addr) (cN8 : Nat) (cC8 : Nat) (cA9 : Option Addr) (cN9 : Nat) (cC9 : Nat) (R : Value → Heap → Prop) (h : Heap) : fnC P ret89 code89 [(.agg #[(.int .i64 c), (.slice cA cN cC), (.slice cA1 cN1 cC1), (.slice cA2 cN2 cC2), (.slice cA3 cN3 cC3), (.slice cA4 cN4 cC4), (.slice cA5 cN5 cC5), (.slice cA6 cN6 cC6), (.slice cA7 cN7 cC7), (.slice cA8 cN8 cC8), (.slice cA9 cN9 cC9)])] h R = VC89 P c cA cN cC cA1 cN1 cC1 cA2 cN2 cC2 cA3 cN3 cC3 cA4 cN4 cC4 cA5 cN5 cC5 cA6 cN6 cC6 cA7 cN7 cC7 cA8 cN8 cC8 cA9 cN9 cC9 R h := by kernel_rfl
theorem run89 (c : Int) (cA : Option Addr) (cN : Nat) (cC : Nat) (cA1 : Option Addr) (cN1 : Nat) (cC1 : Nat) (cA2 : Option Addr) (cN2 : Nat) (cC2 : Nat) (cA3 : Option Addr) (cN3 : Nat) (cC3 : Nat) (cA4 : Option Addr) (cN4 : Nat) (cC4 : Nat) (cA5 : Option Addr) (cN5 : Nat) (cC5 : Nat) (cA6 : Option Addr) (cN6 : Nat) (cC6 : Nat) (cA7 : Option Addr) (cN7 : Nat) (cC7 : Nat) (cA8 : Option Addr) (cN8 : Nat) (cC8 : Nat) (cA9 : Option Addr) (cN9 : Nat) (cC9 : Nat) (R : Value → Heap → Prop) (h : Heap) (hv : VC89 Try.prog c cA cN cC cA1 cN1 cC1 cA2 cN2 cC2 cA3 cN3 cC3 cA4 cN4 cC4 cA5 cN5 cC5 cA6 cN6 cC6 cA7 cN7 cC7 cA8 cN8 cC8 cA9 cN9 cC9 R h) : CallsH Try.prog 89 #[(.agg #[(.int .i64 c), (.slice cA cN cC), (.slice cA1 cN1 cC1), (.slice cA2 cN2 cC2), (.slice cA3 cN3 cC3), (.slice cA4 cN4 cC4), (.slice cA5 cN5 cC5), (.slice cA6 cN6 cC6), (.slice cA7 cN7 cC7), (.slice cA8 cN8 cC8), (.slice cA9 cN9 cC9)])] h R := calls_of_fnC (Checked.mixed Try.checked) Try.func89 comp89 (Nat.le_of_ble_eq_true rfl) (by rw [vc89]; exact hv)

/-! 90: trestle/trestleref03.uses -/
def code90 : SCode := (.seq (.region .txt [⟨(some 2), .box 29 (.tmp 0), none⟩,
  ⟨(some 4), .mv (.const (.int .i64 0)), none⟩,
  ⟨(some 5), .mv (.const (.int .i64 0)), none⟩]) (.seq (.seq (.region .txt [⟨(some 6), .mv (.const (.int .i64 0)), none⟩]) (.block 0 (.loop [(6, .int .i64)] [20, 21, 22, 23, 24, 27, 28, 29, 30, 31, 32, 33, 34, 35, 7, 36, 37, 38, 39, 4, 5, 25, 26, 6] (.seq (.seq (.region .txt [⟨(some 20), .mv (.tmp 6), none⟩,
  ⟨(some 21), .fldA 2 (.tmp 2), none⟩,
  ⟨(some 22), .ld (.slice) (.tmp 21), none⟩,
  ⟨(some 23), .len (.tmp 22), none⟩,
  ⟨(some 24), .icmp .lss .i64 (.tmp 20) (.tmp 23), none⟩]) (.cond (.tmp 24) .skip (.exit 0))) (.seq (.block 1 (.seq (.region .txt [⟨(some 27), .ldn [.int .i64, .slice, .slice, .slice, .slice, .slice, .slice, .slice, .slice, .slice, .slice] (.tmp 2), none⟩,
  ⟨(some 28), .mv (.tmp 1), none⟩,
  ⟨(some 29), .fldA 2 (.tmp 2), none⟩,
  ⟨(some 30), .ld (.slice) (.tmp 29), none⟩,
  ⟨(some 31), .mv (.tmp 6), none⟩,
  ⟨(some 32), .idxA 3 (.tmp 30) (.tmp 31), none⟩,
  ⟨(some 33), .fldA 1 (.tmp 32), none⟩,
  ⟨(some 34), .ld (.int .i64) (.tmp 33), none⟩,
  ⟨(some 35), .call 125 [(.tmp 27), (.tmp 28), (.tmp 34)] (.val (.one (.int .i64))), none⟩,
  ⟨(some 7), .mv (.tmp 35), none⟩]) (.seq (.region .txt [⟨(some 36), .mv (.tmp 7), none⟩,
  ⟨(some 37), .icmp .neq .i64 (.tmp 36) (.const (.int .i64 0)), none⟩]) (.cond (.tmp 37) (.seq (.region .txt [⟨(some 38), .mv (.tmp 6), none⟩,
  ⟨(some 39), .mv (.tmp 7), none⟩,
  ⟨(some 4), .mv (.tmp 38), none⟩,
  ⟨(some 5), .mv (.tmp 39), none⟩]) .ret) .skip)))) (.region .txt [⟨(some 25), .mv (.tmp 6), none⟩,
  ⟨(some 26), .arith .add .i64 (.tmp 25) (.const (.int .i64 1)), none⟩,
  ⟨(some 6), .mv (.tmp 26), none⟩])))))) (.seq (.region .txt [⟨(some 40), .fldA 3 (.tmp 2), none⟩,
  ⟨(some 41), .ld (.slice) (.tmp 40), none⟩,
  ⟨(some 42), .fldA 4 (.tmp 2), none⟩,
  ⟨(some 43), .ld (.slice) (.tmp 42), none⟩,
  ⟨(some 44), .fldA 5 (.tmp 2), none⟩,
  ⟨(some 45), .ld (.slice) (.tmp 44), none⟩,
  ⟨(some 46), .mkAgg #[(.slice none 0 0), (.slice none 0 0), (.slice none 0 0)] [(0, 1, (.tmp 41)), (1, 1, (.tmp 43)), (2, 1, (.tmp 45))], none⟩,
  ⟨(some 8), .alloc 175 (.agg #[(.slice none 0 0), (.slice none 0 0), (.slice none 0 0)]), none⟩,
  ⟨none, .st 3 (.tmp 8) (.tmp 46), none⟩]) (.seq (.seq (.region .txt [⟨(some 9), .mv (.const (.int .i64 0)), none⟩]) (.block 2 (.loop [(9, .int .i64)] [47, 48, 52, 53, 54, 55, 56, 57, 51, 58, 59, 10, 11, 60, 61, 62, 63, 4, 5, 49, 50, 9] (.seq (.seq (.region .txt [⟨(some 47), .mv (.tmp 9), none⟩,
  ⟨(some 48), .icmp .lss .i64 (.tmp 47) (.const (.int .i64 3)), none⟩]) (.cond (.tmp 48) .skip (.exit 2))) (.seq (.block 3 (.seq (.region .txt [⟨(some 52), .ldn [.int .i64, .slice, .slice, .slice, .slice, .slice, .slice, .slice, .slice, .slice, .slice] (.tmp 2), none⟩,
  ⟨(some 53), .mv (.tmp 1), none⟩,
  ⟨(some 54), .mv (.tmp 9), none⟩,
  ⟨(some 55), .idxArr 3 1 (.tmp 8) (.tmp 54), none⟩,
  ⟨(some 56), .ld (.slice) (.tmp 55), none⟩,
  ⟨(some 57), .call 126 [(.tmp 52), (.tmp 53), (.tmp 56)] (.tup [.one (.int .i64), .one (.int .i64)]), none⟩,
  ⟨(some 51), .mv (.tmp 57), none⟩,
  ⟨(some 58), .extr (.tmp 51) 0, none⟩,
  ⟨(some 59), .extr (.tmp 51) 1, none⟩,
  ⟨(some 10), .mv (.tmp 58), none⟩,
  ⟨(some 11), .mv (.tmp 59), none⟩]) (.seq (.region .txt [⟨(some 60), .mv (.tmp 11), none⟩,
  ⟨(some 61), .icmp .neq .i64 (.tmp 60) (.const (.int .i64 0)), none⟩]) (.cond (.tmp 61) (.seq (.region .txt [⟨(some 62), .mv (.tmp 10), none⟩,
  ⟨(some 63), .mv (.tmp 11), none⟩,
  ⟨(some 4), .mv (.tmp 62), none⟩,
  ⟨(some 5), .mv (.tmp 63), none⟩]) .ret) .skip)))) (.region .txt [⟨(some 49), .mv (.tmp 9), none⟩,
  ⟨(some 50), .arith .add .i64 (.tmp 49) (.const (.int .i64 1)), none⟩,
  ⟨(some 9), .mv (.tmp 50), none⟩])))))) (.seq (.seq (.region .txt [⟨(some 12), .mv (.const (.int .i64 0)), none⟩]) (.block 4 (.loop [(12, .int .i64)] [64, 65, 66, 67, 68, 72, 73, 74, 75, 76, 77, 78, 79, 71, 80, 81, 13, 14, 82, 83, 84, 85, 4, 5, 69, 70, 12] (.seq (.seq (.region .txt [⟨(some 64), .mv (.tmp 12), none⟩,
  ⟨(some 65), .fldA 6 (.tmp 2), none⟩,
  ⟨(some 66), .ld (.slice) (.tmp 65), none⟩,
  ⟨(some 67), .len (.tmp 66), none⟩,
  ⟨(some 68), .icmp .lss .i64 (.tmp 64) (.tmp 67), none⟩]) (.cond (.tmp 68) .skip (.exit 4))) (.seq (.block 5 (.seq (.region .txt [⟨(some 72), .ldn [.int .i64, .slice, .slice, .slice, .slice, .slice, .slice, .slice, .slice, .slice, .slice] (.tmp 2), none⟩,
  ⟨(some 73), .mv (.tmp 1), none⟩,
  ⟨(some 74), .fldA 6 (.tmp 2), none⟩,
  ⟨(some 75), .ld (.slice) (.tmp 74), none⟩,
  ⟨(some 76), .mv (.tmp 12), none⟩,
  ⟨(some 77), .idxA 1 (.tmp 75) (.tmp 76), none⟩,
  ⟨(some 78), .ld (.slice) (.tmp 77), none⟩,
  ⟨(some 79), .call 126 [(.tmp 72), (.tmp 73), (.tmp 78)] (.tup [.one (.int .i64), .one (.int .i64)]), none⟩,
  ⟨(some 71), .mv (.tmp 79), none⟩,
  ⟨(some 80), .extr (.tmp 71) 0, none⟩,
  ⟨(some 81), .extr (.tmp 71) 1, none⟩,
  ⟨(some 13), .mv (.tmp 80), none⟩,
  ⟨(some 14), .mv (.tmp 81), none⟩]) (.seq (.region .txt [⟨(some 82), .mv (.tmp 14), none⟩,
  ⟨(some 83), .icmp .neq .i64 (.tmp 82) (.const (.int .i64 0)), none⟩]) (.cond (.tmp 83) (.seq (.region .txt [⟨(some 84), .mv (.tmp 12), none⟩,
  ⟨(some 85), .mv (.tmp 14), none⟩,
  ⟨(some 4), .mv (.tmp 84), none⟩,
  ⟨(some 5), .mv (.tmp 85), none⟩]) .ret) .skip)))) (.region .txt [⟨(some 69), .mv (.tmp 12), none⟩,
  ⟨(some 70), .arith .add .i64 (.tmp 69) (.const (.int .i64 1)), none⟩,
  ⟨(some 12), .mv (.tmp 70), none⟩])))))) (.seq (.seq (.region .txt [⟨(some 87), .ldn [.int .i64, .slice, .slice, .slice, .slice, .slice, .slice, .slice, .slice, .slice, .slice] (.tmp 2), none⟩,
  ⟨(some 88), .mv (.tmp 1), none⟩,
  ⟨(some 89), .fldA 7 (.tmp 2), none⟩,
  ⟨(some 90), .ld (.slice) (.tmp 89), none⟩,
  ⟨(some 91), .call 126 [(.tmp 87), (.tmp 88), (.tmp 90)] (.tup [.one (.int .i64), .one (.int .i64)]), none⟩,
  ⟨(some 86), .mv (.tmp 91), none⟩,
  ⟨(some 92), .extr (.tmp 86) 0, none⟩,
  ⟨(some 93), .extr (.tmp 86) 1, none⟩,
  ⟨(some 15), .mv (.tmp 92), none⟩,
  ⟨(some 16), .mv (.tmp 93), none⟩]) (.seq (.region .txt [⟨(some 94), .mv (.tmp 16), none⟩,
  ⟨(some 95), .icmp .neq .i64 (.tmp 94) (.const (.int .i64 0)), none⟩]) (.cond (.tmp 95) (.seq (.region .txt [⟨(some 96), .mv (.tmp 15), none⟩,
  ⟨(some 97), .mv (.tmp 16), none⟩,
  ⟨(some 4), .mv (.tmp 96), none⟩,
  ⟨(some 5), .mv (.tmp 97), none⟩]) .ret) .skip))) (.seq (.seq (.region .txt [⟨(some 17), .mv (.const (.int .i64 0)), none⟩]) (.block 6 (.loop [(17, .int .i64)] [98, 99, 100, 101, 102, 106, 107, 108, 109, 110, 111, 112, 113, 114, 115, 116, 117, 118, 119, 120, 121, 105, 122, 123, 18, 19, 124, 125, 126, 127, 4, 5, 103, 104, 17] (.seq (.seq (.region .txt [⟨(some 98), .mv (.tmp 17), none⟩,
  ⟨(some 99), .fldA 8 (.tmp 2), none⟩,
  ⟨(some 100), .ld (.slice) (.tmp 99), none⟩,
  ⟨(some 101), .len (.tmp 100), none⟩,
  ⟨(some 102), .icmp .lss .i64 (.tmp 98) (.tmp 101), none⟩]) (.cond (.tmp 102) .skip (.exit 6))) (.seq (.block 7 (.seq (.region .ext [⟨(some 106), .ldn [.int .i64, .slice, .slice, .slice, .slice, .slice, .slice, .slice, .slice, .slice, .slice] (.tmp 2), none⟩,
  ⟨(some 107), .mv (.tmp 1), none⟩,
  ⟨(some 108), .fldA 8 (.tmp 2), none⟩,
  ⟨(some 109), .ld (.slice) (.tmp 108), none⟩,
  ⟨(some 110), .mv (.tmp 17), none⟩,
  ⟨(some 111), .idxA 3 (.tmp 109) (.tmp 110), none⟩,
  ⟨(some 112), .fldA 1 (.tmp 111), none⟩,
  ⟨(some 113), .ld (.int .i64) (.tmp 112), none⟩,
  ⟨(some 114), .fldA 8 (.tmp 2), none⟩,
  ⟨(some 115), .ld (.slice) (.tmp 114), none⟩,
  ⟨(some 116), .mv (.tmp 17), none⟩,
  ⟨(some 117), .idxA 3 (.tmp 115) (.tmp 116), none⟩,
  ⟨(some 118), .fldA 2 (.tmp 117), none⟩,
  ⟨(some 119), .ld (.int .i64) (.tmp 118), none⟩,
  ⟨(some 120), .lit 3 2 #[(.int .i64 0)] [(0, 1, (.tmp 113)), (1, 1, (.tmp 119))], none⟩,
  ⟨(some 121), .call 126 [(.tmp 106), (.tmp 107), (.tmp 120)] (.tup [.one (.int .i64), .one (.int .i64)]), none⟩,
  ⟨(some 105), .mv (.tmp 121), none⟩,
  ⟨(some 122), .extr (.tmp 105) 0, none⟩,
  ⟨(some 123), .extr (.tmp 105) 1, none⟩,
  ⟨(some 18), .mv (.tmp 122), none⟩,
  ⟨(some 19), .mv (.tmp 123), none⟩]) (.seq (.region .txt [⟨(some 124), .mv (.tmp 19), none⟩,
  ⟨(some 125), .icmp .neq .i64 (.tmp 124) (.const (.int .i64 0)), none⟩]) (.cond (.tmp 125) (.seq (.region .txt [⟨(some 126), .mv (.tmp 17), none⟩,
  ⟨(some 127), .mv (.tmp 19), none⟩,
  ⟨(some 4), .mv (.tmp 126), none⟩,
  ⟨(some 5), .mv (.tmp 127), none⟩]) .ret) .skip)))) (.region .txt [⟨(some 103), .mv (.tmp 17), none⟩,
  ⟨(some 104), .arith .add .i64 (.tmp 103) (.const (.int .i64 1)), none⟩,
  ⟨(some 17), .mv (.tmp 104), none⟩])))))) (.seq (.region .txt [⟨(some 4), .mv (.const (.int .i64 0)), none⟩,
  ⟨(some 5), .mv (.const (.int .i64 0)), none⟩]) .ret))))))))
def loops90 : List (List (Nat × Shp)) := [[(6, .int .i64)], [(9, .int .i64)], [(12, .int .i64)], [(17, .int .i64)]]
def ret90 : List RV := [.tmp 4, .tmp 5]
theorem comp90 : compF Try.prog Try.f90 loops90 = some (128, ret90, code90) := by kernel_rfl
def J90_1  (P : Program) (R : Value → Heap → Prop) (h : Heap) (definedA : (Option Addr)) (definedN : Nat) (definedC : Nat) (i : Int) (next_ : (Int → Heap → Prop)) (h_2 : Heap) : Prop :=
 ∃ (t : Int), ∃ (A1 : Option Addr), ∃ (N1 : Nat), ∃ (C1 : Nat), ∃ (A2 : Option Addr), ∃ (N2 : Nat), ∃ (C2 : Nat), ∃ (A3 : Option Addr), ∃ (N3 : Nat), ∃ (C3 : Nat), ∃ (A4 : Option Addr), ∃ (N4 : Nat), ∃ (C4 : Nat), ∃ (A5 : Option Addr), ∃ (N5 : Nat), ∃ (C5 : Nat), ∃ (A6 : Option Addr), ∃ (N6 : Nat), ∃ (C6 : Nat), ∃ (A7 : Option Addr), ∃ (N7 : Nat), ∃ (C7 : Nat), ∃ (A8 : Option Addr), ∃ (N8 : Nat), ∃ (C8 : Nat), ∃ (A9 : Option Addr), ∃ (N9 : Nat), ∃ (C9 : Nat), ∃ (A10 : Option Addr), ∃ (N10 : Nat), ∃ (C10 : Nat), cellsH h_2 (Addr.mk (h).size 0 none) 0 [(.int .i64 t), (.slice A1 N1 C1), (.slice A2 N2 C2), (.slice A3 N3 C3), (.slice A4 N4 C4), (.slice A5 N5 C5), (.slice A6 N6 C6), (.slice A7 N7 C7), (.slice A8 N8 C8), (.slice A9 N9 C9), (.slice A10 N10 C10)] ∧ ∃ (A11 : Option Addr), ∃ (N11 : Nat), ∃ (C11 : Nat), cellH h_2 (Addr.add (Addr.mk (h).size 0 none) 2) = some (.slice A11 N11 C11) ∧ 0 ≤ (i : Int) ∧ (i : Int) < (N11 : Nat) ∧ AtP A11 fun ad => ∃ (t1 : Int), cellH h_2 (Addr.add (Addr.add ad (Int.toNat i * 3)) 1) = some (.int .i64 t1) ∧ CallsH P 125 #[(.agg #[(.int .i64 t), (.slice A1 N1 C1), (.slice A2 N2 C2), (.slice A3 N3 C3), (.slice A4 N4 C4), (.slice A5 N5 C5), (.slice A6 N6 C6), (.slice A7 N7 C7), (.slice A8 N8 C8), (.slice A9 N9 C9), (.slice A10 N10 C10)]), (.slice definedA definedN definedC), (.int .i64 t1)] h_2 fun v h_3 =>
 ∃ (t2 : Int), v = (.int .i64 t2) ∧ PIf ((t2 : Int) = 0)
 (next_ ((IntKind.wrap .i64 (i + 1))) h_3)
 (R (.tuple #[(.int .i64 i), (.int .i64 t2)]) h_3)
def J90_3  (P : Program) (R : Value → Heap → Prop) (h : Heap) (definedA : (Option Addr)) (definedN : Nat) (definedC : Nat) (h_4 : Heap) (k : Int) (next_1 : (Int → Heap → Prop)) (h_8 : Heap) : Prop :=
 ∃ (t3 : Int), ∃ (A15 : Option Addr), ∃ (N15 : Nat), ∃ (C15 : Nat), ∃ (A16 : Option Addr), ∃ (N16 : Nat), ∃ (C16 : Nat), ∃ (A17 : Option Addr), ∃ (N17 : Nat), ∃ (C17 : Nat), ∃ (A18 : Option Addr), ∃ (N18 : Nat), ∃ (C18 : Nat), ∃ (A19 : Option Addr), ∃ (N19 : Nat), ∃ (C19 : Nat), ∃ (A20 : Option Addr), ∃ (N20 : Nat), ∃ (C20 : Nat), ∃ (A21 : Option Addr), ∃ (N21 : Nat), ∃ (C21 : Nat), ∃ (A22 : Option Addr), ∃ (N22 : Nat), ∃ (C22 : Nat), ∃ (A23 : Option Addr), ∃ (N23 : Nat), ∃ (C23 : Nat), ∃ (A24 : Option Addr), ∃ (N24 : Nat), ∃ (C24 : Nat), cellsH h_8 (Addr.mk (h).size 0 none) 0 [(.int .i64 t3), (.slice A15 N15 C15), (.slice A16 N16 C16), (.slice A17 N17 C17), (.slice A18 N18 C18), (.slice A19 N19 C19), (.slice A20 N20 C20), (.slice A21 N21 C21), (.slice A22 N22 C22), (.slice A23 N23 C23), (.slice A24 N24 C24)] ∧ 0 ≤ (k : Int) ∧ (k : Int) < (3 : Nat) ∧ ∃ (A25 : Option Addr), ∃ (N25 : Nat), ∃ (C25 : Nat), cellH h_8 (Addr.add (Addr.mk (h_4).size 0 none) (Int.toNat k * 1)) = some (.slice A25 N25 C25) ∧ CallsH P 126 #[(.agg #[(.int .i64 t3), (.slice A15 N15 C15), (.slice A16 N16 C16), (.slice A17 N17 C17), (.slice A18 N18 C18), (.slice A19 N19 C19), (.slice A20 N20 C20), (.slice A21 N21 C21), (.slice A22 N22 C22), (.slice A23 N23 C23), (.slice A24 N24 C24)]), (.slice definedA definedN definedC), (.slice A25 N25 C25)] h_8 fun v1 h_9 =>
 ∃ (t4 : Int), ∃ (t5 : Int), v1 = (.tuple #[(.int .i64 t4), (.int .i64 t5)]) ∧ PIf ((t5 : Int) = 0)
 (next_1 ((IntKind.wrap .i64 (k + 1))) h_9)
 (R (.tuple #[(.int .i64 t4), (.int .i64 t5)]) h_9)
def J90_5  (P : Program) (R : Value → Heap → Prop) (h : Heap) (definedA : (Option Addr)) (definedN : Nat) (definedC : Nat) (i1 : Int) (next_2 : (Int → Heap → Prop)) (h_12 : Heap) : Prop :=
 ∃ (t6 : Int), ∃ (A27 : Option Addr), ∃ (N27 : Nat), ∃ (C27 : Nat), ∃ (A28 : Option Addr), ∃ (N28 : Nat), ∃ (C28 : Nat), ∃ (A29 : Option Addr), ∃ (N29 : Nat), ∃ (C29 : Nat), ∃ (A30 : Option Addr), ∃ (N30 : Nat), ∃ (C30 : Nat), ∃ (A31 : Option Addr), ∃ (N31 : Nat), ∃ (C31 : Nat), ∃ (A32 : Option Addr), ∃ (N32 : Nat), ∃ (C32 : Nat), ∃ (A33 : Option Addr), ∃ (N33 : Nat), ∃ (C33 : Nat), ∃ (A34 : Option Addr), ∃ (N34 : Nat), ∃ (C34 : Nat), ∃ (A35 : Option Addr), ∃ (N35 : Nat), ∃ (C35 : Nat), ∃ (A36 : Option Addr), ∃ (N36 : Nat), ∃ (C36 : Nat), cellsH h_12 (Addr.mk (h).size 0 none) 0 [(.int .i64 t6), (.slice A27 N27 C27), (.slice A28 N28 C28), (.slice A29 N29 C29), (.slice A30 N30 C30), (.slice A31 N31 C31), (.slice A32 N32 C32), (.slice A33 N33 C33), (.slice A34 N34 C34), (.slice A35 N35 C35), (.slice A36 N36 C36)] ∧ ∃ (A37 : Option Addr), ∃ (N37 : Nat), ∃ (C37 : Nat), cellH h_12 (Addr.add (Addr.mk (h).size 0 none) 6) = some (.slice A37 N37 C37) ∧ 0 ≤ (i1 : Int) ∧ (i1 : Int) < (N37 : Nat) ∧ AtP A37 fun ad1 => ∃ (A38 : Option Addr), ∃ (N38 : Nat), ∃ (C38 : Nat), cellH h_12 (Addr.add ad1 (Int.toNat i1 * 1)) = some (.slice A38 N38 C38) ∧ CallsH P 126 #[(.agg #[(.int .i64 t6), (.slice A27 N27 C27), (.slice A28 N28 C28), (.slice A29 N29 C29), (.slice A30 N30 C30), (.slice A31 N31 C31), (.slice A32 N32 C32), (.slice A33 N33 C33), (.slice A34 N34 C34), (.slice A35 N35 C35), (.slice A36 N36 C36)]), (.slice definedA definedN definedC), (.slice A38 N38 C38)] h_12 fun v2 h_13 =>
 ∃ (t7 : Int), ∃ (t8 : Int), v2 = (.tuple #[(.int .i64 t7), (.int .i64 t8)]) ∧ PIf ((t8 : Int) = 0)
 (next_2 ((IntKind.wrap .i64 (i1 + 1))) h_13)
 (R (.tuple #[(.int .i64 i1), (.int .i64 t8)]) h_13)
def J90_8  (P : Program) (R : Value → Heap → Prop) (h : Heap) (definedA : (Option Addr)) (definedN : Nat) (definedC : Nat) (i2 : Int) (next_3 : (Int → Heap → Prop)) (h_18 : Heap) : Prop :=
 (Addr.block (Addr.mk (h).size 0 none)) < (h_18).size ∧ ∃ (t12 : Int), ∃ (A51 : Option Addr), ∃ (N51 : Nat), ∃ (C51 : Nat), ∃ (A52 : Option Addr), ∃ (N52 : Nat), ∃ (C52 : Nat), ∃ (A53 : Option Addr), ∃ (N53 : Nat), ∃ (C53 : Nat), ∃ (A54 : Option Addr), ∃ (N54 : Nat), ∃ (C54 : Nat), ∃ (A55 : Option Addr), ∃ (N55 : Nat), ∃ (C55 : Nat), ∃ (A56 : Option Addr), ∃ (N56 : Nat), ∃ (C56 : Nat), ∃ (A57 : Option Addr), ∃ (N57 : Nat), ∃ (C57 : Nat), ∃ (A58 : Option Addr), ∃ (N58 : Nat), ∃ (C58 : Nat), ∃ (A59 : Option Addr), ∃ (N59 : Nat), ∃ (C59 : Nat), ∃ (A60 : Option Addr), ∃ (N60 : Nat), ∃ (C60 : Nat), cellsH h_18 (Addr.mk (h).size 0 none) 0 [(.int .i64 t12), (.slice A51 N51 C51), (.slice A52 N52 C52), (.slice A53 N53 C53), (.slice A54 N54 C54), (.slice A55 N55 C55), (.slice A56 N56 C56), (.slice A57 N57 C57), (.slice A58 N58 C58), (.slice A59 N59 C59), (.slice A60 N60 C60)] ∧ (Addr.block (Addr.add (Addr.mk (h).size 0 none) 8)) < (h_18).size ∧ ∃ (A61 : Option Addr), ∃ (N61 : Nat), ∃ (C61 : Nat), cellH h_18 (Addr.add (Addr.mk (h).size 0 none) 8) = some (.slice A61 N61 C61) ∧ 0 ≤ (i2 : Int) ∧ (i2 : Int) < (N61 : Nat) ∧ AtP A61 fun ad2 => (Addr.block (Addr.add (Addr.add ad2 (Int.toNat i2 * 3)) 1)) < (h_18).size ∧ ∃ (t13 : Int), cellH h_18 (Addr.add (Addr.add ad2 (Int.toNat i2 * 3)) 1) = some (.int .i64 t13) ∧ (Addr.block (Addr.add (Addr.mk (h).size 0 none) 8)) < (h_18).size ∧ ∃ (A62 : Option Addr), ∃ (N62 : Nat), ∃ (C62 : Nat), cellH h_18 (Addr.add (Addr.mk (h).size 0 none) 8) = some (.slice A62 N62 C62) ∧ 0 ≤ (i2 : Int) ∧ (i2 : Int) < (N62 : Nat) ∧ AtP A62 fun ad3 => (Addr.block (Addr.add (Addr.add ad3 (Int.toNat i2 * 3)) 2)) < (h_18).size ∧ ∃ (t14 : Int), cellH h_18 (Addr.add (Addr.add ad3 (Int.toNat i2 * 3)) 2) = some (.int .i64 t14) ∧ let h_19 : Heap := (h_18).push (.cells #[(.int .i64 t13), (.int .i64 t14)] 3); AgreeH (h_18).size h_18 h_19 ∧ CallsH P 126 #[(.agg #[(.int .i64 t12), (.slice A51 N51 C51), (.slice A52 N52 C52), (.slice A53 N53 C53), (.slice A54 N54 C54), (.slice A55 N55 C55), (.slice A56 N56 C56), (.slice A57 N57 C57), (.slice A58 N58 C58), (.slice A59 N59 C59), (.slice A60 N60 C60)]), (.slice definedA definedN definedC), (.slice (some (Addr.mk (h_18).size 0 none)) 2 2)] h_19 fun v4 h_20 =>
 ∃ (t15 : Int), ∃ (t16 : Int), v4 = (.tuple #[(.int .i64 t15), (.int .i64 t16)]) ∧ AgreeH (h_18).size h_19 h_20 ∧ PIf ((t16 : Int) = 0)
 (next_3 ((IntKind.wrap .i64 (i2 + 1))) h_20)
 (R (.tuple #[(.int .i64 i2), (.int .i64 t16)]) h_20)
def J90_7  (R : Value → Heap → Prop) (h_21 : Heap) : Prop :=
 R (.tuple #[(.int .i64 0), (.int .i64 0)]) h_21
def B90_9 (P : Program) (R : Value → Heap → Prop) (h : Heap) (definedA : (Option Addr)) (definedN : Nat) (definedC : Nat) (i2 : Int) (h_17 : Heap) (next_3 : Int → Heap → Prop) : Prop :=
 ∃ (A50 : Option Addr), ∃ (N50 : Nat), ∃ (C50 : Nat), cellH h_17 (Addr.add (Addr.mk (h).size 0 none) 8) = some (.slice A50 N50 C50) ∧ PIf ((i2 : Int) < ((N50 : Nat) : Int))
 (J90_8 P R h definedA definedN definedC i2 next_3 h_17)
 (J90_7 R h_17)
def J90_6  (P : Program) (R : Value → Heap → Prop) (h : Heap) (definedA : (Option Addr)) (definedN : Nat) (definedC : Nat) (h_16 : Heap) : Prop :=
 LoopT (σ := Int) (fun st_ h_st nx_st => B90_9 P R h definedA definedN definedC (st_) h_st nx_st) (0) h_16
def J90_4  (P : Program) (R : Value → Heap → Prop) (h : Heap) (definedA : (Option Addr)) (definedN : Nat) (definedC : Nat) (h_14 : Heap) : Prop :=
 ∃ (t9 : Int), ∃ (A39 : Option Addr), ∃ (N39 : Nat), ∃ (C39 : Nat), ∃ (A40 : Option Addr), ∃ (N40 : Nat), ∃ (C40 : Nat), ∃ (A41 : Option Addr), ∃ (N41 : Nat), ∃ (C41 : Nat), ∃ (A42 : Option Addr), ∃ (N42 : Nat), ∃ (C42 : Nat), ∃ (A43 : Option Addr), ∃ (N43 : Nat), ∃ (C43 : Nat), ∃ (A44 : Option Addr), ∃ (N44 : Nat), ∃ (C44 : Nat), ∃ (A45 : Option Addr), ∃ (N45 : Nat), ∃ (C45 : Nat), ∃ (A46 : Option Addr), ∃ (N46 : Nat), ∃ (C46 : Nat), ∃ (A47 : Option Addr), ∃ (N47 : Nat), ∃ (C47 : Nat), ∃ (A48 : Option Addr), ∃ (N48 : Nat), ∃ (C48 : Nat), cellsH h_14 (Addr.mk (h).size 0 none) 0 [(.int .i64 t9), (.slice A39 N39 C39), (.slice A40 N40 C40), (.slice A41 N41 C41), (.slice A42 N42 C42), (.slice A43 N43 C43), (.slice A44 N44 C44), (.slice A45 N45 C45), (.slice A46 N46 C46), (.slice A47 N47 C47), (.slice A48 N48 C48)] ∧ ∃ (A49 : Option Addr), ∃ (N49 : Nat), ∃ (C49 : Nat), cellH h_14 (Addr.add (Addr.mk (h).size 0 none) 7) = some (.slice A49 N49 C49) ∧ CallsH P 126 #[(.agg #[(.int .i64 t9), (.slice A39 N39 C39), (.slice A40 N40 C40), (.slice A41 N41 C41), (.slice A42 N42 C42), (.slice A43 N43 C43), (.slice A44 N44 C44), (.slice A45 N45 C45), (.slice A46 N46 C46), (.slice A47 N47 C47), (.slice A48 N48 C48)]), (.slice definedA definedN definedC), (.slice A49 N49 C49)] h_14 fun v3 h_15 =>
 ∃ (t10 : Int), ∃ (t11 : Int), v3 = (.tuple #[(.int .i64 t10), (.int .i64 t11)]) ∧ PIf ((t11 : Int) = 0)
 (J90_6 P R h definedA definedN definedC h_15)
 (R (.tuple #[(.int .i64 t10), (.int .i64 t11)]) h_15)
def B90_10 (P : Program) (R : Value → Heap → Prop) (h : Heap) (definedA : (Option Addr)) (definedN : Nat) (definedC : Nat) (i1 : Int) (h_11 : Heap) (next_2 : Int → Heap → Prop) : Prop :=
 ∃ (A26 : Option Addr), ∃ (N26 : Nat), ∃ (C26 : Nat), cellH h_11 (Addr.add (Addr.mk (h).size 0 none) 6) = some (.slice A26 N26 C26) ∧ PIf ((i1 : Int) < ((N26 : Nat) : Int))
 (J90_5 P R h definedA definedN definedC i1 next_2 h_11)
 (J90_4 P R h definedA definedN definedC h_11)
def J90_2  (P : Program) (R : Value → Heap → Prop) (h : Heap) (definedA : (Option Addr)) (definedN : Nat) (definedC : Nat) (h_10 : Heap) : Prop :=
 LoopT (σ := Int) (fun st_ h_st nx_st => B90_10 P R h definedA definedN definedC (st_) h_st nx_st) (0) h_10
def B90_11 (P : Program) (R : Value → Heap → Prop) (h : Heap) (definedA : (Option Addr)) (definedN : Nat) (definedC : Nat) (h_4 : Heap) (k : Int) (h_7 : Heap) (next_1 : Int → Heap → Prop) : Prop :=
 PIf ((k : Int) < 3)
 (J90_3 P R h definedA definedN definedC h_4 k next_1 h_7)
 (J90_2 P R h definedA definedN definedC h_7)
def J90_0  (P : Program) (R : Value → Heap → Prop) (h : Heap) (definedA : (Option Addr)) (definedN : Nat) (definedC : Nat) (h_4 : Heap) : Prop :=
 ∃ (A12 : Option Addr), ∃ (N12 : Nat), ∃ (C12 : Nat), cellH h_4 (Addr.add (Addr.mk (h).size 0 none) 3) = some (.slice A12 N12 C12) ∧ ∃ (A13 : Option Addr), ∃ (N13 : Nat), ∃ (C13 : Nat), cellH h_4 (Addr.add (Addr.mk (h).size 0 none) 4) = some (.slice A13 N13 C13) ∧ ∃ (A14 : Option Addr), ∃ (N14 : Nat), ∃ (C14 : Nat), cellH h_4 (Addr.add (Addr.mk (h).size 0 none) 5) = some (.slice A14 N14 C14) ∧ let h_5 : Heap := (h_4).push (.cells #[(.slice none 0 0), (.slice none 0 0), (.slice none 0 0)] 175); StoreH h_5 (Addr.mk (h_4).size 0 none) [(.slice A12 N12 C12), (.slice A13 N13 C13), (.slice A14 N14 C14)] fun h_6 => LoopT (σ := Int) (fun st_ h_st nx_st => B90_11 P R h definedA definedN definedC h_4 (st_) h_st nx_st) (0) h_6
def B90_12 (P : Program) (R : Value → Heap → Prop) (h : Heap) (definedA : (Option Addr)) (definedN : Nat) (definedC : Nat) (i : Int) (h_1 : Heap) (next_ : Int → Heap → Prop) : Prop :=
 ∃ (A : Option Addr), ∃ (N : Nat), ∃ (C : Nat), cellH h_1 (Addr.add (Addr.mk (h).size 0 none) 2) = some (.slice A N C) ∧ PIf ((i : Int) < ((N : Nat) : Int))
 (J90_1 P R h definedA definedN definedC i next_ h_1)
 (J90_0 P R h definedA definedN definedC h_1)
def VC90 (P : Program) (c : Int) (cA : Option Addr) (cN : Nat) (cC : Nat) (cA1 : Option Addr) (cN1 : Nat) (cC1 : Nat) (cA2 : Option Addr) (cN2 : Nat) (cC2 : Nat) (cA3 : Option Addr) (cN3 : Nat) (cC3 : Nat) (cA4 : Option Addr) (cN4 : Nat) (cC4 : Nat) (cA5 : Option Addr) (cN5 : Nat) (cC5 : Nat) (cA6 : Option Addr) (cN6 : Nat) (cC6 : Nat) (cA7 : Option Addr) (cN7 : Nat) (cC7 : Nat) (cA8 : Option Addr) (cN8 : Nat) (cC8 : Nat) (cA9 : Option Addr) (cN9 : Nat) (cC9 : Nat) (definedA : Option Addr) (definedN : Nat) (definedC : Nat) (R : Value → Heap → Prop) (h : Heap) : Prop :=
 let h_ : Heap := (h).push (.cells (Value.cells (.agg #[(.int .i64 c), (.slice cA cN cC), (.slice cA1 cN1 cC1), (.slice cA2 cN2 cC2), (.slice cA3 cN3 cC3), (.slice cA4 cN4 cC4), (.slice cA5 cN5 cC5), (.slice cA6 cN6 cC6), (.slice cA7 cN7 cC7), (.slice cA8 cN8 cC8), (.slice cA9 cN9 cC9)])) 29); LoopT (σ := Int) (fun st_ h_st nx_st => B90_12 P R h definedA definedN definedC (st_) h_st nx_st) (0) h_
theorem vc90 (P : Program) (c : Int) (cA : Option Addr) (cN : Nat) (cC : Nat) (cA1 : Option Addr) (cN1 : Nat) (cC1 : Nat) (cA2 : Option Addr) (cN2 : Nat) (cC2 : Nat) (cA3 : Option Addr) (cN3 : Nat) (cC3 : Nat) (cA4 : Option Addr) (cN4 : Nat) (cC4 : Nat) (cA5 : Option Addr) (cN5 : Nat) (cC5 : Nat) (cA6 : Option Addr) (cN6 : Nat) (cC6 : Nat) (cA7 : Option Addr) (cN7 : Nat) (cC7 : Nat) (cA8 : Option Addr) (cN8 : Nat) (cC8 : Nat) (cA9 : Option Addr) (cN9 : Nat) (cC9 : Nat) (definedA : Option Addr) (definedN : Nat) (definedC : Nat) (R : Value → Heap → Prop) (h : Heap) : fnC P ret90 code90 [(.agg #[(.int .i64 c), (.slice cA cN cC), (.slice cA1 cN1 cC1), (.slice cA2 cN2 cC2), (.slice cA3 cN3 cC3), (.slice cA4 cN4 cC4), (.slice cA5 cN5 cC5), (.slice cA6 cN6 cC6), (.slice cA7 cN7 cC7), (.slice cA8 cN8 cC8), (.slice cA9 cN9 cC9)]), (.slice definedA definedN definedC)] h R = VC90 P c cA cN cC cA1 cN1 cC1 cA2 cN2 cC2 cA3 cN3 cC3 cA4 cN4 cC4 cA5 cN5 cC5 cA6 cN6 cC6 cA7 cN7 cC7 cA8 cN8 cC8 cA9 cN9 cC9 definedA definedN definedC R h := by kernel_rfl
theorem run90 (c : Int) (cA : Option Addr) (cN : Nat) (cC : Nat) (cA1 : Option Addr) (cN1 : Nat) (cC1 : Nat) (cA2 : Option Addr) (cN2 : Nat) (cC2 : Nat) (cA3 : Option Addr) (cN3 : Nat) (cC3 : Nat) (cA4 : Option Addr) (cN4 : Nat) (cC4 : Nat) (cA5 : Option Addr) (cN5 : Nat) (cC5 : Nat) (cA6 : Option Addr) (cN6 : Nat) (cC6 : Nat) (cA7 : Option Addr) (cN7 : Nat) (cC7 : Nat) (cA8 : Option Addr) (cN8 : Nat) (cC8 : Nat) (cA9 : Option Addr) (cN9 : Nat) (cC9 : Nat) (definedA : Option Addr) (definedN : Nat) (definedC : Nat) (R : Value → Heap → Prop) (h : Heap) (hv : VC90 Try.prog c cA cN cC cA1 cN1 cC1 cA2 cN2 cC2 cA3 cN3 cC3 cA4 cN4 cC4 cA5 cN5 cC5 cA6 cN6 cC6 cA7 cN7 cC7 cA8 cN8 cC8 cA9 cN9 cC9 definedA definedN definedC R h) : CallsH Try.prog 90 #[(.agg #[(.int .i64 c), (.slice cA cN cC), (.slice cA1 cN1 cC1), (.slice cA2 cN2 cC2), (.slice cA3 cN3 cC3), (.slice cA4 cN4 cC4), (.slice cA5 cN5 cC5), (.slice cA6 cN6 cC6), (.slice cA7 cN7 cC7), (.slice cA8 cN8 cC8), (.slice cA9 cN9 cC9)]), (.slice definedA definedN definedC)] h R := calls_of_fnC (Checked.mixed Try.checked) Try.func90 comp90 (Nat.le_of_ble_eq_true rfl) (by rw [vc90]; exact hv)

/-! 91: trestle/trestleref03.told -/
def code91 : SCode := (.seq (.region .txt [⟨(some 1), .box 29 (.tmp 0), none⟩,
  ⟨(some 2), .mv (.const (.slice none 0 0)), none⟩]) (.seq (.region .txt [⟨(some 10), .ldn [.int .i64, .slice, .slice, .slice, .slice, .slice, .slice, .slice, .slice, .slice, .slice] (.tmp 1), none⟩,
  ⟨(some 11), .call 92 [(.tmp 10)] (.val (.one (.slice))), none⟩,
  ⟨(some 3), .mv (.tmp 11), none⟩]) (.seq (.region .txt [⟨(some 12), .fldA 8 (.tmp 1), none⟩,
  ⟨(some 13), .ld (.slice) (.tmp 12), none⟩,
  ⟨(some 14), .len (.tmp 13), none⟩,
  ⟨(some 15), .mkS 4 1 1 #[(.bool false)] (.tmp 14) (.tmp 14), none⟩,
  ⟨(some 4), .mv (.tmp 15), none⟩]) (.seq (.region .txt [⟨(some 5), .mv (.const (.slice none 0 0)), none⟩]) (.seq (.seq (.region .txt [⟨(some 6), .mv (.const (.bool true)), none⟩]) (.block 0 (.loop [(5, .slice), (6, .bool)] [16, 6, 7, 17, 18, 19, 20, 21, 24, 25, 26, 27, 28, 29, 30, 31, 32, 33, 34, 35, 36, 37, 38, 39, 40, 41, 42, 43, 44, 45, 46, 47, 8, 9, 48, 49, 50, 51, 52, 53, 54, 55, 56, 57, 58, 59, 60, 61, 62, 63, 64, 65, 66, 67, 68, 69, 70, 71, 72, 5, 6, 22, 23, 7] (.seq (.seq (.region .txt [⟨(some 16), .mv (.tmp 6), none⟩]) (.cond (.tmp 16) .skip (.exit 0))) (.block 1 (.seq (.region .txt [⟨(some 6), .mv (.const (.bool false)), none⟩]) (.seq (.region .txt [⟨(some 7), .mv (.const (.int .i64 0)), none⟩]) (.block 2 (.loop [(5, .slice), (6, .bool), (7, .int .i64)] [17, 18, 19, 20, 21, 24, 25, 26, 27, 28, 29, 30, 31, 32, 33, 34, 35, 36, 37, 38, 39, 40, 41, 42, 43, 44, 45, 46, 47, 8, 9, 48, 49, 50, 51, 52, 53, 54, 55, 56, 57, 58, 59, 60, 61, 62, 63, 64, 65, 66, 67, 68, 69, 70, 71, 72, 5, 6, 22, 23, 7] (.seq (.seq (.region .txt [⟨(some 17), .mv (.tmp 7), none⟩,
  ⟨(some 18), .fldA 8 (.tmp 1), none⟩,
  ⟨(some 19), .ld (.slice) (.tmp 18), none⟩,
  ⟨(some 20), .len (.tmp 19), none⟩,
  ⟨(some 21), .icmp .lss .i64 (.tmp 17) (.tmp 20), none⟩]) (.cond (.tmp 21) .skip (.exit 2))) (.seq (.block 3 (.seq (.seq (.region .txt [⟨(some 24), .mv (.tmp 4), none⟩,
  ⟨(some 25), .mv (.tmp 7), none⟩,
  ⟨(some 26), .idxA 1 (.tmp 24) (.tmp 25), none⟩,
  ⟨(some 27), .ld (.bool) (.tmp 26), none⟩]) (.cond (.tmp 27) (.exit 3) .skip)) (.seq (.region .txt [⟨(some 28), .mv (.tmp 3), none⟩,
  ⟨(some 29), .fldA 8 (.tmp 1), none⟩,
  ⟨(some 30), .ld (.slice) (.tmp 29), none⟩,
  ⟨(some 31), .mv (.tmp 7), none⟩,
  ⟨(some 32), .idxA 3 (.tmp 30) (.tmp 31), none⟩,
  ⟨(some 33), .fldA 1 (.tmp 32), none⟩,
  ⟨(some 34), .ld (.int .i64) (.tmp 33), none⟩,
  ⟨(some 35), .divc .quo .i64 (.tmp 34) 2, none⟩,
  ⟨(some 36), .idxA 1 (.tmp 28) (.tmp 35), none⟩,
  ⟨(some 37), .ld (.int .i64) (.tmp 36), none⟩,
  ⟨(some 38), .mv (.tmp 3), none⟩,
  ⟨(some 39), .fldA 8 (.tmp 1), none⟩,
  ⟨(some 40), .ld (.slice) (.tmp 39), none⟩,
  ⟨(some 41), .mv (.tmp 7), none⟩,
  ⟨(some 42), .idxA 3 (.tmp 40) (.tmp 41), none⟩,
  ⟨(some 43), .fldA 2 (.tmp 42), none⟩,
  ⟨(some 44), .ld (.int .i64) (.tmp 43), none⟩,
  ⟨(some 45), .divc .quo .i64 (.tmp 44) 2, none⟩,
  ⟨(some 46), .idxA 1 (.tmp 38) (.tmp 45), none⟩,
  ⟨(some 47), .ld (.int .i64) (.tmp 46), none⟩,
  ⟨(some 8), .mv (.tmp 37), none⟩,
  ⟨(some 9), .mv (.tmp 47), none⟩]) (.seq (.region .txt [⟨(some 48), .mv (.tmp 8), none⟩,
  ⟨(some 49), .icmp .lss .i64 (.tmp 48) (.const (.int .i64 0)), none⟩,
  ⟨(some 50), .mv (.tmp 49), none⟩,
  ⟨(some 51), .mv (.tmp 4), (some (50, false))⟩,
  ⟨(some 52), .mv (.tmp 8), (some (50, false))⟩,
  ⟨(some 53), .idxA 1 (.tmp 51) (.tmp 52), (some (50, false))⟩,
  ⟨(some 54), .ld (.bool) (.tmp 53), (some (50, false))⟩,
  ⟨(some 55), .pick (.tmp 50) (.const (.bool true)) (.tmp 54), none⟩,
  ⟨(some 56), .mv (.tmp 55), none⟩,
  ⟨(some 57), .mv (.tmp 9), (some (56, true))⟩,
  ⟨(some 58), .icmp .lss .i64 (.tmp 57) (.const (.int .i64 0)), (some (56, true))⟩,
  ⟨(some 59), .mv (.tmp 58), (some (56, true))⟩,
  ⟨(some 60), .mv (.tmp 4), (some (59, false))⟩,
  ⟨(some 61), .mv (.tmp 9), (some (59, false))⟩,
  ⟨(some 62), .idxA 1 (.tmp 60) (.tmp 61), (some (59, false))⟩,
  ⟨(some 63), .ld (.bool) (.tmp 62), (some (59, false))⟩,
  ⟨(some 64), .pick (.tmp 59) (.const (.bool true)) (.tmp 63), (some (56, true))⟩,
  ⟨(some 65), .pick (.tmp 56) (.tmp 64) (.const (.bool false)), none⟩]) (.cond (.tmp 65) (.seq (.region .txt [⟨(some 66), .mv (.tmp 4), none⟩,
  ⟨(some 67), .mv (.tmp 7), none⟩,
  ⟨(some 68), .idxA 1 (.tmp 66) (.tmp 67), none⟩,
  ⟨none, .st 1 (.tmp 68) (.const (.bool true)), none⟩]) (.seq (.region .txt [⟨(some 69), .mv (.tmp 5), none⟩,
  ⟨(some 70), .mv (.tmp 7), none⟩,
  ⟨(some 71), .lit 3 1 #[(.int .i64 0)] [(0, 1, (.tmp 70))], none⟩,
  ⟨(some 72), .app 3 8 1 #[(.int .i64 0)] (.tmp 69) (.tmp 71), none⟩,
  ⟨(some 5), .mv (.tmp 72), none⟩]) (.seq (.region .txt [⟨(some 6), .mv (.const (.bool true)), none⟩]) (.exit 2)))) .skip))))) (.region .txt [⟨(some 22), .mv (.tmp 7), none⟩,
  ⟨(some 23), .arith .add .i64 (.tmp 22) (.const (.int .i64 1)), none⟩,
  ⟨(some 7), .mv (.tmp 23), none⟩])))))))))))) (.seq (.region .txt [⟨(some 73), .mv (.tmp 5), none⟩,
  ⟨(some 2), .mv (.tmp 73), none⟩]) .ret))))))
def loops91 : List (List (Nat × Shp)) := [[(5, .slice), (6, .bool)], [(5, .slice), (6, .bool), (7, .int .i64)]]
def ret91 : List RV := [.tmp 2]
theorem comp91 : compF Try.prog Try.f91 loops91 = some (74, ret91, code91) := by kernel_rfl
def J91_3  (h : Heap) (A10 : (Option Addr)) (N10 : Nat) (h_1 : Heap) (N11 : Nat) (next_ : ((Option Addr × Nat × Nat) × Bool → Heap → Prop)) (outA1 : (Option Addr)) (outN1 : Nat) (outC1 : Nat) (again1 : Bool) (i : Int) (next_1 : ((Option Addr × Nat × Nat) × Bool × Int → Heap → Prop)) (h_7 : Heap) : Prop :=
 ∃ (A13 : Option Addr), ∃ (N13 : Nat), ∃ (C13 : Nat), cellH h_7 (Addr.add (Addr.mk (h).size 0 none) 8) = some (.slice A13 N13 C13) ∧ 0 ≤ (i : Int) ∧ (i : Int) < (N13 : Nat) ∧ AtP A13 fun ad => ∃ (t2 : Int), cellH h_7 (Addr.add (Addr.add ad (Int.toNat i * 3)) 1) = some (.int .i64 t2) ∧ 0 ≤ ((IntKind.wrap .i64 (Int.tdiv t2 2)) : Int) ∧ ((IntKind.wrap .i64 (Int.tdiv t2 2)) : Int) < (N10 : Nat) ∧ AtP A10 fun ad1 => ∃ (t3 : Int), cellH h_7 (Addr.add ad1 (Int.toNat (IntKind.wrap .i64 (Int.tdiv t2 2)) * 1)) = some (.int .i64 t3) ∧ ∃ (A14 : Option Addr), ∃ (N14 : Nat), ∃ (C14 : Nat), cellH h_7 (Addr.add (Addr.mk (h).size 0 none) 8) = some (.slice A14 N14 C14) ∧ 0 ≤ (i : Int) ∧ (i : Int) < (N14 : Nat) ∧ AtP A14 fun ad2 => ∃ (t4 : Int), cellH h_7 (Addr.add (Addr.add ad2 (Int.toNat i * 3)) 2) = some (.int .i64 t4) ∧ 0 ≤ ((IntKind.wrap .i64 (Int.tdiv t4 2)) : Int) ∧ ((IntKind.wrap .i64 (Int.tdiv t4 2)) : Int) < (N10 : Nat) ∧ AtP A10 fun ad3 => ∃ (t5 : Int), cellH h_7 (Addr.add ad3 (Int.toNat (IntKind.wrap .i64 (Int.tdiv t4 2)) * 1)) = some (.int .i64 t5) ∧ PIf ((t3 : Int) < 0)
 (PIf ((t5 : Int) < 0)
 (0 ≤ (i : Int) ∧ (i : Int) < ((Int.toNat ((N11 : Nat) : Int)) : Nat) ∧ StoreH h_7 (Addr.add (Addr.mk (h_1).size 0 none) (Int.toNat i * 1)) [(.bool true)] fun h_8 => let h_9 : Heap := (h_8).push (.cells #[(.int .i64 i)] 3); ∃ ys : List Value, ReadL h_9 (some (Addr.mk (h_8).size 0 none)) ys ∧ ys.length = 1 * 1 ∧ AppS h_9 outA1 outN1 outC1 3 8 1 #[(.int .i64 0)] ys 1 fun apA apN apC h_10 => next_ ((apA, apN, apC), true) h_10)
 (0 ≤ (t5 : Int) ∧ (t5 : Int) < ((Int.toNat ((N11 : Nat) : Int)) : Nat) ∧ ∃ (t6 : Bool), cellH h_7 (Addr.add (Addr.mk (h_1).size 0 none) (Int.toNat t5 * 1)) = some (.bool t6) ∧ BIf t6 (0 ≤ (i : Int) ∧ (i : Int) < ((Int.toNat ((N11 : Nat) : Int)) : Nat) ∧ StoreH h_7 (Addr.add (Addr.mk (h_1).size 0 none) (Int.toNat i * 1)) [(.bool true)] fun h_11 => let h_12 : Heap := (h_11).push (.cells #[(.int .i64 i)] 3); ∃ ys1 : List Value, ReadL h_12 (some (Addr.mk (h_11).size 0 none)) ys1 ∧ ys1.length = 1 * 1 ∧ AppS h_12 outA1 outN1 outC1 3 8 1 #[(.int .i64 0)] ys1 1 fun apA1 apN1 apC1 h_13 => next_ ((apA1, apN1, apC1), true) h_13) (next_1 ((outA1, outN1, outC1), again1, (IntKind.wrap .i64 (i + 1))) h_7)))
 (0 ≤ (t3 : Int) ∧ (t3 : Int) < ((Int.toNat ((N11 : Nat) : Int)) : Nat) ∧ ∃ (t7 : Bool), cellH h_7 (Addr.add (Addr.mk (h_1).size 0 none) (Int.toNat t3 * 1)) = some (.bool t7) ∧ BIf t7 (PIf ((t5 : Int) < 0)
 (0 ≤ (i : Int) ∧ (i : Int) < ((Int.toNat ((N11 : Nat) : Int)) : Nat) ∧ StoreH h_7 (Addr.add (Addr.mk (h_1).size 0 none) (Int.toNat i * 1)) [(.bool true)] fun h_14 => let h_15 : Heap := (h_14).push (.cells #[(.int .i64 i)] 3); ∃ ys2 : List Value, ReadL h_15 (some (Addr.mk (h_14).size 0 none)) ys2 ∧ ys2.length = 1 * 1 ∧ AppS h_15 outA1 outN1 outC1 3 8 1 #[(.int .i64 0)] ys2 1 fun apA2 apN2 apC2 h_16 => next_ ((apA2, apN2, apC2), true) h_16)
 (0 ≤ (t5 : Int) ∧ (t5 : Int) < ((Int.toNat ((N11 : Nat) : Int)) : Nat) ∧ ∃ (t8 : Bool), cellH h_7 (Addr.add (Addr.mk (h_1).size 0 none) (Int.toNat t5 * 1)) = some (.bool t8) ∧ BIf t8 (0 ≤ (i : Int) ∧ (i : Int) < ((Int.toNat ((N11 : Nat) : Int)) : Nat) ∧ StoreH h_7 (Addr.add (Addr.mk (h_1).size 0 none) (Int.toNat i * 1)) [(.bool true)] fun h_17 => let h_18 : Heap := (h_17).push (.cells #[(.int .i64 i)] 3); ∃ ys3 : List Value, ReadL h_18 (some (Addr.mk (h_17).size 0 none)) ys3 ∧ ys3.length = 1 * 1 ∧ AppS h_18 outA1 outN1 outC1 3 8 1 #[(.int .i64 0)] ys3 1 fun apA3 apN3 apC3 h_19 => next_ ((apA3, apN3, apC3), true) h_19) (next_1 ((outA1, outN1, outC1), again1, (IntKind.wrap .i64 (i + 1))) h_7))) (next_1 ((outA1, outN1, outC1), again1, (IntKind.wrap .i64 (i + 1))) h_7))
def J91_2  (h : Heap) (A10 : (Option Addr)) (N10 : Nat) (h_1 : Heap) (N11 : Nat) (next_ : ((Option Addr × Nat × Nat) × Bool → Heap → Prop)) (outA1 : (Option Addr)) (outN1 : Nat) (outC1 : Nat) (again1 : Bool) (i : Int) (next_1 : ((Option Addr × Nat × Nat) × Bool × Int → Heap → Prop)) (h_6 : Heap) : Prop :=
 0 ≤ (i : Int) ∧ (i : Int) < ((Int.toNat ((N11 : Nat) : Int)) : Nat) ∧ ∃ (t1 : Bool), cellH h_6 (Addr.add (Addr.mk (h_1).size 0 none) (Int.toNat i * 1)) = some (.bool t1) ∧ BIf t1 (next_1 ((outA1, outN1, outC1), again1, (IntKind.wrap .i64 (i + 1))) h_6) (J91_3 h A10 N10 h_1 N11 next_ outA1 outN1 outC1 again1 i next_1 h_6)
def B91_4 (h : Heap) (A10 : (Option Addr)) (N10 : Nat) (h_1 : Heap) (N11 : Nat) (next_ : ((Option Addr × Nat × Nat) × Bool → Heap → Prop)) (outA1 : Option Addr) (outN1 : Nat) (outC1 : Nat) (again1 : Bool) (i : Int) (h_5 : Heap) (next_1 : (Option Addr × Nat × Nat) × Bool × Int → Heap → Prop) : Prop :=
 ∃ (A12 : Option Addr), ∃ (N12 : Nat), ∃ (C12 : Nat), cellH h_5 (Addr.add (Addr.mk (h).size 0 none) 8) = some (.slice A12 N12 C12) ∧ PIf ((i : Int) < ((N12 : Nat) : Int))
 (J91_2 h A10 N10 h_1 N11 next_ outA1 outN1 outC1 again1 i next_1 h_5)
 (next_ ((outA1, outN1, outC1), again1) h_5)
def J91_1  (h : Heap) (A10 : (Option Addr)) (N10 : Nat) (h_1 : Heap) (N11 : Nat) (outA : (Option Addr)) (outN : Nat) (outC : Nat) (next_ : ((Option Addr × Nat × Nat) × Bool → Heap → Prop)) (h_4 : Heap) : Prop :=
 LoopT (σ := (Option Addr × Nat × Nat) × Bool × Int) (fun st_ h_st nx_st => B91_4 h A10 N10 h_1 N11 next_ (st_.1.1) (st_.1.2.1) (st_.1.2.2) (st_.2.1) (st_.2.2) h_st nx_st) ((outA, outN, outC), false, 0) h_4
def J91_0  (R : Value → Heap → Prop) (outA2 : Option Addr) (outN2 : Nat) (outC2 : Nat) (h_20 : Heap) : Prop :=
 R (.slice outA2 outN2 outC2) h_20
def B91_5 (R : Value → Heap → Prop) (h : Heap) (A10 : (Option Addr)) (N10 : Nat) (h_1 : Heap) (N11 : Nat) (outA : Option Addr) (outN : Nat) (outC : Nat) (again : Bool) (h_3 : Heap) (next_ : (Option Addr × Nat × Nat) × Bool → Heap → Prop) : Prop :=
 BIf again (J91_1 h A10 N10 h_1 N11 outA outN outC next_ h_3) (J91_0 R (outA) (outN) (outC) h_3)
def VC91 (P : Program) (c : Int) (cA : Option Addr) (cN : Nat) (cC : Nat) (cA1 : Option Addr) (cN1 : Nat) (cC1 : Nat) (cA2 : Option Addr) (cN2 : Nat) (cC2 : Nat) (cA3 : Option Addr) (cN3 : Nat) (cC3 : Nat) (cA4 : Option Addr) (cN4 : Nat) (cC4 : Nat) (cA5 : Option Addr) (cN5 : Nat) (cC5 : Nat) (cA6 : Option Addr) (cN6 : Nat) (cC6 : Nat) (cA7 : Option Addr) (cN7 : Nat) (cC7 : Nat) (cA8 : Option Addr) (cN8 : Nat) (cC8 : Nat) (cA9 : Option Addr) (cN9 : Nat) (cC9 : Nat) (R : Value → Heap → Prop) (h : Heap) : Prop :=
 let h_ : Heap := (h).push (.cells (Value.cells (.agg #[(.int .i64 c), (.slice cA cN cC), (.slice cA1 cN1 cC1), (.slice cA2 cN2 cC2), (.slice cA3 cN3 cC3), (.slice cA4 cN4 cC4), (.slice cA5 cN5 cC5), (.slice cA6 cN6 cC6), (.slice cA7 cN7 cC7), (.slice cA8 cN8 cC8), (.slice cA9 cN9 cC9)])) 29); ∃ (t : Int), ∃ (A : Option Addr), ∃ (N : Nat), ∃ (C : Nat), ∃ (A1 : Option Addr), ∃ (N1 : Nat), ∃ (C1 : Nat), ∃ (A2 : Option Addr), ∃ (N2 : Nat), ∃ (C2 : Nat), ∃ (A3 : Option Addr), ∃ (N3 : Nat), ∃ (C3 : Nat), ∃ (A4 : Option Addr), ∃ (N4 : Nat), ∃ (C4 : Nat), ∃ (A5 : Option Addr), ∃ (N5 : Nat), ∃ (C5 : Nat), ∃ (A6 : Option Addr), ∃ (N6 : Nat), ∃ (C6 : Nat), ∃ (A7 : Option Addr), ∃ (N7 : Nat), ∃ (C7 : Nat), ∃ (A8 : Option Addr), ∃ (N8 : Nat), ∃ (C8 : Nat), ∃ (A9 : Option Addr), ∃ (N9 : Nat), ∃ (C9 : Nat), cellsH h_ (Addr.mk (h).size 0 none) 0 [(.int .i64 t), (.slice A N C), (.slice A1 N1 C1), (.slice A2 N2 C2), (.slice A3 N3 C3), (.slice A4 N4 C4), (.slice A5 N5 C5), (.slice A6 N6 C6), (.slice A7 N7 C7), (.slice A8 N8 C8), (.slice A9 N9 C9)] ∧ CallsH P 92 #[(.agg #[(.int .i64 t), (.slice A N C), (.slice A1 N1 C1), (.slice A2 N2 C2), (.slice A3 N3 C3), (.slice A4 N4 C4), (.slice A5 N5 C5), (.slice A6 N6 C6), (.slice A7 N7 C7), (.slice A8 N8 C8), (.slice A9 N9 C9)])] h_ fun v h_1 =>
 ∃ (A10 : Option Addr), ∃ (N10 : Nat), ∃ (C10 : Nat), v = (.slice A10 N10 C10) ∧ ∃ (A11 : Option Addr), ∃ (N11 : Nat), ∃ (C11 : Nat), cellH h_1 (Addr.add (Addr.mk (h).size 0 none) 8) = some (.slice A11 N11 C11) ∧ 0 ≤ (((N11 : Nat) : Int) : Int) ∧ (((N11 : Nat) : Int) : Int) ≤ ((N11 : Nat) : Int) ∧ (1 : Int) * ((N11 : Nat) : Int) ≤ 281474976710656 ∧ let h_2 : Heap := (h_1).push (.cells (zeroRow #[(.bool false)] (Int.toNat ((N11 : Nat) : Int) * 1)).toArray 4); LoopT (σ := (Option Addr × Nat × Nat) × Bool) (fun st_ h_st nx_st => B91_5 R h A10 N10 h_1 N11 (st_.1.1) (st_.1.2.1) (st_.1.2.2) (st_.2) h_st nx_st) ((none, 0, 0), true) h_2
theorem vc91 (P : Program) (c : Int) (cA : Option Addr) (cN : Nat) (cC : Nat) (cA1 : Option Addr) (cN1 : Nat) (cC1 : Nat) (cA2 : Option Addr) (cN2 : Nat) (cC2 : Nat) (cA3 : Option Addr) (cN3 : Nat) (cC3 : Nat) (cA4 : Option Addr) (cN4 : Nat) (cC4 : Nat) (cA5 : Option Addr) (cN5 : Nat) (cC5 : Nat) (cA6 : Option Addr) (cN6 : Nat) (cC6 : Nat) (cA7 : Option Addr) (cN7 : Nat) (cC7 : Nat) (cA8 : Option Addr) (cN8 : Nat) (cC8 : Nat) (cA9 : Option Addr) (cN9 : Nat) (cC9 : Nat) (R : Value → Heap → Prop) (h : Heap) : fnC P ret91 code91 [(.agg #[(.int .i64 c), (.slice cA cN cC), (.slice cA1 cN1 cC1), (.slice cA2 cN2 cC2), (.slice cA3 cN3 cC3), (.slice cA4 cN4 cC4), (.slice cA5 cN5 cC5), (.slice cA6 cN6 cC6), (.slice cA7 cN7 cC7), (.slice cA8 cN8 cC8), (.slice cA9 cN9 cC9)])] h R = VC91 P c cA cN cC cA1 cN1 cC1 cA2 cN2 cC2 cA3 cN3 cC3 cA4 cN4 cC4 cA5 cN5 cC5 cA6 cN6 cC6 cA7 cN7 cC7 cA8 cN8 cC8 cA9 cN9 cC9 R h := by kernel_rfl
theorem run91 (c : Int) (cA : Option Addr) (cN : Nat) (cC : Nat) (cA1 : Option Addr) (cN1 : Nat) (cC1 : Nat) (cA2 : Option Addr) (cN2 : Nat) (cC2 : Nat) (cA3 : Option Addr) (cN3 : Nat) (cC3 : Nat) (cA4 : Option Addr) (cN4 : Nat) (cC4 : Nat) (cA5 : Option Addr) (cN5 : Nat) (cC5 : Nat) (cA6 : Option Addr) (cN6 : Nat) (cC6 : Nat) (cA7 : Option Addr) (cN7 : Nat) (cC7 : Nat) (cA8 : Option Addr) (cN8 : Nat) (cC8 : Nat) (cA9 : Option Addr) (cN9 : Nat) (cC9 : Nat) (R : Value → Heap → Prop) (h : Heap) (hv : VC91 Try.prog c cA cN cC cA1 cN1 cC1 cA2 cN2 cC2 cA3 cN3 cC3 cA4 cN4 cC4 cA5 cN5 cC5 cA6 cN6 cC6 cA7 cN7 cC7 cA8 cN8 cC8 cA9 cN9 cC9 R h) : CallsH Try.prog 91 #[(.agg #[(.int .i64 c), (.slice cA cN cC), (.slice cA1 cN1 cC1), (.slice cA2 cN2 cC2), (.slice cA3 cN3 cC3), (.slice cA4 cN4 cC4), (.slice cA5 cN5 cC5), (.slice cA6 cN6 cC6), (.slice cA7 cN7 cC7), (.slice cA8 cN8 cC8), (.slice cA9 cN9 cC9)])] h R := calls_of_fnC (Checked.mixed Try.checked) Try.func91 comp91 (Nat.le_of_ble_eq_true rfl) (by rw [vc91]; exact hv)

/-! 92: trestle/trestleref03.gates -/
def code92 : SCode := (.seq (.region .txt [⟨(some 1), .box 29 (.tmp 0), none⟩,
  ⟨(some 2), .mv (.const (.slice none 0 0)), none⟩]) (.seq (.region .txt [⟨(some 6), .fldA 0 (.tmp 1), none⟩,
  ⟨(some 7), .ld (.int .i64) (.tmp 6), none⟩,
  ⟨(some 8), .arith .add .i64 (.tmp 7) (.const (.int .i64 1)), none⟩,
  ⟨(some 9), .mkS 3 8 1 #[(.int .i64 0)] (.tmp 8) (.tmp 8), none⟩,
  ⟨(some 3), .mv (.tmp 9), none⟩]) (.seq (.seq (.region .txt [⟨(some 4), .mv (.const (.int .i64 0)), none⟩]) (.block 0 (.loop [(4, .int .i64)] [10, 11, 12, 13, 16, 17, 18, 14, 15, 4] (.seq (.seq (.region .txt [⟨(some 10), .mv (.tmp 4), none⟩,
  ⟨(some 11), .fldA 0 (.tmp 1), none⟩,
  ⟨(some 12), .ld (.int .i64) (.tmp 11), none⟩,
  ⟨(some 13), .icmp .leq .i64 (.tmp 10) (.tmp 12), none⟩]) (.cond (.tmp 13) .skip (.exit 0))) (.seq (.block 1 (.region .txt [⟨(some 16), .mv (.tmp 3), none⟩,
  ⟨(some 17), .mv (.tmp 4), none⟩,
  ⟨(some 18), .idxA 1 (.tmp 16) (.tmp 17), none⟩,
  ⟨none, .st 1 (.tmp 18) (.const (.int .i64 (-1))), none⟩])) (.region .txt [⟨(some 14), .mv (.tmp 4), none⟩,
  ⟨(some 15), .arith .add .i64 (.tmp 14) (.const (.int .i64 1)), none⟩,
  ⟨(some 4), .mv (.tmp 15), none⟩])))))) (.seq (.seq (.region .txt [⟨(some 5), .mv (.const (.int .i64 0)), none⟩]) (.block 2 (.loop [(5, .int .i64)] [19, 20, 21, 22, 23, 26, 27, 28, 29, 30, 31, 32, 33, 34, 35, 24, 25, 5] (.seq (.seq (.region .txt [⟨(some 19), .mv (.tmp 5), none⟩,
  ⟨(some 20), .fldA 8 (.tmp 1), none⟩,
  ⟨(some 21), .ld (.slice) (.tmp 20), none⟩,
  ⟨(some 22), .len (.tmp 21), none⟩,
  ⟨(some 23), .icmp .lss .i64 (.tmp 19) (.tmp 22), none⟩]) (.cond (.tmp 23) .skip (.exit 2))) (.seq (.block 3 (.region .txt [⟨(some 26), .mv (.tmp 3), none⟩,
  ⟨(some 27), .fldA 8 (.tmp 1), none⟩,
  ⟨(some 28), .ld (.slice) (.tmp 27), none⟩,
  ⟨(some 29), .mv (.tmp 5), none⟩,
  ⟨(some 30), .idxA 3 (.tmp 28) (.tmp 29), none⟩,
  ⟨(some 31), .fldA 0 (.tmp 30), none⟩,
  ⟨(some 32), .ld (.int .i64) (.tmp 31), none⟩,
  ⟨(some 33), .divc .quo .i64 (.tmp 32) 2, none⟩,
  ⟨(some 34), .mv (.tmp 5), none⟩,
  ⟨(some 35), .idxA 1 (.tmp 26) (.tmp 33), none⟩,
  ⟨none, .st 1 (.tmp 35) (.tmp 34), none⟩])) (.region .txt [⟨(some 24), .mv (.tmp 5), none⟩,
  ⟨(some 25), .arith .add .i64 (.tmp 24) (.const (.int .i64 1)), none⟩,
  ⟨(some 5), .mv (.tmp 25), none⟩])))))) (.seq (.region .txt [⟨(some 36), .mv (.tmp 3), none⟩,
  ⟨(some 2), .mv (.tmp 36), none⟩]) .ret)))))
def loops92 : List (List (Nat × Shp)) := [[(4, .int .i64)], [(5, .int .i64)]]
def ret92 : List RV := [.tmp 2]
theorem comp92 : compF Try.prog Try.f92 loops92 = some (37, ret92, code92) := by kernel_rfl
def J92_2  (h : Heap) (h_ : Heap) (t : Int) (i : Int) (next_1 : (Int → Heap → Prop)) (h_6 : Heap) : Prop :=
 ∃ (A1 : Option Addr), ∃ (N1 : Nat), ∃ (C1 : Nat), cellH h_6 (Addr.add (Addr.mk (h).size 0 none) 8) = some (.slice A1 N1 C1) ∧ 0 ≤ (i : Int) ∧ (i : Int) < (N1 : Nat) ∧ AtP A1 fun ad => ∃ (t2 : Int), cellH h_6 (Addr.add (Addr.add ad (Int.toNat i * 3)) 0) = some (.int .i64 t2) ∧ 0 ≤ ((IntKind.wrap .i64 (Int.tdiv t2 2)) : Int) ∧ ((IntKind.wrap .i64 (Int.tdiv t2 2)) : Int) < ((Int.toNat (IntKind.wrap .i64 (t + 1))) : Nat) ∧ StoreH h_6 (Addr.add (Addr.mk (h_).size 0 none) (Int.toNat (IntKind.wrap .i64 (Int.tdiv t2 2)) * 1)) [(.int .i64 i)] fun h_7 => next_1 ((IntKind.wrap .i64 (i + 1))) h_7
def J92_1  (R : Value → Heap → Prop) (h_ : Heap) (t : Int) (h_8 : Heap) : Prop :=
 R (.slice (some (Addr.mk (h_).size 0 none)) (Int.toNat (IntKind.wrap .i64 (t + 1))) (Int.toNat (IntKind.wrap .i64 (t + 1)))) h_8
def B92_3 (R : Value → Heap → Prop) (h : Heap) (h_ : Heap) (t : Int) (i : Int) (h_5 : Heap) (next_1 : Int → Heap → Prop) : Prop :=
 ∃ (A : Option Addr), ∃ (N : Nat), ∃ (C : Nat), cellH h_5 (Addr.add (Addr.mk (h).size 0 none) 8) = some (.slice A N C) ∧ PIf ((i : Int) < ((N : Nat) : Int))
 (J92_2 h h_ t i next_1 h_5)
 (J92_1 R h_ t h_5)
def J92_0  (R : Value → Heap → Prop) (h : Heap) (h_ : Heap) (t : Int) (h_4 : Heap) : Prop :=
 LoopT (σ := Int) (fun st_ h_st nx_st => B92_3 R h h_ t (st_) h_st nx_st) (0) h_4
def B92_4 (R : Value → Heap → Prop) (h : Heap) (h_ : Heap) (t : Int) (v : Int) (h_2 : Heap) (next_ : Int → Heap → Prop) : Prop :=
 ∃ (t1 : Int), cellH h_2 (Addr.add (Addr.mk (h).size 0 none) 0) = some (.int .i64 t1) ∧ PIf ((v : Int) ≤ t1)
 (0 ≤ (v : Int) ∧ (v : Int) < ((Int.toNat (IntKind.wrap .i64 (t + 1))) : Nat) ∧ StoreH h_2 (Addr.add (Addr.mk (h_).size 0 none) (Int.toNat v * 1)) [(.int .i64 (-1))] fun h_3 => next_ ((IntKind.wrap .i64 (v + 1))) h_3)
 (J92_0 R h h_ t h_2)
def VC92 (P : Program) (c : Int) (cA : Option Addr) (cN : Nat) (cC : Nat) (cA1 : Option Addr) (cN1 : Nat) (cC1 : Nat) (cA2 : Option Addr) (cN2 : Nat) (cC2 : Nat) (cA3 : Option Addr) (cN3 : Nat) (cC3 : Nat) (cA4 : Option Addr) (cN4 : Nat) (cC4 : Nat) (cA5 : Option Addr) (cN5 : Nat) (cC5 : Nat) (cA6 : Option Addr) (cN6 : Nat) (cC6 : Nat) (cA7 : Option Addr) (cN7 : Nat) (cC7 : Nat) (cA8 : Option Addr) (cN8 : Nat) (cC8 : Nat) (cA9 : Option Addr) (cN9 : Nat) (cC9 : Nat) (R : Value → Heap → Prop) (h : Heap) : Prop :=
 let h_ : Heap := (h).push (.cells (Value.cells (.agg #[(.int .i64 c), (.slice cA cN cC), (.slice cA1 cN1 cC1), (.slice cA2 cN2 cC2), (.slice cA3 cN3 cC3), (.slice cA4 cN4 cC4), (.slice cA5 cN5 cC5), (.slice cA6 cN6 cC6), (.slice cA7 cN7 cC7), (.slice cA8 cN8 cC8), (.slice cA9 cN9 cC9)])) 29); ∃ (t : Int), cellH h_ (Addr.add (Addr.mk (h).size 0 none) 0) = some (.int .i64 t) ∧ 0 ≤ ((IntKind.wrap .i64 (t + 1)) : Int) ∧ ((IntKind.wrap .i64 (t + 1)) : Int) ≤ (IntKind.wrap .i64 (t + 1)) ∧ (8 : Int) * (IntKind.wrap .i64 (t + 1)) ≤ 281474976710656 ∧ let h_1 : Heap := (h_).push (.cells (zeroRow #[(.int .i64 0)] (Int.toNat (IntKind.wrap .i64 (t + 1)) * 1)).toArray 3); LoopT (σ := Int) (fun st_ h_st nx_st => B92_4 R h h_ t (st_) h_st nx_st) (0) h_1
theorem vc92 (P : Program) (c : Int) (cA : Option Addr) (cN : Nat) (cC : Nat) (cA1 : Option Addr) (cN1 : Nat) (cC1 : Nat) (cA2 : Option Addr) (cN2 : Nat) (cC2 : Nat) (cA3 : Option Addr) (cN3 : Nat) (cC3 : Nat) (cA4 : Option Addr) (cN4 : Nat) (cC4 : Nat) (cA5 : Option Addr) (cN5 : Nat) (cC5 : Nat) (cA6 : Option Addr) (cN6 : Nat) (cC6 : Nat) (cA7 : Option Addr) (cN7 : Nat) (cC7 : Nat) (cA8 : Option Addr) (cN8 : Nat) (cC8 : Nat) (cA9 : Option Addr) (cN9 : Nat) (cC9 : Nat) (R : Value → Heap → Prop) (h : Heap) : fnC P ret92 code92 [(.agg #[(.int .i64 c), (.slice cA cN cC), (.slice cA1 cN1 cC1), (.slice cA2 cN2 cC2), (.slice cA3 cN3 cC3), (.slice cA4 cN4 cC4), (.slice cA5 cN5 cC5), (.slice cA6 cN6 cC6), (.slice cA7 cN7 cC7), (.slice cA8 cN8 cC8), (.slice cA9 cN9 cC9)])] h R = VC92 P c cA cN cC cA1 cN1 cC1 cA2 cN2 cC2 cA3 cN3 cC3 cA4 cN4 cC4 cA5 cN5 cC5 cA6 cN6 cC6 cA7 cN7 cC7 cA8 cN8 cC8 cA9 cN9 cC9 R h := by kernel_rfl
theorem run92 (c : Int) (cA : Option Addr) (cN : Nat) (cC : Nat) (cA1 : Option Addr) (cN1 : Nat) (cC1 : Nat) (cA2 : Option Addr) (cN2 : Nat) (cC2 : Nat) (cA3 : Option Addr) (cN3 : Nat) (cC3 : Nat) (cA4 : Option Addr) (cN4 : Nat) (cC4 : Nat) (cA5 : Option Addr) (cN5 : Nat) (cC5 : Nat) (cA6 : Option Addr) (cN6 : Nat) (cC6 : Nat) (cA7 : Option Addr) (cN7 : Nat) (cC7 : Nat) (cA8 : Option Addr) (cN8 : Nat) (cC8 : Nat) (cA9 : Option Addr) (cN9 : Nat) (cC9 : Nat) (R : Value → Heap → Prop) (h : Heap) (hv : VC92 Try.prog c cA cN cC cA1 cN1 cC1 cA2 cN2 cC2 cA3 cN3 cC3 cA4 cN4 cC4 cA5 cN5 cC5 cA6 cN6 cC6 cA7 cN7 cC7 cA8 cN8 cC8 cA9 cN9 cC9 R h) : CallsH Try.prog 92 #[(.agg #[(.int .i64 c), (.slice cA cN cC), (.slice cA1 cN1 cC1), (.slice cA2 cN2 cC2), (.slice cA3 cN3 cC3), (.slice cA4 cN4 cC4), (.slice cA5 cN5 cC5), (.slice cA6 cN6 cC6), (.slice cA7 cN7 cC7), (.slice cA8 cN8 cC8), (.slice cA9 cN9 cC9)])] h R := calls_of_fnC (Checked.mixed Try.checked) Try.func92 comp92 (Nat.le_of_ble_eq_true rfl) (by rw [vc92]; exact hv)

/-! 93: trestle/trestleref03.round -/
def code93 : SCode := (.seq (.region .txt [⟨(some 3), .box 29 (.tmp 0), none⟩,
  ⟨(some 6), .mv (.const (.bool false)), none⟩]) (.seq (.region .txt [⟨(some 13), .fldA 8 (.tmp 3), none⟩,
  ⟨(some 14), .ld (.slice) (.tmp 13), none⟩,
  ⟨(some 15), .len (.tmp 14), none⟩,
  ⟨(some 16), .mkS 4 1 1 #[(.bool false)] (.tmp 15) (.tmp 15), none⟩,
  ⟨(some 7), .mv (.tmp 16), none⟩]) (.seq (.region .txt [⟨(some 17), .mv (.tmp 2), none⟩,
  ⟨(some 18), .lit 3 1 #[(.int .i64 0)] [(0, 1, (.tmp 17))], none⟩,
  ⟨(some 8), .mv (.tmp 18), none⟩]) (.seq (.seq (.region .txt [⟨(some 9), .mv (.const (.int .i64 0)), none⟩]) (.block 0 (.loop [(8, .slice), (9, .int .i64)] [19, 20, 21, 22, 25, 26, 27, 28, 29, 30, 31, 32, 10, 33, 34, 35, 36, 37, 38, 39, 40, 41, 42, 43, 44, 45, 11, 12, 46, 47, 50, 51, 52, 53, 54, 6, 55, 56, 57, 58, 59, 60, 61, 62, 63, 64, 65, 66, 67, 68, 69, 70, 71, 72, 73, 74, 75, 76, 77, 78, 8, 48, 49, 12, 23, 24, 9] (.seq (.seq (.region .txt [⟨(some 19), .mv (.tmp 9), none⟩,
  ⟨(some 20), .mv (.tmp 8), none⟩,
  ⟨(some 21), .len (.tmp 20), none⟩,
  ⟨(some 22), .icmp .lss .i64 (.tmp 19) (.tmp 21), none⟩]) (.cond (.tmp 22) .skip (.exit 0))) (.seq (.block 1 (.seq (.region .ext [⟨(some 25), .fldA 8 (.tmp 3), none⟩,
  ⟨(some 26), .ld (.slice) (.tmp 25), none⟩,
  ⟨(some 27), .mv (.tmp 8), none⟩,
  ⟨(some 28), .mv (.tmp 9), none⟩,
  ⟨(some 29), .idxA 1 (.tmp 27) (.tmp 28), none⟩,
  ⟨(some 30), .ld (.int .i64) (.tmp 29), none⟩,
  ⟨(some 31), .idxA 3 (.tmp 26) (.tmp 30), none⟩,
  ⟨(some 32), .ldn [.int .i64, .int .i64, .int .i64] (.tmp 31), none⟩,
  ⟨(some 10), .alloc 82 (.agg #[(.int .i64 0), (.int .i64 0), (.int .i64 0)]), none⟩,
  ⟨none, .st 3 (.tmp 10) (.tmp 32), none⟩]) (.seq (.region .ext [⟨(some 33), .mv (.tmp 1), none⟩,
  ⟨(some 34), .fldA 1 (.tmp 10), none⟩,
  ⟨(some 35), .ld (.int .i64) (.tmp 34), none⟩,
  ⟨(some 36), .divc .quo .i64 (.tmp 35) 2, none⟩,
  ⟨(some 37), .idxA 1 (.tmp 33) (.tmp 36), none⟩,
  ⟨(some 38), .ld (.int .i64) (.tmp 37), none⟩,
  ⟨(some 39), .mv (.tmp 1), none⟩,
  ⟨(some 40), .fldA 2 (.tmp 10), none⟩,
  ⟨(some 41), .ld (.int .i64) (.tmp 40), none⟩,
  ⟨(some 42), .divc .quo .i64 (.tmp 41) 2, none⟩,
  ⟨(some 43), .idxA 1 (.tmp 39) (.tmp 42), none⟩,
  ⟨(some 44), .ld (.int .i64) (.tmp 43), none⟩,
  ⟨(some 45), .mkAgg #[(.int .i64 0), (.int .i64 0)] [(0, 1, (.tmp 38)), (1, 1, (.tmp 44))], none⟩,
  ⟨(some 11), .alloc 177 (.agg #[(.int .i64 0), (.int .i64 0)]), none⟩,
  ⟨none, .st 2 (.tmp 11) (.tmp 45), none⟩]) (.seq (.region .txt [⟨(some 12), .mv (.const (.int .i64 0)), none⟩]) (.block 2 (.loop [(8, .slice), (12, .int .i64)] [46, 47, 50, 51, 52, 53, 54, 6, 55, 56, 57, 58, 59, 60, 61, 62, 63, 64, 65, 66, 67, 68, 69, 70, 71, 72, 73, 74, 75, 76, 77, 78, 8, 48, 49, 12] (.seq (.seq (.region .txt [⟨(some 46), .mv (.tmp 12), none⟩,
  ⟨(some 47), .icmp .lss .i64 (.tmp 46) (.const (.int .i64 2)), none⟩]) (.cond (.tmp 47) .skip (.exit 2))) (.seq (.block 3 (.seq (.seq (.region .txt [⟨(some 50), .mv (.tmp 12), none⟩,
  ⟨(some 51), .idxArr 2 1 (.tmp 11) (.tmp 50), none⟩,
  ⟨(some 52), .ld (.int .i64) (.tmp 51), none⟩,
  ⟨(some 53), .mv (.tmp 2), none⟩,
  ⟨(some 54), .icmp .eql .i64 (.tmp 52) (.tmp 53), none⟩]) (.cond (.tmp 54) (.seq (.region .txt [⟨(some 6), .mv (.const (.bool true)), none⟩]) .ret) .skip)) (.seq (.region .txt [⟨(some 55), .mv (.tmp 12), none⟩,
  ⟨(some 56), .idxArr 2 1 (.tmp 11) (.tmp 55), none⟩,
  ⟨(some 57), .ld (.int .i64) (.tmp 56), none⟩,
  ⟨(some 58), .icmp .geq .i64 (.tmp 57) (.const (.int .i64 0)), none⟩,
  ⟨(some 59), .mv (.tmp 58), none⟩,
  ⟨(some 60), .mv (.tmp 7), (some (59, true))⟩,
  ⟨(some 61), .mv (.tmp 12), (some (59, true))⟩,
  ⟨(some 62), .idxArr 2 1 (.tmp 11) (.tmp 61), (some (59, true))⟩,
  ⟨(some 63), .ld (.int .i64) (.tmp 62), (some (59, true))⟩,
  ⟨(some 64), .idxA 1 (.tmp 60) (.tmp 63), (some (59, true))⟩,
  ⟨(some 65), .ld (.bool) (.tmp 64), (some (59, true))⟩,
  ⟨(some 66), .not (.tmp 65), (some (59, true))⟩,
  ⟨(some 67), .pick (.tmp 59) (.tmp 66) (.const (.bool false)), none⟩]) (.cond (.tmp 67) (.seq (.region .txt [⟨(some 68), .mv (.tmp 7), none⟩,
  ⟨(some 69), .mv (.tmp 12), none⟩,
  ⟨(some 70), .idxArr 2 1 (.tmp 11) (.tmp 69), none⟩,
  ⟨(some 71), .ld (.int .i64) (.tmp 70), none⟩,
  ⟨(some 72), .idxA 1 (.tmp 68) (.tmp 71), none⟩,
  ⟨none, .st 1 (.tmp 72) (.const (.bool true)), none⟩]) (.region .txt [⟨(some 73), .mv (.tmp 8), none⟩,
  ⟨(some 74), .mv (.tmp 12), none⟩,
  ⟨(some 75), .idxArr 2 1 (.tmp 11) (.tmp 74), none⟩,
  ⟨(some 76), .ld (.int .i64) (.tmp 75), none⟩,
  ⟨(some 77), .lit 3 1 #[(.int .i64 0)] [(0, 1, (.tmp 76))], none⟩,
  ⟨(some 78), .app 3 8 1 #[(.int .i64 0)] (.tmp 73) (.tmp 77), none⟩,
  ⟨(some 8), .mv (.tmp 78), none⟩])) .skip)))) (.region .txt [⟨(some 48), .mv (.tmp 12), none⟩,
  ⟨(some 49), .arith .add .i64 (.tmp 48) (.const (.int .i64 1)), none⟩,
  ⟨(some 12), .mv (.tmp 49), none⟩]))))))))) (.region .txt [⟨(some 23), .mv (.tmp 9), none⟩,
  ⟨(some 24), .arith .add .i64 (.tmp 23) (.const (.int .i64 1)), none⟩,
  ⟨(some 9), .mv (.tmp 24), none⟩])))))) (.seq (.region .txt [⟨(some 6), .mv (.const (.bool false)), none⟩]) .ret)))))
def loops93 : List (List (Nat × Shp)) := [[(8, .slice), (9, .int .i64)], [(8, .slice), (12, .int .i64)]]
def ret93 : List RV := [.tmp 6]
theorem comp93 : compF Try.prog Try.f93 loops93 = some (79, ret93, code93) := by kernel_rfl
def J93_4  (h_ : Heap) (N : Nat) (h_6 : Heap) (listA1 : (Option Addr)) (listN1 : Nat) (listC1 : Nat) (k : Int) (next_1 : ((Option Addr × Nat × Nat) × Int → Heap → Prop)) (h_11 : Heap) : Prop :=
 0 ≤ (k : Int) ∧ (k : Int) < (2 : Nat) ∧ ∃ (t9 : Int), cellH h_11 (Addr.add (Addr.mk (h_6).size 0 none) (Int.toNat k * 1)) = some (.int .i64 t9) ∧ PIf ((0 : Int) ≤ t9)
 (0 ≤ (k : Int) ∧ (k : Int) < (2 : Nat) ∧ ∃ (t10 : Int), cellH h_11 (Addr.add (Addr.mk (h_6).size 0 none) (Int.toNat k * 1)) = some (.int .i64 t10) ∧ 0 ≤ (t10 : Int) ∧ (t10 : Int) < ((Int.toNat ((N : Nat) : Int)) : Nat) ∧ ∃ (t11 : Bool), cellH h_11 (Addr.add (Addr.mk (h_).size 0 none) (Int.toNat t10 * 1)) = some (.bool t11) ∧ BIf (!t11) (0 ≤ (k : Int) ∧ (k : Int) < (2 : Nat) ∧ ∃ (t12 : Int), cellH h_11 (Addr.add (Addr.mk (h_6).size 0 none) (Int.toNat k * 1)) = some (.int .i64 t12) ∧ 0 ≤ (t12 : Int) ∧ (t12 : Int) < ((Int.toNat ((N : Nat) : Int)) : Nat) ∧ StoreH h_11 (Addr.add (Addr.mk (h_).size 0 none) (Int.toNat t12 * 1)) [(.bool true)] fun h_12 => 0 ≤ (k : Int) ∧ (k : Int) < (2 : Nat) ∧ ∃ (t13 : Int), cellH h_12 (Addr.add (Addr.mk (h_6).size 0 none) (Int.toNat k * 1)) = some (.int .i64 t13) ∧ let h_13 : Heap := (h_12).push (.cells #[(.int .i64 t13)] 3); ∃ ys : List Value, ReadL h_13 (some (Addr.mk (h_12).size 0 none)) ys ∧ ys.length = 1 * 1 ∧ AppS h_13 listA1 listN1 listC1 3 8 1 #[(.int .i64 0)] ys 1 fun apA apN apC h_14 => next_1 ((apA, apN, apC), (IntKind.wrap .i64 (k + 1))) h_14) (next_1 ((listA1, listN1, listC1), (IntKind.wrap .i64 (k + 1))) h_11))
 (next_1 ((listA1, listN1, listC1), (IntKind.wrap .i64 (k + 1))) h_11)
def J93_3  (R : Value → Heap → Prop) (at_ : Int) (h_ : Heap) (N : Nat) (h_6 : Heap) (listA1 : (Option Addr)) (listN1 : Nat) (listC1 : Nat) (k : Int) (next_1 : ((Option Addr × Nat × Nat) × Int → Heap → Prop)) (h_10 : Heap) : Prop :=
 0 ≤ (k : Int) ∧ (k : Int) < (2 : Nat) ∧ ∃ (t8 : Int), cellH h_10 (Addr.add (Addr.mk (h_6).size 0 none) (Int.toNat k * 1)) = some (.int .i64 t8) ∧ PIf ((t8 : Int) = at_)
 (R (.bool true) h_10)
 (J93_4 h_ N h_6 listA1 listN1 listC1 k next_1 h_10)
def J93_2  (i : Int) (next_ : ((Option Addr × Nat × Nat) × Int → Heap → Prop)) (listA2 : Option Addr) (listN2 : Nat) (listC2 : Nat) (h_15 : Heap) : Prop :=
 next_ ((listA2, listN2, listC2), (IntKind.wrap .i64 (i + 1))) h_15
def B93_5 (R : Value → Heap → Prop) (at_ : Int) (h_ : Heap) (N : Nat) (i : Int) (next_ : ((Option Addr × Nat × Nat) × Int → Heap → Prop)) (h_6 : Heap) (listA1 : Option Addr) (listN1 : Nat) (listC1 : Nat) (k : Int) (h_9 : Heap) (next_1 : (Option Addr × Nat × Nat) × Int → Heap → Prop) : Prop :=
 PIf ((k : Int) < 2)
 (J93_3 R at_ h_ N h_6 listA1 listN1 listC1 k next_1 h_9)
 (J93_2 i next_ (listA1) (listN1) (listC1) h_9)
def J93_1  (R : Value → Heap → Prop) (h : Heap) (gateA : (Option Addr)) (gateN : Nat) (at_ : Int) (h_ : Heap) (N : Nat) (listA : (Option Addr)) (listN : Nat) (listC : Nat) (i : Int) (next_ : ((Option Addr × Nat × Nat) × Int → Heap → Prop)) (h_4 : Heap) : Prop :=
 (Addr.block (Addr.add (Addr.mk (h).size 0 none) 8)) < (h_4).size ∧ ∃ (A1 : Option Addr), ∃ (N1 : Nat), ∃ (C1 : Nat), cellH h_4 (Addr.add (Addr.mk (h).size 0 none) 8) = some (.slice A1 N1 C1) ∧ 0 ≤ (i : Int) ∧ (i : Int) < (listN : Nat) ∧ AtP listA fun ad => (Addr.block (Addr.add ad (Int.toNat i * 1))) < (h_4).size ∧ ∃ (t : Int), cellH h_4 (Addr.add ad (Int.toNat i * 1)) = some (.int .i64 t) ∧ 0 ≤ (t : Int) ∧ (t : Int) < (N1 : Nat) ∧ AtP A1 fun ad1 => (Addr.block (Addr.add ad1 (Int.toNat t * 3))) < (h_4).size ∧ ∃ (t1 : Int), ∃ (t2 : Int), ∃ (t3 : Int), cellsH h_4 (Addr.add ad1 (Int.toNat t * 3)) 0 [(.int .i64 t1), (.int .i64 t2), (.int .i64 t3)] ∧ let h_5 : Heap := (h_4).push (.cells #[(.int .i64 0), (.int .i64 0), (.int .i64 0)] 82); AgreeH (h_4).size h_4 h_5 ∧ StoreH h_5 (Addr.mk (h_4).size 0 none) [(.int .i64 t1), (.int .i64 t2), (.int .i64 t3)] fun h_6 => (Addr.block (Addr.add (Addr.mk (h_4).size 0 none) 1)) < (h_6).size ∧ ∃ (t4 : Int), cellH h_6 (Addr.add (Addr.mk (h_4).size 0 none) 1) = some (.int .i64 t4) ∧ 0 ≤ ((IntKind.wrap .i64 (Int.tdiv t4 2)) : Int) ∧ ((IntKind.wrap .i64 (Int.tdiv t4 2)) : Int) < (gateN : Nat) ∧ AtP gateA fun ad2 => (Addr.block (Addr.add ad2 (Int.toNat (IntKind.wrap .i64 (Int.tdiv t4 2)) * 1))) < (h_6).size ∧ ∃ (t5 : Int), cellH h_6 (Addr.add ad2 (Int.toNat (IntKind.wrap .i64 (Int.tdiv t4 2)) * 1)) = some (.int .i64 t5) ∧ (Addr.block (Addr.add (Addr.mk (h_4).size 0 none) 2)) < (h_6).size ∧ ∃ (t6 : Int), cellH h_6 (Addr.add (Addr.mk (h_4).size 0 none) 2) = some (.int .i64 t6) ∧ 0 ≤ ((IntKind.wrap .i64 (Int.tdiv t6 2)) : Int) ∧ ((IntKind.wrap .i64 (Int.tdiv t6 2)) : Int) < (gateN : Nat) ∧ AtP gateA fun ad3 => (Addr.block (Addr.add ad3 (Int.toNat (IntKind.wrap .i64 (Int.tdiv t6 2)) * 1))) < (h_6).size ∧ ∃ (t7 : Int), cellH h_6 (Addr.add ad3 (Int.toNat (IntKind.wrap .i64 (Int.tdiv t6 2)) * 1)) = some (.int .i64 t7) ∧ let h_7 : Heap := (h_6).push (.cells #[(.int .i64 0), (.int .i64 0)] 177); AgreeH (h_6).size h_6 h_7 ∧ StoreH h_7 (Addr.mk (h_6).size 0 none) [(.int .i64 t5), (.int .i64 t7)] fun h_8 => LoopT (σ := (Option Addr × Nat × Nat) × Int) (fun st_ h_st nx_st => B93_5 R at_ h_ N i next_ h_6 (st_.1.1) (st_.1.2.1) (st_.1.2.2) (st_.2) h_st nx_st) ((listA, listN, listC), 0) h_8
def J93_0  (R : Value → Heap → Prop) (h_16 : Heap) : Prop :=
 R (.bool false) h_16
def B93_6 (R : Value → Heap → Prop) (h : Heap) (gateA : (Option Addr)) (gateN : Nat) (at_ : Int) (h_ : Heap) (N : Nat) (listA : Option Addr) (listN : Nat) (listC : Nat) (i : Int) (h_3 : Heap) (next_ : (Option Addr × Nat × Nat) × Int → Heap → Prop) : Prop :=
 PIf ((i : Int) < ((listN : Nat) : Int))
 (J93_1 R h gateA gateN at_ h_ N listA listN listC i next_ h_3)
 (J93_0 R h_3)
def VC93 (P : Program) (c : Int) (cA : Option Addr) (cN : Nat) (cC : Nat) (cA1 : Option Addr) (cN1 : Nat) (cC1 : Nat) (cA2 : Option Addr) (cN2 : Nat) (cC2 : Nat) (cA3 : Option Addr) (cN3 : Nat) (cC3 : Nat) (cA4 : Option Addr) (cN4 : Nat) (cC4 : Nat) (cA5 : Option Addr) (cN5 : Nat) (cC5 : Nat) (cA6 : Option Addr) (cN6 : Nat) (cC6 : Nat) (cA7 : Option Addr) (cN7 : Nat) (cC7 : Nat) (cA8 : Option Addr) (cN8 : Nat) (cC8 : Nat) (cA9 : Option Addr) (cN9 : Nat) (cC9 : Nat) (gateA : Option Addr) (gateN : Nat) (gateC : Nat) (at_ : Int) (R : Value → Heap → Prop) (h : Heap) : Prop :=
 let h_ : Heap := (h).push (.cells (Value.cells (.agg #[(.int .i64 c), (.slice cA cN cC), (.slice cA1 cN1 cC1), (.slice cA2 cN2 cC2), (.slice cA3 cN3 cC3), (.slice cA4 cN4 cC4), (.slice cA5 cN5 cC5), (.slice cA6 cN6 cC6), (.slice cA7 cN7 cC7), (.slice cA8 cN8 cC8), (.slice cA9 cN9 cC9)])) 29); ∃ (A : Option Addr), ∃ (N : Nat), ∃ (C : Nat), cellH h_ (Addr.add (Addr.mk (h).size 0 none) 8) = some (.slice A N C) ∧ 0 ≤ (((N : Nat) : Int) : Int) ∧ (((N : Nat) : Int) : Int) ≤ ((N : Nat) : Int) ∧ (1 : Int) * ((N : Nat) : Int) ≤ 281474976710656 ∧ let h_1 : Heap := (h_).push (.cells (zeroRow #[(.bool false)] (Int.toNat ((N : Nat) : Int) * 1)).toArray 4); let h_2 : Heap := (h_1).push (.cells #[(.int .i64 at_)] 3); LoopT (σ := (Option Addr × Nat × Nat) × Int) (fun st_ h_st nx_st => B93_6 R h gateA gateN at_ h_ N (st_.1.1) (st_.1.2.1) (st_.1.2.2) (st_.2) h_st nx_st) (((some (Addr.mk (h_1).size 0 none)), 1, 1), 0) h_2
theorem vc93 (P : Program) (c : Int) (cA : Option Addr) (cN : Nat) (cC : Nat) (cA1 : Option Addr) (cN1 : Nat) (cC1 : Nat) (cA2 : Option Addr) (cN2 : Nat) (cC2 : Nat) (cA3 : Option Addr) (cN3 : Nat) (cC3 : Nat) (cA4 : Option Addr) (cN4 : Nat) (cC4 : Nat) (cA5 : Option Addr) (cN5 : Nat) (cC5 : Nat) (cA6 : Option Addr) (cN6 : Nat) (cC6 : Nat) (cA7 : Option Addr) (cN7 : Nat) (cC7 : Nat) (cA8 : Option Addr) (cN8 : Nat) (cC8 : Nat) (cA9 : Option Addr) (cN9 : Nat) (cC9 : Nat) (gateA : Option Addr) (gateN : Nat) (gateC : Nat) (at_ : Int) (R : Value → Heap → Prop) (h : Heap) : fnC P ret93 code93 [(.agg #[(.int .i64 c), (.slice cA cN cC), (.slice cA1 cN1 cC1), (.slice cA2 cN2 cC2), (.slice cA3 cN3 cC3), (.slice cA4 cN4 cC4), (.slice cA5 cN5 cC5), (.slice cA6 cN6 cC6), (.slice cA7 cN7 cC7), (.slice cA8 cN8 cC8), (.slice cA9 cN9 cC9)]), (.slice gateA gateN gateC), (.int .i64 at_)] h R = VC93 P c cA cN cC cA1 cN1 cC1 cA2 cN2 cC2 cA3 cN3 cC3 cA4 cN4 cC4 cA5 cN5 cC5 cA6 cN6 cC6 cA7 cN7 cC7 cA8 cN8 cC8 cA9 cN9 cC9 gateA gateN gateC at_ R h := by kernel_rfl
theorem run93 (c : Int) (cA : Option Addr) (cN : Nat) (cC : Nat) (cA1 : Option Addr) (cN1 : Nat) (cC1 : Nat) (cA2 : Option Addr) (cN2 : Nat) (cC2 : Nat) (cA3 : Option Addr) (cN3 : Nat) (cC3 : Nat) (cA4 : Option Addr) (cN4 : Nat) (cC4 : Nat) (cA5 : Option Addr) (cN5 : Nat) (cC5 : Nat) (cA6 : Option Addr) (cN6 : Nat) (cC6 : Nat) (cA7 : Option Addr) (cN7 : Nat) (cC7 : Nat) (cA8 : Option Addr) (cN8 : Nat) (cC8 : Nat) (cA9 : Option Addr) (cN9 : Nat) (cC9 : Nat) (gateA : Option Addr) (gateN : Nat) (gateC : Nat) (at_ : Int) (R : Value → Heap → Prop) (h : Heap) (hv : VC93 Try.prog c cA cN cC cA1 cN1 cC1 cA2 cN2 cC2 cA3 cN3 cC3 cA4 cN4 cC4 cA5 cN5 cC5 cA6 cN6 cC6 cA7 cN7 cC7 cA8 cN8 cC8 cA9 cN9 cC9 gateA gateN gateC at_ R h) : CallsH Try.prog 93 #[(.agg #[(.int .i64 c), (.slice cA cN cC), (.slice cA1 cN1 cC1), (.slice cA2 cN2 cC2), (.slice cA3 cN3 cC3), (.slice cA4 cN4 cC4), (.slice cA5 cN5 cC5), (.slice cA6 cN6 cC6), (.slice cA7 cN7 cC7), (.slice cA8 cN8 cC8), (.slice cA9 cN9 cC9)]), (.slice gateA gateN gateC), (.int .i64 at_)] h R := calls_of_fnC (Checked.mixed Try.checked) Try.func93 comp93 (Nat.le_of_ble_eq_true rfl) (by rw [vc93]; exact hv)

/-! 94: trestle/trestleref03.symbols -/
def code94 : SCode := (.seq (.region .txt [⟨(some 1), .box 29 (.tmp 0), none⟩,
  ⟨(some 2), .mv (.const (.int .i64 0)), none⟩,
  ⟨(some 3), .mv (.const (.int .i64 0)), none⟩]) (.seq (.seq (.region .txt [⟨(some 4), .mv (.const (.int .i64 0)), none⟩]) (.block 0 (.loop [(4, .int .i64)] [10, 11, 12, 13, 14, 17, 18, 19, 20, 21, 5, 6, 22, 23, 25, 24, 26, 27, 28, 6, 30, 29, 31, 32, 33, 6, 35, 34, 36, 37, 38, 6, 40, 39, 41, 42, 43, 6, 45, 44, 46, 47, 48, 6, 50, 49, 51, 52, 53, 6, 55, 54, 56, 57, 58, 6, 59, 60, 61, 62, 63, 64, 65, 66, 67, 68, 69, 70, 71, 72, 73, 74, 75, 76, 77, 78, 79, 7, 8, 80, 81, 82, 83, 84, 85, 86, 87, 90, 91, 92, 93, 94, 7, 88, 89, 8, 9, 95, 96, 97, 98, 99, 100, 103, 104, 105, 106, 107, 108, 109, 110, 111, 112, 113, 114, 115, 116, 117, 118, 119, 120, 121, 122, 7, 101, 102, 9, 123, 124, 125, 2, 3, 15, 16, 4] (.seq (.seq (.region .txt [⟨(some 10), .mv (.tmp 4), none⟩,
  ⟨(some 11), .fldA 9 (.tmp 1), none⟩,
  ⟨(some 12), .ld (.slice) (.tmp 11), none⟩,
  ⟨(some 13), .len (.tmp 12), none⟩,
  ⟨(some 14), .icmp .lss .i64 (.tmp 10) (.tmp 13), none⟩]) (.cond (.tmp 14) .skip (.exit 0))) (.seq (.block 1 (.seq (.region .txt [⟨(some 17), .fldA 9 (.tmp 1), none⟩,
  ⟨(some 18), .ld (.slice) (.tmp 17), none⟩,
  ⟨(some 19), .mv (.tmp 4), none⟩,
  ⟨(some 20), .idxA 3 (.tmp 18) (.tmp 19), none⟩,
  ⟨(some 21), .ldn [.int .u8, .int .i64, .str] (.tmp 20), none⟩,
  ⟨(some 5), .alloc 103 (.agg #[(.int .u8 0), (.int .i64 0), (.string (ByteArray.mk #[]))]), none⟩,
  ⟨none, .st 3 (.tmp 5) (.tmp 21), none⟩]) (.seq (.region .txt [⟨(some 6), .mv (.const (.int .i64 (-1))), none⟩]) (.seq (.seq (.region .txt [⟨(some 22), .fldA 0 (.tmp 5), none⟩,
  ⟨(some 23), .ld (.int .u8) (.tmp 22), none⟩]) (.block 2 (.seq (.region .txt [⟨(some 25), .icmp .eql .u8 (.tmp 23) (.const (.int .u8 105)), none⟩,
  ⟨(some 24), .mv (.tmp 25), none⟩]) (.cond (.tmp 24) (.region .txt [⟨(some 26), .fldA 1 (.tmp 1), none⟩,
  ⟨(some 27), .ld (.slice) (.tmp 26), none⟩,
  ⟨(some 28), .len (.tmp 27), none⟩,
  ⟨(some 6), .mv (.tmp 28), none⟩]) (.seq (.region .txt [⟨(some 30), .icmp .eql .u8 (.tmp 23) (.const (.int .u8 108)), none⟩,
  ⟨(some 29), .mv (.tmp 30), none⟩]) (.cond (.tmp 29) (.region .txt [⟨(some 31), .fldA 2 (.tmp 1), none⟩,
  ⟨(some 32), .ld (.slice) (.tmp 31), none⟩,
  ⟨(some 33), .len (.tmp 32), none⟩,
  ⟨(some 6), .mv (.tmp 33), none⟩]) (.seq (.region .txt [⟨(some 35), .icmp .eql .u8 (.tmp 23) (.const (.int .u8 111)), none⟩,
  ⟨(some 34), .mv (.tmp 35), none⟩]) (.cond (.tmp 34) (.region .txt [⟨(some 36), .fldA 3 (.tmp 1), none⟩,
  ⟨(some 37), .ld (.slice) (.tmp 36), none⟩,
  ⟨(some 38), .len (.tmp 37), none⟩,
  ⟨(some 6), .mv (.tmp 38), none⟩]) (.seq (.region .txt [⟨(some 40), .icmp .eql .u8 (.tmp 23) (.const (.int .u8 98)), none⟩,
  ⟨(some 39), .mv (.tmp 40), none⟩]) (.cond (.tmp 39) (.region .txt [⟨(some 41), .fldA 4 (.tmp 1), none⟩,
  ⟨(some 42), .ld (.slice) (.tmp 41), none⟩,
  ⟨(some 43), .len (.tmp 42), none⟩,
  ⟨(some 6), .mv (.tmp 43), none⟩]) (.seq (.region .txt [⟨(some 45), .icmp .eql .u8 (.tmp 23) (.const (.int .u8 99)), none⟩,
  ⟨(some 44), .mv (.tmp 45), none⟩]) (.cond (.tmp 44) (.region .txt [⟨(some 46), .fldA 5 (.tmp 1), none⟩,
  ⟨(some 47), .ld (.slice) (.tmp 46), none⟩,
  ⟨(some 48), .len (.tmp 47), none⟩,
  ⟨(some 6), .mv (.tmp 48), none⟩]) (.seq (.region .txt [⟨(some 50), .icmp .eql .u8 (.tmp 23) (.const (.int .u8 106)), none⟩,
  ⟨(some 49), .mv (.tmp 50), none⟩]) (.cond (.tmp 49) (.region .txt [⟨(some 51), .fldA 6 (.tmp 1), none⟩,
  ⟨(some 52), .ld (.slice) (.tmp 51), none⟩,
  ⟨(some 53), .len (.tmp 52), none⟩,
  ⟨(some 6), .mv (.tmp 53), none⟩]) (.seq (.region .txt [⟨(some 55), .icmp .eql .u8 (.tmp 23) (.const (.int .u8 102)), none⟩,
  ⟨(some 54), .mv (.tmp 55), none⟩]) (.cond (.tmp 54) (.region .txt [⟨(some 56), .fldA 7 (.tmp 1), none⟩,
  ⟨(some 57), .ld (.slice) (.tmp 56), none⟩,
  ⟨(some 58), .len (.tmp 57), none⟩,
  ⟨(some 6), .mv (.tmp 58), none⟩]) .skip)))))))))))))))) (.seq (.region .txt [⟨(some 59), .fldA 1 (.tmp 5), none⟩,
  ⟨(some 60), .ld (.int .i64) (.tmp 59), none⟩,
  ⟨(some 61), .icmp .geq .i64 (.tmp 60) (.const (.int .i64 0)), none⟩,
  ⟨(some 62), .mv (.tmp 61), none⟩,
  ⟨(some 63), .fldA 1 (.tmp 5), (some (62, true))⟩,
  ⟨(some 64), .ld (.int .i64) (.tmp 63), (some (62, true))⟩,
  ⟨(some 65), .mv (.tmp 6), (some (62, true))⟩,
  ⟨(some 66), .icmp .lss .i64 (.tmp 64) (.tmp 65), (some (62, true))⟩,
  ⟨(some 67), .pick (.tmp 62) (.tmp 66) (.const (.bool false)), none⟩,
  ⟨(some 68), .mv (.tmp 67), none⟩,
  ⟨(some 69), .fldA 2 (.tmp 5), (some (68, true))⟩,
  ⟨(some 70), .ld (.str) (.tmp 69), (some (68, true))⟩,
  ⟨(some 71), .lenS (.tmp 70), (some (68, true))⟩,
  ⟨(some 72), .icmp .geq .i64 (.tmp 71) (.const (.int .i64 1)), (some (68, true))⟩,
  ⟨(some 73), .pick (.tmp 68) (.tmp 72) (.const (.bool false)), none⟩,
  ⟨(some 74), .mv (.tmp 73), none⟩,
  ⟨(some 75), .fldA 2 (.tmp 5), (some (74, true))⟩,
  ⟨(some 76), .ld (.str) (.tmp 75), (some (74, true))⟩,
  ⟨(some 77), .lenS (.tmp 76), (some (74, true))⟩,
  ⟨(some 78), .icmp .leq .i64 (.tmp 77) (.const (.int .i64 64)), (some (74, true))⟩,
  ⟨(some 79), .pick (.tmp 74) (.tmp 78) (.const (.bool false)), none⟩,
  ⟨(some 7), .mv (.tmp 79), none⟩]) (.seq (.seq (.region .txt [⟨(some 8), .mv (.const (.int .i64 0)), none⟩]) (.block 3 (.loop [(7, .bool), (8, .int .i64)] [80, 81, 82, 83, 84, 85, 86, 87, 90, 91, 92, 93, 94, 7, 88, 89, 8] (.seq (.seq (.region .txt [⟨(some 80), .mv (.tmp 7), none⟩,
  ⟨(some 81), .mv (.tmp 80), none⟩,
  ⟨(some 82), .mv (.tmp 8), (some (81, true))⟩,
  ⟨(some 83), .fldA 2 (.tmp 5), (some (81, true))⟩,
  ⟨(some 84), .ld (.str) (.tmp 83), (some (81, true))⟩,
  ⟨(some 85), .lenS (.tmp 84), (some (81, true))⟩,
  ⟨(some 86), .icmp .lss .i64 (.tmp 82) (.tmp 85), (some (81, true))⟩,
  ⟨(some 87), .pick (.tmp 81) (.tmp 86) (.const (.bool false)), none⟩]) (.cond (.tmp 87) .skip (.exit 3))) (.seq (.block 4 (.region .txt [⟨(some 90), .fldA 2 (.tmp 5), none⟩,
  ⟨(some 91), .ld (.str) (.tmp 90), none⟩,
  ⟨(some 92), .mv (.tmp 8), none⟩,
  ⟨(some 93), .idxS (.tmp 91) (.tmp 92), none⟩,
  ⟨(some 94), .icmp .geq .u8 (.tmp 93) (.const (.int .u8 32)), none⟩,
  ⟨(some 7), .mv (.tmp 94), none⟩])) (.region .txt [⟨(some 88), .mv (.tmp 8), none⟩,
  ⟨(some 89), .arith .add .i64 (.tmp 88) (.const (.int .i64 1)), none⟩,
  ⟨(some 8), .mv (.tmp 89), none⟩])))))) (.seq (.seq (.region .txt [⟨(some 9), .mv (.const (.int .i64 0)), none⟩]) (.block 5 (.loop [(7, .bool), (9, .int .i64)] [95, 96, 97, 98, 99, 100, 103, 104, 105, 106, 107, 108, 109, 110, 111, 112, 113, 114, 115, 116, 117, 118, 119, 120, 121, 122, 7, 101, 102, 9] (.seq (.seq (.region .txt [⟨(some 95), .mv (.tmp 7), none⟩,
  ⟨(some 96), .mv (.tmp 95), none⟩,
  ⟨(some 97), .mv (.tmp 9), (some (96, true))⟩,
  ⟨(some 98), .mv (.tmp 4), (some (96, true))⟩,
  ⟨(some 99), .icmp .lss .i64 (.tmp 97) (.tmp 98), (some (96, true))⟩,
  ⟨(some 100), .pick (.tmp 96) (.tmp 99) (.const (.bool false)), none⟩]) (.cond (.tmp 100) .skip (.exit 5))) (.seq (.block 6 (.region .txt [⟨(some 103), .fldA 9 (.tmp 1), none⟩,
  ⟨(some 104), .ld (.slice) (.tmp 103), none⟩,
  ⟨(some 105), .mv (.tmp 9), none⟩,
  ⟨(some 106), .idxA 3 (.tmp 104) (.tmp 105), none⟩,
  ⟨(some 107), .fldA 0 (.tmp 106), none⟩,
  ⟨(some 108), .ld (.int .u8) (.tmp 107), none⟩,
  ⟨(some 109), .fldA 0 (.tmp 5), none⟩,
  ⟨(some 110), .ld (.int .u8) (.tmp 109), none⟩,
  ⟨(some 111), .icmp .neq .u8 (.tmp 108) (.tmp 110), none⟩,
  ⟨(some 112), .mv (.tmp 111), none⟩,
  ⟨(some 113), .fldA 9 (.tmp 1), (some (112, false))⟩,
  ⟨(some 114), .ld (.slice) (.tmp 113), (some (112, false))⟩,
  ⟨(some 115), .mv (.tmp 9), (some (112, false))⟩,
  ⟨(some 116), .idxA 3 (.tmp 114) (.tmp 115), (some (112, false))⟩,
  ⟨(some 117), .fldA 1 (.tmp 116), (some (112, false))⟩,
  ⟨(some 118), .ld (.int .i64) (.tmp 117), (some (112, false))⟩,
  ⟨(some 119), .fldA 1 (.tmp 5), (some (112, false))⟩,
  ⟨(some 120), .ld (.int .i64) (.tmp 119), (some (112, false))⟩,
  ⟨(some 121), .icmp .neq .i64 (.tmp 118) (.tmp 120), (some (112, false))⟩,
  ⟨(some 122), .pick (.tmp 112) (.const (.bool true)) (.tmp 121), none⟩,
  ⟨(some 7), .mv (.tmp 122), none⟩])) (.region .txt [⟨(some 101), .mv (.tmp 9), none⟩,
  ⟨(some 102), .arith .add .i64 (.tmp 101) (.const (.int .i64 1)), none⟩,
  ⟨(some 9), .mv (.tmp 102), none⟩])))))) (.seq (.region .txt [⟨(some 123), .mv (.tmp 7), none⟩,
  ⟨(some 124), .not (.tmp 123), none⟩]) (.cond (.tmp 124) (.seq (.region .txt [⟨(some 125), .mv (.tmp 4), none⟩,
  ⟨(some 2), .mv (.tmp 125), none⟩,
  ⟨(some 3), .mv (.const (.int .i64 35)), none⟩]) .ret) .skip))))))))) (.region .txt [⟨(some 15), .mv (.tmp 4), none⟩,
  ⟨(some 16), .arith .add .i64 (.tmp 15) (.const (.int .i64 1)), none⟩,
  ⟨(some 4), .mv (.tmp 16), none⟩])))))) (.seq (.region .txt [⟨(some 2), .mv (.const (.int .i64 0)), none⟩,
  ⟨(some 3), .mv (.const (.int .i64 0)), none⟩]) .ret)))
def loops94 : List (List (Nat × Shp)) := [[(4, .int .i64)], [(7, .bool), (8, .int .i64)], [(7, .bool), (9, .int .i64)]]
def ret94 : List RV := [.tmp 2, .tmp 3]
theorem comp94 : compF Try.prog Try.f94 loops94 = some (126, ret94, code94) := by kernel_rfl
def J94_5  (h_2 : Heap) (k : Int) (next_1 : (Bool × Int → Heap → Prop)) (h_7 : Heap) : Prop :=
 ∃ (t9 : ByteArray), cellH h_7 (Addr.add (Addr.mk (h_2).size 0 none) 2) = some (.string t9) ∧ 0 ≤ (k : Int) ∧ (k : Int) < (t9.size : Nat) ∧ PIf ((32 : Int) ≤ (byteAt t9 k))
 (next_1 (true, (IntKind.wrap .i64 (k + 1))) h_7)
 (next_1 (false, (IntKind.wrap .i64 (k + 1))) h_7)
def J94_7  (h : Heap) (h_2 : Heap) (k1 : Int) (next_2 : (Bool × Int → Heap → Prop)) (h_10 : Heap) : Prop :=
 ∃ (A3 : Option Addr), ∃ (N3 : Nat), ∃ (C3 : Nat), cellH h_10 (Addr.add (Addr.mk (h).size 0 none) 9) = some (.slice A3 N3 C3) ∧ 0 ≤ (k1 : Int) ∧ (k1 : Int) < (N3 : Nat) ∧ AtP A3 fun ad1 => ∃ (t10 : Int), cellH h_10 (Addr.add (Addr.add ad1 (Int.toNat k1 * 3)) 0) = some (.int .u8 t10) ∧ ∃ (t11 : Int), cellH h_10 (Addr.add (Addr.mk (h_2).size 0 none) 0) = some (.int .u8 t11) ∧ PIf ((t10 : Int) = t11)
 (∃ (A4 : Option Addr), ∃ (N4 : Nat), ∃ (C4 : Nat), cellH h_10 (Addr.add (Addr.mk (h).size 0 none) 9) = some (.slice A4 N4 C4) ∧ 0 ≤ (k1 : Int) ∧ (k1 : Int) < (N4 : Nat) ∧ AtP A4 fun ad2 => ∃ (t12 : Int), cellH h_10 (Addr.add (Addr.add ad2 (Int.toNat k1 * 3)) 1) = some (.int .i64 t12) ∧ ∃ (t13 : Int), cellH h_10 (Addr.add (Addr.mk (h_2).size 0 none) 1) = some (.int .i64 t13) ∧ PIf ((t12 : Int) = t13)
 (next_2 (false, (IntKind.wrap .i64 (k1 + 1))) h_10)
 (next_2 (true, (IntKind.wrap .i64 (k1 + 1))) h_10))
 (next_2 (true, (IntKind.wrap .i64 (k1 + 1))) h_10)
def J94_2  (i : Int) (next_ : (Int → Heap → Prop)) (h_12 : Heap) : Prop :=
 next_ ((IntKind.wrap .i64 (i + 1))) h_12
def J94_6  (R : Value → Heap → Prop) (i : Int) (next_ : (Int → Heap → Prop)) (ok3 : Bool) (h_11 : Heap) : Prop :=
 BIf (!ok3) (R (.tuple #[(.int .i64 i), (.int .i64 35)]) h_11) (J94_2 i next_ h_11)
def B94_8 (R : Value → Heap → Prop) (h : Heap) (i : Int) (next_ : (Int → Heap → Prop)) (h_2 : Heap) (ok2 : Bool) (k1 : Int) (h_9 : Heap) (next_2 : Bool × Int → Heap → Prop) : Prop :=
 BIf ok2 (PIf ((k1 : Int) < i)
 (J94_7 h h_2 k1 next_2 h_9)
 (J94_6 R i next_ (ok2) h_9)) (J94_6 R i next_ (ok2) h_9)
def J94_4  (R : Value → Heap → Prop) (h : Heap) (i : Int) (next_ : (Int → Heap → Prop)) (h_2 : Heap) (ok1 : Bool) (h_8 : Heap) : Prop :=
 LoopT (σ := Bool × Int) (fun st_ h_st nx_st => B94_8 R h i next_ h_2 (st_.1) (st_.2) h_st nx_st) (ok1, 0) h_8
def B94_9 (R : Value → Heap → Prop) (h : Heap) (i : Int) (next_ : (Int → Heap → Prop)) (h_2 : Heap) (ok : Bool) (k : Int) (h_6 : Heap) (next_1 : Bool × Int → Heap → Prop) : Prop :=
 BIf ok (∃ (t8 : ByteArray), cellH h_6 (Addr.add (Addr.mk (h_2).size 0 none) 2) = some (.string t8) ∧ PIf ((k : Int) < ((t8.size : Nat) : Int))
 (J94_5 h_2 k next_1 h_6)
 (J94_4 R h i next_ h_2 (ok) h_6)) (J94_4 R h i next_ h_2 (ok) h_6)
def J94_11  (h_2 : Heap) (k2 : Int) (next_3 : (Bool × Int → Heap → Prop)) (h_14 : Heap) : Prop :=
 ∃ (t15 : ByteArray), cellH h_14 (Addr.add (Addr.mk (h_2).size 0 none) 2) = some (.string t15) ∧ 0 ≤ (k2 : Int) ∧ (k2 : Int) < (t15.size : Nat) ∧ PIf ((32 : Int) ≤ (byteAt t15 k2))
 (next_3 (true, (IntKind.wrap .i64 (k2 + 1))) h_14)
 (next_3 (false, (IntKind.wrap .i64 (k2 + 1))) h_14)
def J94_13  (h : Heap) (h_2 : Heap) (k3 : Int) (next_4 : (Bool × Int → Heap → Prop)) (h_17 : Heap) : Prop :=
 ∃ (A5 : Option Addr), ∃ (N5 : Nat), ∃ (C5 : Nat), cellH h_17 (Addr.add (Addr.mk (h).size 0 none) 9) = some (.slice A5 N5 C5) ∧ 0 ≤ (k3 : Int) ∧ (k3 : Int) < (N5 : Nat) ∧ AtP A5 fun ad3 => ∃ (t16 : Int), cellH h_17 (Addr.add (Addr.add ad3 (Int.toNat k3 * 3)) 0) = some (.int .u8 t16) ∧ ∃ (t17 : Int), cellH h_17 (Addr.add (Addr.mk (h_2).size 0 none) 0) = some (.int .u8 t17) ∧ PIf ((t16 : Int) = t17)
 (∃ (A6 : Option Addr), ∃ (N6 : Nat), ∃ (C6 : Nat), cellH h_17 (Addr.add (Addr.mk (h).size 0 none) 9) = some (.slice A6 N6 C6) ∧ 0 ≤ (k3 : Int) ∧ (k3 : Int) < (N6 : Nat) ∧ AtP A6 fun ad4 => ∃ (t18 : Int), cellH h_17 (Addr.add (Addr.add ad4 (Int.toNat k3 * 3)) 1) = some (.int .i64 t18) ∧ ∃ (t19 : Int), cellH h_17 (Addr.add (Addr.mk (h_2).size 0 none) 1) = some (.int .i64 t19) ∧ PIf ((t18 : Int) = t19)
 (next_4 (false, (IntKind.wrap .i64 (k3 + 1))) h_17)
 (next_4 (true, (IntKind.wrap .i64 (k3 + 1))) h_17))
 (next_4 (true, (IntKind.wrap .i64 (k3 + 1))) h_17)
def J94_12  (R : Value → Heap → Prop) (i : Int) (next_ : (Int → Heap → Prop)) (ok7 : Bool) (h_18 : Heap) : Prop :=
 BIf (!ok7) (R (.tuple #[(.int .i64 i), (.int .i64 35)]) h_18) (J94_2 i next_ h_18)
def B94_14 (R : Value → Heap → Prop) (h : Heap) (i : Int) (next_ : (Int → Heap → Prop)) (h_2 : Heap) (ok6 : Bool) (k3 : Int) (h_16 : Heap) (next_4 : Bool × Int → Heap → Prop) : Prop :=
 BIf ok6 (PIf ((k3 : Int) < i)
 (J94_13 h h_2 k3 next_4 h_16)
 (J94_12 R i next_ (ok6) h_16)) (J94_12 R i next_ (ok6) h_16)
def J94_10  (R : Value → Heap → Prop) (h : Heap) (i : Int) (next_ : (Int → Heap → Prop)) (h_2 : Heap) (ok5 : Bool) (h_15 : Heap) : Prop :=
 LoopT (σ := Bool × Int) (fun st_ h_st nx_st => B94_14 R h i next_ h_2 (st_.1) (st_.2) h_st nx_st) (ok5, 0) h_15
def B94_15 (R : Value → Heap → Prop) (h : Heap) (i : Int) (next_ : (Int → Heap → Prop)) (h_2 : Heap) (ok4 : Bool) (k2 : Int) (h_13 : Heap) (next_3 : Bool × Int → Heap → Prop) : Prop :=
 BIf ok4 (∃ (t14 : ByteArray), cellH h_13 (Addr.add (Addr.mk (h_2).size 0 none) 2) = some (.string t14) ∧ PIf ((k2 : Int) < ((t14.size : Nat) : Int))
 (J94_11 h_2 k2 next_3 h_13)
 (J94_10 R h i next_ h_2 (ok4) h_13)) (J94_10 R h i next_ h_2 (ok4) h_13)
def J94_17  (h_2 : Heap) (k4 : Int) (next_5 : (Bool × Int → Heap → Prop)) (h_20 : Heap) : Prop :=
 ∃ (t21 : ByteArray), cellH h_20 (Addr.add (Addr.mk (h_2).size 0 none) 2) = some (.string t21) ∧ 0 ≤ (k4 : Int) ∧ (k4 : Int) < (t21.size : Nat) ∧ PIf ((32 : Int) ≤ (byteAt t21 k4))
 (next_5 (true, (IntKind.wrap .i64 (k4 + 1))) h_20)
 (next_5 (false, (IntKind.wrap .i64 (k4 + 1))) h_20)
def J94_19  (h : Heap) (h_2 : Heap) (k5 : Int) (next_6 : (Bool × Int → Heap → Prop)) (h_23 : Heap) : Prop :=
 ∃ (A7 : Option Addr), ∃ (N7 : Nat), ∃ (C7 : Nat), cellH h_23 (Addr.add (Addr.mk (h).size 0 none) 9) = some (.slice A7 N7 C7) ∧ 0 ≤ (k5 : Int) ∧ (k5 : Int) < (N7 : Nat) ∧ AtP A7 fun ad5 => ∃ (t22 : Int), cellH h_23 (Addr.add (Addr.add ad5 (Int.toNat k5 * 3)) 0) = some (.int .u8 t22) ∧ ∃ (t23 : Int), cellH h_23 (Addr.add (Addr.mk (h_2).size 0 none) 0) = some (.int .u8 t23) ∧ PIf ((t22 : Int) = t23)
 (∃ (A8 : Option Addr), ∃ (N8 : Nat), ∃ (C8 : Nat), cellH h_23 (Addr.add (Addr.mk (h).size 0 none) 9) = some (.slice A8 N8 C8) ∧ 0 ≤ (k5 : Int) ∧ (k5 : Int) < (N8 : Nat) ∧ AtP A8 fun ad6 => ∃ (t24 : Int), cellH h_23 (Addr.add (Addr.add ad6 (Int.toNat k5 * 3)) 1) = some (.int .i64 t24) ∧ ∃ (t25 : Int), cellH h_23 (Addr.add (Addr.mk (h_2).size 0 none) 1) = some (.int .i64 t25) ∧ PIf ((t24 : Int) = t25)
 (next_6 (false, (IntKind.wrap .i64 (k5 + 1))) h_23)
 (next_6 (true, (IntKind.wrap .i64 (k5 + 1))) h_23))
 (next_6 (true, (IntKind.wrap .i64 (k5 + 1))) h_23)
def J94_18  (R : Value → Heap → Prop) (i : Int) (next_ : (Int → Heap → Prop)) (ok11 : Bool) (h_24 : Heap) : Prop :=
 BIf (!ok11) (R (.tuple #[(.int .i64 i), (.int .i64 35)]) h_24) (J94_2 i next_ h_24)
def B94_20 (R : Value → Heap → Prop) (h : Heap) (i : Int) (next_ : (Int → Heap → Prop)) (h_2 : Heap) (ok10 : Bool) (k5 : Int) (h_22 : Heap) (next_6 : Bool × Int → Heap → Prop) : Prop :=
 BIf ok10 (PIf ((k5 : Int) < i)
 (J94_19 h h_2 k5 next_6 h_22)
 (J94_18 R i next_ (ok10) h_22)) (J94_18 R i next_ (ok10) h_22)
def J94_16  (R : Value → Heap → Prop) (h : Heap) (i : Int) (next_ : (Int → Heap → Prop)) (h_2 : Heap) (ok9 : Bool) (h_21 : Heap) : Prop :=
 LoopT (σ := Bool × Int) (fun st_ h_st nx_st => B94_20 R h i next_ h_2 (st_.1) (st_.2) h_st nx_st) (ok9, 0) h_21
def B94_21 (R : Value → Heap → Prop) (h : Heap) (i : Int) (next_ : (Int → Heap → Prop)) (h_2 : Heap) (ok8 : Bool) (k4 : Int) (h_19 : Heap) (next_5 : Bool × Int → Heap → Prop) : Prop :=
 BIf ok8 (∃ (t20 : ByteArray), cellH h_19 (Addr.add (Addr.mk (h_2).size 0 none) 2) = some (.string t20) ∧ PIf ((k4 : Int) < ((t20.size : Nat) : Int))
 (J94_17 h_2 k4 next_5 h_19)
 (J94_16 R h i next_ h_2 (ok8) h_19)) (J94_16 R h i next_ h_2 (ok8) h_19)
def J94_23  (h_2 : Heap) (k6 : Int) (next_7 : (Bool × Int → Heap → Prop)) (h_26 : Heap) : Prop :=
 ∃ (t27 : ByteArray), cellH h_26 (Addr.add (Addr.mk (h_2).size 0 none) 2) = some (.string t27) ∧ 0 ≤ (k6 : Int) ∧ (k6 : Int) < (t27.size : Nat) ∧ PIf ((32 : Int) ≤ (byteAt t27 k6))
 (next_7 (true, (IntKind.wrap .i64 (k6 + 1))) h_26)
 (next_7 (false, (IntKind.wrap .i64 (k6 + 1))) h_26)
def J94_25  (h : Heap) (h_2 : Heap) (k7 : Int) (next_8 : (Bool × Int → Heap → Prop)) (h_29 : Heap) : Prop :=
 ∃ (A9 : Option Addr), ∃ (N9 : Nat), ∃ (C9 : Nat), cellH h_29 (Addr.add (Addr.mk (h).size 0 none) 9) = some (.slice A9 N9 C9) ∧ 0 ≤ (k7 : Int) ∧ (k7 : Int) < (N9 : Nat) ∧ AtP A9 fun ad7 => ∃ (t28 : Int), cellH h_29 (Addr.add (Addr.add ad7 (Int.toNat k7 * 3)) 0) = some (.int .u8 t28) ∧ ∃ (t29 : Int), cellH h_29 (Addr.add (Addr.mk (h_2).size 0 none) 0) = some (.int .u8 t29) ∧ PIf ((t28 : Int) = t29)
 (∃ (A10 : Option Addr), ∃ (N10 : Nat), ∃ (C10 : Nat), cellH h_29 (Addr.add (Addr.mk (h).size 0 none) 9) = some (.slice A10 N10 C10) ∧ 0 ≤ (k7 : Int) ∧ (k7 : Int) < (N10 : Nat) ∧ AtP A10 fun ad8 => ∃ (t30 : Int), cellH h_29 (Addr.add (Addr.add ad8 (Int.toNat k7 * 3)) 1) = some (.int .i64 t30) ∧ ∃ (t31 : Int), cellH h_29 (Addr.add (Addr.mk (h_2).size 0 none) 1) = some (.int .i64 t31) ∧ PIf ((t30 : Int) = t31)
 (next_8 (false, (IntKind.wrap .i64 (k7 + 1))) h_29)
 (next_8 (true, (IntKind.wrap .i64 (k7 + 1))) h_29))
 (next_8 (true, (IntKind.wrap .i64 (k7 + 1))) h_29)
def J94_24  (R : Value → Heap → Prop) (i : Int) (next_ : (Int → Heap → Prop)) (ok15 : Bool) (h_30 : Heap) : Prop :=
 BIf (!ok15) (R (.tuple #[(.int .i64 i), (.int .i64 35)]) h_30) (J94_2 i next_ h_30)
def B94_26 (R : Value → Heap → Prop) (h : Heap) (i : Int) (next_ : (Int → Heap → Prop)) (h_2 : Heap) (ok14 : Bool) (k7 : Int) (h_28 : Heap) (next_8 : Bool × Int → Heap → Prop) : Prop :=
 BIf ok14 (PIf ((k7 : Int) < i)
 (J94_25 h h_2 k7 next_8 h_28)
 (J94_24 R i next_ (ok14) h_28)) (J94_24 R i next_ (ok14) h_28)
def J94_22  (R : Value → Heap → Prop) (h : Heap) (i : Int) (next_ : (Int → Heap → Prop)) (h_2 : Heap) (ok13 : Bool) (h_27 : Heap) : Prop :=
 LoopT (σ := Bool × Int) (fun st_ h_st nx_st => B94_26 R h i next_ h_2 (st_.1) (st_.2) h_st nx_st) (ok13, 0) h_27
def B94_27 (R : Value → Heap → Prop) (h : Heap) (i : Int) (next_ : (Int → Heap → Prop)) (h_2 : Heap) (ok12 : Bool) (k6 : Int) (h_25 : Heap) (next_7 : Bool × Int → Heap → Prop) : Prop :=
 BIf ok12 (∃ (t26 : ByteArray), cellH h_25 (Addr.add (Addr.mk (h_2).size 0 none) 2) = some (.string t26) ∧ PIf ((k6 : Int) < ((t26.size : Nat) : Int))
 (J94_23 h_2 k6 next_7 h_25)
 (J94_22 R h i next_ h_2 (ok12) h_25)) (J94_22 R h i next_ h_2 (ok12) h_25)
def J94_29  (h_2 : Heap) (k8 : Int) (next_9 : (Bool × Int → Heap → Prop)) (h_32 : Heap) : Prop :=
 ∃ (t33 : ByteArray), cellH h_32 (Addr.add (Addr.mk (h_2).size 0 none) 2) = some (.string t33) ∧ 0 ≤ (k8 : Int) ∧ (k8 : Int) < (t33.size : Nat) ∧ PIf ((32 : Int) ≤ (byteAt t33 k8))
 (next_9 (true, (IntKind.wrap .i64 (k8 + 1))) h_32)
 (next_9 (false, (IntKind.wrap .i64 (k8 + 1))) h_32)
def J94_31  (h : Heap) (h_2 : Heap) (k9 : Int) (next_10 : (Bool × Int → Heap → Prop)) (h_35 : Heap) : Prop :=
 ∃ (A11 : Option Addr), ∃ (N11 : Nat), ∃ (C11 : Nat), cellH h_35 (Addr.add (Addr.mk (h).size 0 none) 9) = some (.slice A11 N11 C11) ∧ 0 ≤ (k9 : Int) ∧ (k9 : Int) < (N11 : Nat) ∧ AtP A11 fun ad9 => ∃ (t34 : Int), cellH h_35 (Addr.add (Addr.add ad9 (Int.toNat k9 * 3)) 0) = some (.int .u8 t34) ∧ ∃ (t35 : Int), cellH h_35 (Addr.add (Addr.mk (h_2).size 0 none) 0) = some (.int .u8 t35) ∧ PIf ((t34 : Int) = t35)
 (∃ (A12 : Option Addr), ∃ (N12 : Nat), ∃ (C12 : Nat), cellH h_35 (Addr.add (Addr.mk (h).size 0 none) 9) = some (.slice A12 N12 C12) ∧ 0 ≤ (k9 : Int) ∧ (k9 : Int) < (N12 : Nat) ∧ AtP A12 fun ad10 => ∃ (t36 : Int), cellH h_35 (Addr.add (Addr.add ad10 (Int.toNat k9 * 3)) 1) = some (.int .i64 t36) ∧ ∃ (t37 : Int), cellH h_35 (Addr.add (Addr.mk (h_2).size 0 none) 1) = some (.int .i64 t37) ∧ PIf ((t36 : Int) = t37)
 (next_10 (false, (IntKind.wrap .i64 (k9 + 1))) h_35)
 (next_10 (true, (IntKind.wrap .i64 (k9 + 1))) h_35))
 (next_10 (true, (IntKind.wrap .i64 (k9 + 1))) h_35)
def J94_30  (R : Value → Heap → Prop) (i : Int) (next_ : (Int → Heap → Prop)) (ok19 : Bool) (h_36 : Heap) : Prop :=
 BIf (!ok19) (R (.tuple #[(.int .i64 i), (.int .i64 35)]) h_36) (J94_2 i next_ h_36)
def B94_32 (R : Value → Heap → Prop) (h : Heap) (i : Int) (next_ : (Int → Heap → Prop)) (h_2 : Heap) (ok18 : Bool) (k9 : Int) (h_34 : Heap) (next_10 : Bool × Int → Heap → Prop) : Prop :=
 BIf ok18 (PIf ((k9 : Int) < i)
 (J94_31 h h_2 k9 next_10 h_34)
 (J94_30 R i next_ (ok18) h_34)) (J94_30 R i next_ (ok18) h_34)
def J94_28  (R : Value → Heap → Prop) (h : Heap) (i : Int) (next_ : (Int → Heap → Prop)) (h_2 : Heap) (ok17 : Bool) (h_33 : Heap) : Prop :=
 LoopT (σ := Bool × Int) (fun st_ h_st nx_st => B94_32 R h i next_ h_2 (st_.1) (st_.2) h_st nx_st) (ok17, 0) h_33
def B94_33 (R : Value → Heap → Prop) (h : Heap) (i : Int) (next_ : (Int → Heap → Prop)) (h_2 : Heap) (ok16 : Bool) (k8 : Int) (h_31 : Heap) (next_9 : Bool × Int → Heap → Prop) : Prop :=
 BIf ok16 (∃ (t32 : ByteArray), cellH h_31 (Addr.add (Addr.mk (h_2).size 0 none) 2) = some (.string t32) ∧ PIf ((k8 : Int) < ((t32.size : Nat) : Int))
 (J94_29 h_2 k8 next_9 h_31)
 (J94_28 R h i next_ h_2 (ok16) h_31)) (J94_28 R h i next_ h_2 (ok16) h_31)
def J94_3  (R : Value → Heap → Prop) (h : Heap) (i : Int) (next_ : (Int → Heap → Prop)) (h_2 : Heap) (many : Int) (h_5 : Heap) : Prop :=
 ∃ (t4 : Int), cellH h_5 (Addr.add (Addr.mk (h_2).size 0 none) 1) = some (.int .i64 t4) ∧ PIf ((0 : Int) ≤ t4)
 (∃ (t5 : Int), cellH h_5 (Addr.add (Addr.mk (h_2).size 0 none) 1) = some (.int .i64 t5) ∧ PIf ((t5 : Int) < many)
 (∃ (t6 : ByteArray), cellH h_5 (Addr.add (Addr.mk (h_2).size 0 none) 2) = some (.string t6) ∧ PIf ((1 : Int) ≤ ((t6.size : Nat) : Int))
 (∃ (t7 : ByteArray), cellH h_5 (Addr.add (Addr.mk (h_2).size 0 none) 2) = some (.string t7) ∧ PIf ((((t7.size : Nat) : Int) : Int) ≤ 64)
 (LoopT (σ := Bool × Int) (fun st_ h_st nx_st => B94_9 R h i next_ h_2 (st_.1) (st_.2) h_st nx_st) (true, 0) h_5)
 (LoopT (σ := Bool × Int) (fun st_ h_st nx_st => B94_15 R h i next_ h_2 (st_.1) (st_.2) h_st nx_st) (false, 0) h_5))
 (LoopT (σ := Bool × Int) (fun st_ h_st nx_st => B94_21 R h i next_ h_2 (st_.1) (st_.2) h_st nx_st) (false, 0) h_5))
 (LoopT (σ := Bool × Int) (fun st_ h_st nx_st => B94_27 R h i next_ h_2 (st_.1) (st_.2) h_st nx_st) (false, 0) h_5))
 (LoopT (σ := Bool × Int) (fun st_ h_st nx_st => B94_33 R h i next_ h_2 (st_.1) (st_.2) h_st nx_st) (false, 0) h_5)
def J94_1  (R : Value → Heap → Prop) (h : Heap) (i : Int) (next_ : (Int → Heap → Prop)) (h_2 : Heap) : Prop :=
 ∃ (A1 : Option Addr), ∃ (N1 : Nat), ∃ (C1 : Nat), cellH h_2 (Addr.add (Addr.mk (h).size 0 none) 9) = some (.slice A1 N1 C1) ∧ 0 ≤ (i : Int) ∧ (i : Int) < (N1 : Nat) ∧ AtP A1 fun ad => ∃ (t : Int), ∃ (t1 : Int), ∃ (t2 : ByteArray), cellsH h_2 (Addr.add ad (Int.toNat i * 3)) 0 [(.int .u8 t), (.int .i64 t1), (.string t2)] ∧ let h_3 : Heap := (h_2).push (.cells #[(.int .u8 0), (.int .i64 0), (.string (ByteArray.mk #[]))] 103); StoreH h_3 (Addr.mk (h_2).size 0 none) [(.int .u8 t), (.int .i64 t1), (.string t2)] fun h_4 => ∃ (t3 : Int), cellH h_4 (Addr.add (Addr.mk (h_2).size 0 none) 0) = some (.int .u8 t3) ∧ PIf ((t3 : Int) = 105)
 (∃ (A2 : Option Addr), ∃ (N2 : Nat), ∃ (C2 : Nat), cellH h_4 (Addr.add (Addr.mk (h).size 0 none) 1) = some (.slice A2 N2 C2) ∧ J94_3 R h i next_ h_2 (((N2 : Nat) : Int)) h_4)
 (PIf ((t3 : Int) = 108)
 (∃ (A13 : Option Addr), ∃ (N13 : Nat), ∃ (C13 : Nat), cellH h_4 (Addr.add (Addr.mk (h).size 0 none) 2) = some (.slice A13 N13 C13) ∧ J94_3 R h i next_ h_2 (((N13 : Nat) : Int)) h_4)
 (PIf ((t3 : Int) = 111)
 (∃ (A14 : Option Addr), ∃ (N14 : Nat), ∃ (C14 : Nat), cellH h_4 (Addr.add (Addr.mk (h).size 0 none) 3) = some (.slice A14 N14 C14) ∧ J94_3 R h i next_ h_2 (((N14 : Nat) : Int)) h_4)
 (PIf ((t3 : Int) = 98)
 (∃ (A15 : Option Addr), ∃ (N15 : Nat), ∃ (C15 : Nat), cellH h_4 (Addr.add (Addr.mk (h).size 0 none) 4) = some (.slice A15 N15 C15) ∧ J94_3 R h i next_ h_2 (((N15 : Nat) : Int)) h_4)
 (PIf ((t3 : Int) = 99)
 (∃ (A16 : Option Addr), ∃ (N16 : Nat), ∃ (C16 : Nat), cellH h_4 (Addr.add (Addr.mk (h).size 0 none) 5) = some (.slice A16 N16 C16) ∧ J94_3 R h i next_ h_2 (((N16 : Nat) : Int)) h_4)
 (PIf ((t3 : Int) = 106)
 (∃ (A17 : Option Addr), ∃ (N17 : Nat), ∃ (C17 : Nat), cellH h_4 (Addr.add (Addr.mk (h).size 0 none) 6) = some (.slice A17 N17 C17) ∧ J94_3 R h i next_ h_2 (((N17 : Nat) : Int)) h_4)
 (PIf ((t3 : Int) = 102)
 (∃ (A18 : Option Addr), ∃ (N18 : Nat), ∃ (C18 : Nat), cellH h_4 (Addr.add (Addr.mk (h).size 0 none) 7) = some (.slice A18 N18 C18) ∧ J94_3 R h i next_ h_2 (((N18 : Nat) : Int)) h_4)
 (J94_3 R h i next_ h_2 ((-1)) h_4)))))))
def J94_0  (R : Value → Heap → Prop) (h_37 : Heap) : Prop :=
 R (.tuple #[(.int .i64 0), (.int .i64 0)]) h_37
def B94_34 (R : Value → Heap → Prop) (h : Heap) (i : Int) (h_1 : Heap) (next_ : Int → Heap → Prop) : Prop :=
 ∃ (A : Option Addr), ∃ (N : Nat), ∃ (C : Nat), cellH h_1 (Addr.add (Addr.mk (h).size 0 none) 9) = some (.slice A N C) ∧ PIf ((i : Int) < ((N : Nat) : Int))
 (J94_1 R h i next_ h_1)
 (J94_0 R h_1)
def VC94 (P : Program) (c : Int) (cA : Option Addr) (cN : Nat) (cC : Nat) (cA1 : Option Addr) (cN1 : Nat) (cC1 : Nat) (cA2 : Option Addr) (cN2 : Nat) (cC2 : Nat) (cA3 : Option Addr) (cN3 : Nat) (cC3 : Nat) (cA4 : Option Addr) (cN4 : Nat) (cC4 : Nat) (cA5 : Option Addr) (cN5 : Nat) (cC5 : Nat) (cA6 : Option Addr) (cN6 : Nat) (cC6 : Nat) (cA7 : Option Addr) (cN7 : Nat) (cC7 : Nat) (cA8 : Option Addr) (cN8 : Nat) (cC8 : Nat) (cA9 : Option Addr) (cN9 : Nat) (cC9 : Nat) (R : Value → Heap → Prop) (h : Heap) : Prop :=
 let h_ : Heap := (h).push (.cells (Value.cells (.agg #[(.int .i64 c), (.slice cA cN cC), (.slice cA1 cN1 cC1), (.slice cA2 cN2 cC2), (.slice cA3 cN3 cC3), (.slice cA4 cN4 cC4), (.slice cA5 cN5 cC5), (.slice cA6 cN6 cC6), (.slice cA7 cN7 cC7), (.slice cA8 cN8 cC8), (.slice cA9 cN9 cC9)])) 29); LoopT (σ := Int) (fun st_ h_st nx_st => B94_34 R h (st_) h_st nx_st) (0) h_
theorem vc94 (P : Program) (c : Int) (cA : Option Addr) (cN : Nat) (cC : Nat) (cA1 : Option Addr) (cN1 : Nat) (cC1 : Nat) (cA2 : Option Addr) (cN2 : Nat) (cC2 : Nat) (cA3 : Option Addr) (cN3 : Nat) (cC3 : Nat) (cA4 : Option Addr) (cN4 : Nat) (cC4 : Nat) (cA5 : Option Addr) (cN5 : Nat) (cC5 : Nat) (cA6 : Option Addr) (cN6 : Nat) (cC6 : Nat) (cA7 : Option Addr) (cN7 : Nat) (cC7 : Nat) (cA8 : Option Addr) (cN8 : Nat) (cC8 : Nat) (cA9 : Option Addr) (cN9 : Nat) (cC9 : Nat) (R : Value → Heap → Prop) (h : Heap) : fnC P ret94 code94 [(.agg #[(.int .i64 c), (.slice cA cN cC), (.slice cA1 cN1 cC1), (.slice cA2 cN2 cC2), (.slice cA3 cN3 cC3), (.slice cA4 cN4 cC4), (.slice cA5 cN5 cC5), (.slice cA6 cN6 cC6), (.slice cA7 cN7 cC7), (.slice cA8 cN8 cC8), (.slice cA9 cN9 cC9)])] h R = VC94 P c cA cN cC cA1 cN1 cC1 cA2 cN2 cC2 cA3 cN3 cC3 cA4 cN4 cC4 cA5 cN5 cC5 cA6 cN6 cC6 cA7 cN7 cC7 cA8 cN8 cC8 cA9 cN9 cC9 R h := by kernel_rfl
theorem run94 (c : Int) (cA : Option Addr) (cN : Nat) (cC : Nat) (cA1 : Option Addr) (cN1 : Nat) (cC1 : Nat) (cA2 : Option Addr) (cN2 : Nat) (cC2 : Nat) (cA3 : Option Addr) (cN3 : Nat) (cC3 : Nat) (cA4 : Option Addr) (cN4 : Nat) (cC4 : Nat) (cA5 : Option Addr) (cN5 : Nat) (cC5 : Nat) (cA6 : Option Addr) (cN6 : Nat) (cC6 : Nat) (cA7 : Option Addr) (cN7 : Nat) (cC7 : Nat) (cA8 : Option Addr) (cN8 : Nat) (cC8 : Nat) (cA9 : Option Addr) (cN9 : Nat) (cC9 : Nat) (R : Value → Heap → Prop) (h : Heap) (hv : VC94 Try.prog c cA cN cC cA1 cN1 cC1 cA2 cN2 cC2 cA3 cN3 cC3 cA4 cN4 cC4 cA5 cN5 cC5 cA6 cN6 cC6 cA7 cN7 cC7 cA8 cN8 cC8 cA9 cN9 cC9 R h) : CallsH Try.prog 94 #[(.agg #[(.int .i64 c), (.slice cA cN cC), (.slice cA1 cN1 cC1), (.slice cA2 cN2 cC2), (.slice cA3 cN3 cC3), (.slice cA4 cN4 cC4), (.slice cA5 cN5 cC5), (.slice cA6 cN6 cC6), (.slice cA7 cN7 cC7), (.slice cA8 cN8 cC8), (.slice cA9 cN9 cC9)])] h R := calls_of_fnC (Checked.mixed Try.checked) Try.func94 comp94 (Nat.le_of_ble_eq_true rfl) (by rw [vc94]; exact hv)

/-! 124: trestle/trestleref03.one -/
def code124 : SCode := (.seq (.region .txt [⟨(some 3), .box 29 (.tmp 0), none⟩,
  ⟨(some 6), .mv (.const (.int .i64 0)), none⟩]) (.seq (.seq (.region .txt [⟨(some 7), .mv (.tmp 2), none⟩,
  ⟨(some 8), .icmp .lss .i64 (.tmp 7) (.const (.int .i64 2)), none⟩,
  ⟨(some 9), .mv (.tmp 8), none⟩,
  ⟨(some 10), .mv (.tmp 2), (some (9, false))⟩,
  ⟨(some 11), .divc .rem .i64 (.tmp 10) 2, (some (9, false))⟩,
  ⟨(some 12), .icmp .eql .i64 (.tmp 11) (.const (.int .i64 1)), (some (9, false))⟩,
  ⟨(some 13), .pick (.tmp 9) (.const (.bool true)) (.tmp 12), none⟩,
  ⟨(some 14), .mv (.tmp 13), none⟩,
  ⟨(some 15), .mv (.tmp 2), (some (14, false))⟩,
  ⟨(some 16), .fldA 0 (.tmp 3), (some (14, false))⟩,
  ⟨(some 17), .ld (.int .i64) (.tmp 16), (some (14, false))⟩,
  ⟨(some 18), .arith .mul .i64 (.const (.int .i64 2)) (.tmp 17), (some (14, false))⟩,
  ⟨(some 19), .icmp .gtr .i64 (.tmp 15) (.tmp 18), (some (14, false))⟩,
  ⟨(some 20), .pick (.tmp 14) (.const (.bool true)) (.tmp 19), none⟩]) (.cond (.tmp 20) (.seq (.region .txt [⟨(some 6), .mv (.const (.int .i64 30)), none⟩]) .ret) .skip)) (.seq (.seq (.region .txt [⟨(some 21), .mv (.tmp 1), none⟩,
  ⟨(some 22), .mv (.tmp 2), none⟩,
  ⟨(some 23), .divc .quo .i64 (.tmp 22) 2, none⟩,
  ⟨(some 24), .idxA 1 (.tmp 21) (.tmp 23), none⟩,
  ⟨(some 25), .ld (.bool) (.tmp 24), none⟩]) (.cond (.tmp 25) (.seq (.region .txt [⟨(some 6), .mv (.const (.int .i64 31)), none⟩]) .ret) .skip)) (.seq (.region .txt [⟨(some 26), .mv (.tmp 1), none⟩,
  ⟨(some 27), .mv (.tmp 2), none⟩,
  ⟨(some 28), .divc .quo .i64 (.tmp 27) 2, none⟩,
  ⟨(some 29), .idxA 1 (.tmp 26) (.tmp 28), none⟩,
  ⟨none, .st 1 (.tmp 29) (.const (.bool true)), none⟩]) (.seq (.region .txt [⟨(some 6), .mv (.const (.int .i64 0)), none⟩]) .ret)))))
def loops124 : List (List (Nat × Shp)) := []
def ret124 : List RV := [.tmp 6]
theorem comp124 : compF Try.prog Try.f124 loops124 = some (30, ret124, code124) := by kernel_rfl
def J124_0  (R : Value → Heap → Prop) (definedA : (Option Addr)) (definedN : Nat) (l : Int) (h_1 : Heap) : Prop :=
 0 ≤ ((IntKind.wrap .i64 (Int.tdiv l 2)) : Int) ∧ ((IntKind.wrap .i64 (Int.tdiv l 2)) : Int) < (definedN : Nat) ∧ AtP definedA fun ad => ∃ (t1 : Bool), cellH h_1 (Addr.add ad (Int.toNat (IntKind.wrap .i64 (Int.tdiv l 2)) * 1)) = some (.bool t1) ∧ BIf t1 (R (.int .i64 31) h_1) (0 ≤ ((IntKind.wrap .i64 (Int.tdiv l 2)) : Int) ∧ ((IntKind.wrap .i64 (Int.tdiv l 2)) : Int) < (definedN : Nat) ∧ AtP definedA fun ad1 => StoreH h_1 (Addr.add ad1 (Int.toNat (IntKind.wrap .i64 (Int.tdiv l 2)) * 1)) [(.bool true)] fun h_2 => R (.int .i64 0) h_2)
def VC124 (P : Program) (c : Int) (cA : Option Addr) (cN : Nat) (cC : Nat) (cA1 : Option Addr) (cN1 : Nat) (cC1 : Nat) (cA2 : Option Addr) (cN2 : Nat) (cC2 : Nat) (cA3 : Option Addr) (cN3 : Nat) (cC3 : Nat) (cA4 : Option Addr) (cN4 : Nat) (cC4 : Nat) (cA5 : Option Addr) (cN5 : Nat) (cC5 : Nat) (cA6 : Option Addr) (cN6 : Nat) (cC6 : Nat) (cA7 : Option Addr) (cN7 : Nat) (cC7 : Nat) (cA8 : Option Addr) (cN8 : Nat) (cC8 : Nat) (cA9 : Option Addr) (cN9 : Nat) (cC9 : Nat) (definedA : Option Addr) (definedN : Nat) (definedC : Nat) (l : Int) (R : Value → Heap → Prop) (h : Heap) : Prop :=
 let h_ : Heap := (h).push (.cells (Value.cells (.agg #[(.int .i64 c), (.slice cA cN cC), (.slice cA1 cN1 cC1), (.slice cA2 cN2 cC2), (.slice cA3 cN3 cC3), (.slice cA4 cN4 cC4), (.slice cA5 cN5 cC5), (.slice cA6 cN6 cC6), (.slice cA7 cN7 cC7), (.slice cA8 cN8 cC8), (.slice cA9 cN9 cC9)])) 29); PIf ((l : Int) < 2)
 (R (.int .i64 30) h_)
 (PIf (((Int.tmod l 2) : Int) = 1)
 (R (.int .i64 30) h_)
 (∃ (t : Int), cellH h_ (Addr.add (Addr.mk (h).size 0 none) 0) = some (.int .i64 t) ∧ PIf (((IntKind.wrap .i64 (2 * t)) : Int) < l)
 (R (.int .i64 30) h_)
 (J124_0 R definedA definedN l h_)))
theorem vc124 (P : Program) (c : Int) (cA : Option Addr) (cN : Nat) (cC : Nat) (cA1 : Option Addr) (cN1 : Nat) (cC1 : Nat) (cA2 : Option Addr) (cN2 : Nat) (cC2 : Nat) (cA3 : Option Addr) (cN3 : Nat) (cC3 : Nat) (cA4 : Option Addr) (cN4 : Nat) (cC4 : Nat) (cA5 : Option Addr) (cN5 : Nat) (cC5 : Nat) (cA6 : Option Addr) (cN6 : Nat) (cC6 : Nat) (cA7 : Option Addr) (cN7 : Nat) (cC7 : Nat) (cA8 : Option Addr) (cN8 : Nat) (cC8 : Nat) (cA9 : Option Addr) (cN9 : Nat) (cC9 : Nat) (definedA : Option Addr) (definedN : Nat) (definedC : Nat) (l : Int) (R : Value → Heap → Prop) (h : Heap) : fnC P ret124 code124 [(.agg #[(.int .i64 c), (.slice cA cN cC), (.slice cA1 cN1 cC1), (.slice cA2 cN2 cC2), (.slice cA3 cN3 cC3), (.slice cA4 cN4 cC4), (.slice cA5 cN5 cC5), (.slice cA6 cN6 cC6), (.slice cA7 cN7 cC7), (.slice cA8 cN8 cC8), (.slice cA9 cN9 cC9)]), (.slice definedA definedN definedC), (.int .i64 l)] h R = VC124 P c cA cN cC cA1 cN1 cC1 cA2 cN2 cC2 cA3 cN3 cC3 cA4 cN4 cC4 cA5 cN5 cC5 cA6 cN6 cC6 cA7 cN7 cC7 cA8 cN8 cC8 cA9 cN9 cC9 definedA definedN definedC l R h := by kernel_rfl
theorem run124 (c : Int) (cA : Option Addr) (cN : Nat) (cC : Nat) (cA1 : Option Addr) (cN1 : Nat) (cC1 : Nat) (cA2 : Option Addr) (cN2 : Nat) (cC2 : Nat) (cA3 : Option Addr) (cN3 : Nat) (cC3 : Nat) (cA4 : Option Addr) (cN4 : Nat) (cC4 : Nat) (cA5 : Option Addr) (cN5 : Nat) (cC5 : Nat) (cA6 : Option Addr) (cN6 : Nat) (cC6 : Nat) (cA7 : Option Addr) (cN7 : Nat) (cC7 : Nat) (cA8 : Option Addr) (cN8 : Nat) (cC8 : Nat) (cA9 : Option Addr) (cN9 : Nat) (cC9 : Nat) (definedA : Option Addr) (definedN : Nat) (definedC : Nat) (l : Int) (R : Value → Heap → Prop) (h : Heap) (hv : VC124 Try.prog c cA cN cC cA1 cN1 cC1 cA2 cN2 cC2 cA3 cN3 cC3 cA4 cN4 cC4 cA5 cN5 cC5 cA6 cN6 cC6 cA7 cN7 cC7 cA8 cN8 cC8 cA9 cN9 cC9 definedA definedN definedC l R h) : CallsH Try.prog 124 #[(.agg #[(.int .i64 c), (.slice cA cN cC), (.slice cA1 cN1 cC1), (.slice cA2 cN2 cC2), (.slice cA3 cN3 cC3), (.slice cA4 cN4 cC4), (.slice cA5 cN5 cC5), (.slice cA6 cN6 cC6), (.slice cA7 cN7 cC7), (.slice cA8 cN8 cC8), (.slice cA9 cN9 cC9)]), (.slice definedA definedN definedC), (.int .i64 l)] h R := calls_of_fnC (Checked.mixed Try.checked) Try.func124 comp124 (Nat.le_of_ble_eq_true rfl) (by rw [vc124]; exact hv)

/-! 125: trestle/trestleref03.used -/
def code125 : SCode := (.seq (.region .txt [⟨(some 3), .box 29 (.tmp 0), none⟩,
  ⟨(some 6), .mv (.const (.int .i64 0)), none⟩]) (.seq (.seq (.region .txt [⟨(some 7), .mv (.tmp 2), none⟩,
  ⟨(some 8), .icmp .lss .i64 (.tmp 7) (.const (.int .i64 0)), none⟩,
  ⟨(some 9), .mv (.tmp 8), none⟩,
  ⟨(some 10), .mv (.tmp 2), (some (9, false))⟩,
  ⟨(some 11), .fldA 0 (.tmp 3), (some (9, false))⟩,
  ⟨(some 12), .ld (.int .i64) (.tmp 11), (some (9, false))⟩,
  ⟨(some 13), .arith .mul .i64 (.const (.int .i64 2)) (.tmp 12), (some (9, false))⟩,
  ⟨(some 14), .arith .add .i64 (.tmp 13) (.const (.int .i64 1)), (some (9, false))⟩,
  ⟨(some 15), .icmp .gtr .i64 (.tmp 10) (.tmp 14), (some (9, false))⟩,
  ⟨(some 16), .pick (.tmp 9) (.const (.bool true)) (.tmp 15), none⟩]) (.cond (.tmp 16) (.seq (.region .txt [⟨(some 6), .mv (.const (.int .i64 30)), none⟩]) .ret) .skip)) (.seq (.seq (.region .txt [⟨(some 17), .mv (.tmp 1), none⟩,
  ⟨(some 18), .mv (.tmp 2), none⟩,
  ⟨(some 19), .divc .quo .i64 (.tmp 18) 2, none⟩,
  ⟨(some 20), .idxA 1 (.tmp 17) (.tmp 19), none⟩,
  ⟨(some 21), .ld (.bool) (.tmp 20), none⟩,
  ⟨(some 22), .not (.tmp 21), none⟩]) (.cond (.tmp 22) (.seq (.region .txt [⟨(some 6), .mv (.const (.int .i64 32)), none⟩]) .ret) .skip)) (.seq (.region .txt [⟨(some 6), .mv (.const (.int .i64 0)), none⟩]) .ret))))
def loops125 : List (List (Nat × Shp)) := []
def ret125 : List RV := [.tmp 6]
theorem comp125 : compF Try.prog Try.f125 loops125 = some (23, ret125, code125) := by kernel_rfl
def J125_0  (R : Value → Heap → Prop) (definedA : (Option Addr)) (definedN : Nat) (l : Int) (h_1 : Heap) : Prop :=
 0 ≤ ((IntKind.wrap .i64 (Int.tdiv l 2)) : Int) ∧ ((IntKind.wrap .i64 (Int.tdiv l 2)) : Int) < (definedN : Nat) ∧ AtP definedA fun ad => ∃ (t1 : Bool), cellH h_1 (Addr.add ad (Int.toNat (IntKind.wrap .i64 (Int.tdiv l 2)) * 1)) = some (.bool t1) ∧ BIf (!t1) (R (.int .i64 32) h_1) (R (.int .i64 0) h_1)
def VC125 (P : Program) (c : Int) (cA : Option Addr) (cN : Nat) (cC : Nat) (cA1 : Option Addr) (cN1 : Nat) (cC1 : Nat) (cA2 : Option Addr) (cN2 : Nat) (cC2 : Nat) (cA3 : Option Addr) (cN3 : Nat) (cC3 : Nat) (cA4 : Option Addr) (cN4 : Nat) (cC4 : Nat) (cA5 : Option Addr) (cN5 : Nat) (cC5 : Nat) (cA6 : Option Addr) (cN6 : Nat) (cC6 : Nat) (cA7 : Option Addr) (cN7 : Nat) (cC7 : Nat) (cA8 : Option Addr) (cN8 : Nat) (cC8 : Nat) (cA9 : Option Addr) (cN9 : Nat) (cC9 : Nat) (definedA : Option Addr) (definedN : Nat) (definedC : Nat) (l : Int) (R : Value → Heap → Prop) (h : Heap) : Prop :=
 let h_ : Heap := (h).push (.cells (Value.cells (.agg #[(.int .i64 c), (.slice cA cN cC), (.slice cA1 cN1 cC1), (.slice cA2 cN2 cC2), (.slice cA3 cN3 cC3), (.slice cA4 cN4 cC4), (.slice cA5 cN5 cC5), (.slice cA6 cN6 cC6), (.slice cA7 cN7 cC7), (.slice cA8 cN8 cC8), (.slice cA9 cN9 cC9)])) 29); PIf ((l : Int) < 0)
 (R (.int .i64 30) h_)
 (∃ (t : Int), cellH h_ (Addr.add (Addr.mk (h).size 0 none) 0) = some (.int .i64 t) ∧ PIf (((IntKind.wrap .i64 ((IntKind.wrap .i64 (2 * t)) + 1)) : Int) < l)
 (R (.int .i64 30) h_)
 (J125_0 R definedA definedN l h_))
theorem vc125 (P : Program) (c : Int) (cA : Option Addr) (cN : Nat) (cC : Nat) (cA1 : Option Addr) (cN1 : Nat) (cC1 : Nat) (cA2 : Option Addr) (cN2 : Nat) (cC2 : Nat) (cA3 : Option Addr) (cN3 : Nat) (cC3 : Nat) (cA4 : Option Addr) (cN4 : Nat) (cC4 : Nat) (cA5 : Option Addr) (cN5 : Nat) (cC5 : Nat) (cA6 : Option Addr) (cN6 : Nat) (cC6 : Nat) (cA7 : Option Addr) (cN7 : Nat) (cC7 : Nat) (cA8 : Option Addr) (cN8 : Nat) (cC8 : Nat) (cA9 : Option Addr) (cN9 : Nat) (cC9 : Nat) (definedA : Option Addr) (definedN : Nat) (definedC : Nat) (l : Int) (R : Value → Heap → Prop) (h : Heap) : fnC P ret125 code125 [(.agg #[(.int .i64 c), (.slice cA cN cC), (.slice cA1 cN1 cC1), (.slice cA2 cN2 cC2), (.slice cA3 cN3 cC3), (.slice cA4 cN4 cC4), (.slice cA5 cN5 cC5), (.slice cA6 cN6 cC6), (.slice cA7 cN7 cC7), (.slice cA8 cN8 cC8), (.slice cA9 cN9 cC9)]), (.slice definedA definedN definedC), (.int .i64 l)] h R = VC125 P c cA cN cC cA1 cN1 cC1 cA2 cN2 cC2 cA3 cN3 cC3 cA4 cN4 cC4 cA5 cN5 cC5 cA6 cN6 cC6 cA7 cN7 cC7 cA8 cN8 cC8 cA9 cN9 cC9 definedA definedN definedC l R h := by kernel_rfl
theorem run125 (c : Int) (cA : Option Addr) (cN : Nat) (cC : Nat) (cA1 : Option Addr) (cN1 : Nat) (cC1 : Nat) (cA2 : Option Addr) (cN2 : Nat) (cC2 : Nat) (cA3 : Option Addr) (cN3 : Nat) (cC3 : Nat) (cA4 : Option Addr) (cN4 : Nat) (cC4 : Nat) (cA5 : Option Addr) (cN5 : Nat) (cC5 : Nat) (cA6 : Option Addr) (cN6 : Nat) (cC6 : Nat) (cA7 : Option Addr) (cN7 : Nat) (cC7 : Nat) (cA8 : Option Addr) (cN8 : Nat) (cC8 : Nat) (cA9 : Option Addr) (cN9 : Nat) (cC9 : Nat) (definedA : Option Addr) (definedN : Nat) (definedC : Nat) (l : Int) (R : Value → Heap → Prop) (h : Heap) (hv : VC125 Try.prog c cA cN cC cA1 cN1 cC1 cA2 cN2 cC2 cA3 cN3 cC3 cA4 cN4 cC4 cA5 cN5 cC5 cA6 cN6 cC6 cA7 cN7 cC7 cA8 cN8 cC8 cA9 cN9 cC9 definedA definedN definedC l R h) : CallsH Try.prog 125 #[(.agg #[(.int .i64 c), (.slice cA cN cC), (.slice cA1 cN1 cC1), (.slice cA2 cN2 cC2), (.slice cA3 cN3 cC3), (.slice cA4 cN4 cC4), (.slice cA5 cN5 cC5), (.slice cA6 cN6 cC6), (.slice cA7 cN7 cC7), (.slice cA8 cN8 cC8), (.slice cA9 cN9 cC9)]), (.slice definedA definedN definedC), (.int .i64 l)] h R := calls_of_fnC (Checked.mixed Try.checked) Try.func125 comp125 (Nat.le_of_ble_eq_true rfl) (by rw [vc125]; exact hv)

/-! 126: trestle/trestleref03.usedAll -/
def code126 : SCode := (.seq (.region .txt [⟨(some 3), .box 29 (.tmp 0), none⟩,
  ⟨(some 6), .mv (.const (.int .i64 0)), none⟩,
  ⟨(some 7), .mv (.const (.int .i64 0)), none⟩]) (.seq (.seq (.region .txt [⟨(some 8), .mv (.const (.int .i64 0)), none⟩]) (.block 0 (.loop [(8, .int .i64)] [10, 11, 12, 13, 16, 17, 18, 19, 20, 21, 22, 9, 23, 24, 25, 26, 6, 7, 14, 15, 8] (.seq (.seq (.region .txt [⟨(some 10), .mv (.tmp 8), none⟩,
  ⟨(some 11), .mv (.tmp 2), none⟩,
  ⟨(some 12), .len (.tmp 11), none⟩,
  ⟨(some 13), .icmp .lss .i64 (.tmp 10) (.tmp 12), none⟩]) (.cond (.tmp 13) .skip (.exit 0))) (.seq (.block 1 (.seq (.region .txt [⟨(some 16), .ldn [.int .i64, .slice, .slice, .slice, .slice, .slice, .slice, .slice, .slice, .slice, .slice] (.tmp 3), none⟩,
  ⟨(some 17), .mv (.tmp 1), none⟩,
  ⟨(some 18), .mv (.tmp 2), none⟩,
  ⟨(some 19), .mv (.tmp 8), none⟩,
  ⟨(some 20), .idxA 1 (.tmp 18) (.tmp 19), none⟩,
  ⟨(some 21), .ld (.int .i64) (.tmp 20), none⟩,
  ⟨(some 22), .call 125 [(.tmp 16), (.tmp 17), (.tmp 21)] (.val (.one (.int .i64))), none⟩,
  ⟨(some 9), .mv (.tmp 22), none⟩]) (.seq (.region .txt [⟨(some 23), .mv (.tmp 9), none⟩,
  ⟨(some 24), .icmp .neq .i64 (.tmp 23) (.const (.int .i64 0)), none⟩]) (.cond (.tmp 24) (.seq (.region .txt [⟨(some 25), .mv (.tmp 8), none⟩,
  ⟨(some 26), .mv (.tmp 9), none⟩,
  ⟨(some 6), .mv (.tmp 25), none⟩,
  ⟨(some 7), .mv (.tmp 26), none⟩]) .ret) .skip)))) (.region .txt [⟨(some 14), .mv (.tmp 8), none⟩,
  ⟨(some 15), .arith .add .i64 (.tmp 14) (.const (.int .i64 1)), none⟩,
  ⟨(some 8), .mv (.tmp 15), none⟩])))))) (.seq (.region .txt [⟨(some 6), .mv (.const (.int .i64 0)), none⟩,
  ⟨(some 7), .mv (.const (.int .i64 0)), none⟩]) .ret)))
def loops126 : List (List (Nat × Shp)) := [[(8, .int .i64)]]
def ret126 : List RV := [.tmp 6, .tmp 7]
theorem comp126 : compF Try.prog Try.f126 loops126 = some (27, ret126, code126) := by kernel_rfl
def J126_1  (P : Program) (R : Value → Heap → Prop) (h : Heap) (definedA : (Option Addr)) (definedN : Nat) (definedC : Nat) (lA : (Option Addr)) (lN : Nat) (i : Int) (next_ : (Int → Heap → Prop)) (h_2 : Heap) : Prop :=
 ∃ (t : Int), ∃ (A : Option Addr), ∃ (N : Nat), ∃ (C : Nat), ∃ (A1 : Option Addr), ∃ (N1 : Nat), ∃ (C1 : Nat), ∃ (A2 : Option Addr), ∃ (N2 : Nat), ∃ (C2 : Nat), ∃ (A3 : Option Addr), ∃ (N3 : Nat), ∃ (C3 : Nat), ∃ (A4 : Option Addr), ∃ (N4 : Nat), ∃ (C4 : Nat), ∃ (A5 : Option Addr), ∃ (N5 : Nat), ∃ (C5 : Nat), ∃ (A6 : Option Addr), ∃ (N6 : Nat), ∃ (C6 : Nat), ∃ (A7 : Option Addr), ∃ (N7 : Nat), ∃ (C7 : Nat), ∃ (A8 : Option Addr), ∃ (N8 : Nat), ∃ (C8 : Nat), ∃ (A9 : Option Addr), ∃ (N9 : Nat), ∃ (C9 : Nat), cellsH h_2 (Addr.mk (h).size 0 none) 0 [(.int .i64 t), (.slice A N C), (.slice A1 N1 C1), (.slice A2 N2 C2), (.slice A3 N3 C3), (.slice A4 N4 C4), (.slice A5 N5 C5), (.slice A6 N6 C6), (.slice A7 N7 C7), (.slice A8 N8 C8), (.slice A9 N9 C9)] ∧ 0 ≤ (i : Int) ∧ (i : Int) < (lN : Nat) ∧ AtP lA fun ad => ∃ (t1 : Int), cellH h_2 (Addr.add ad (Int.toNat i * 1)) = some (.int .i64 t1) ∧ CallsH P 125 #[(.agg #[(.int .i64 t), (.slice A N C), (.slice A1 N1 C1), (.slice A2 N2 C2), (.slice A3 N3 C3), (.slice A4 N4 C4), (.slice A5 N5 C5), (.slice A6 N6 C6), (.slice A7 N7 C7), (.slice A8 N8 C8), (.slice A9 N9 C9)]), (.slice definedA definedN definedC), (.int .i64 t1)] h_2 fun v h_3 =>
 ∃ (t2 : Int), v = (.int .i64 t2) ∧ PIf ((t2 : Int) = 0)
 (next_ ((IntKind.wrap .i64 (i + 1))) h_3)
 (R (.tuple #[(.int .i64 i), (.int .i64 t2)]) h_3)
def J126_0  (R : Value → Heap → Prop) (h_4 : Heap) : Prop :=
 R (.tuple #[(.int .i64 0), (.int .i64 0)]) h_4
def B126_2 (P : Program) (R : Value → Heap → Prop) (h : Heap) (definedA : (Option Addr)) (definedN : Nat) (definedC : Nat) (lA : (Option Addr)) (lN : Nat) (i : Int) (h_1 : Heap) (next_ : Int → Heap → Prop) : Prop :=
 PIf ((i : Int) < ((lN : Nat) : Int))
 (J126_1 P R h definedA definedN definedC lA lN i next_ h_1)
 (J126_0 R h_1)
def VC126 (P : Program) (c : Int) (cA : Option Addr) (cN : Nat) (cC : Nat) (cA1 : Option Addr) (cN1 : Nat) (cC1 : Nat) (cA2 : Option Addr) (cN2 : Nat) (cC2 : Nat) (cA3 : Option Addr) (cN3 : Nat) (cC3 : Nat) (cA4 : Option Addr) (cN4 : Nat) (cC4 : Nat) (cA5 : Option Addr) (cN5 : Nat) (cC5 : Nat) (cA6 : Option Addr) (cN6 : Nat) (cC6 : Nat) (cA7 : Option Addr) (cN7 : Nat) (cC7 : Nat) (cA8 : Option Addr) (cN8 : Nat) (cC8 : Nat) (cA9 : Option Addr) (cN9 : Nat) (cC9 : Nat) (definedA : Option Addr) (definedN : Nat) (definedC : Nat) (lA : Option Addr) (lN : Nat) (lC : Nat) (R : Value → Heap → Prop) (h : Heap) : Prop :=
 let h_ : Heap := (h).push (.cells (Value.cells (.agg #[(.int .i64 c), (.slice cA cN cC), (.slice cA1 cN1 cC1), (.slice cA2 cN2 cC2), (.slice cA3 cN3 cC3), (.slice cA4 cN4 cC4), (.slice cA5 cN5 cC5), (.slice cA6 cN6 cC6), (.slice cA7 cN7 cC7), (.slice cA8 cN8 cC8), (.slice cA9 cN9 cC9)])) 29); LoopT (σ := Int) (fun st_ h_st nx_st => B126_2 P R h definedA definedN definedC lA lN (st_) h_st nx_st) (0) h_
theorem vc126 (P : Program) (c : Int) (cA : Option Addr) (cN : Nat) (cC : Nat) (cA1 : Option Addr) (cN1 : Nat) (cC1 : Nat) (cA2 : Option Addr) (cN2 : Nat) (cC2 : Nat) (cA3 : Option Addr) (cN3 : Nat) (cC3 : Nat) (cA4 : Option Addr) (cN4 : Nat) (cC4 : Nat) (cA5 : Option Addr) (cN5 : Nat) (cC5 : Nat) (cA6 : Option Addr) (cN6 : Nat) (cC6 : Nat) (cA7 : Option Addr) (cN7 : Nat) (cC7 : Nat) (cA8 : Option Addr) (cN8 : Nat) (cC8 : Nat) (cA9 : Option Addr) (cN9 : Nat) (cC9 : Nat) (definedA : Option Addr) (definedN : Nat) (definedC : Nat) (lA : Option Addr) (lN : Nat) (lC : Nat) (R : Value → Heap → Prop) (h : Heap) : fnC P ret126 code126 [(.agg #[(.int .i64 c), (.slice cA cN cC), (.slice cA1 cN1 cC1), (.slice cA2 cN2 cC2), (.slice cA3 cN3 cC3), (.slice cA4 cN4 cC4), (.slice cA5 cN5 cC5), (.slice cA6 cN6 cC6), (.slice cA7 cN7 cC7), (.slice cA8 cN8 cC8), (.slice cA9 cN9 cC9)]), (.slice definedA definedN definedC), (.slice lA lN lC)] h R = VC126 P c cA cN cC cA1 cN1 cC1 cA2 cN2 cC2 cA3 cN3 cC3 cA4 cN4 cC4 cA5 cN5 cC5 cA6 cN6 cC6 cA7 cN7 cC7 cA8 cN8 cC8 cA9 cN9 cC9 definedA definedN definedC lA lN lC R h := by kernel_rfl
theorem run126 (c : Int) (cA : Option Addr) (cN : Nat) (cC : Nat) (cA1 : Option Addr) (cN1 : Nat) (cC1 : Nat) (cA2 : Option Addr) (cN2 : Nat) (cC2 : Nat) (cA3 : Option Addr) (cN3 : Nat) (cC3 : Nat) (cA4 : Option Addr) (cN4 : Nat) (cC4 : Nat) (cA5 : Option Addr) (cN5 : Nat) (cC5 : Nat) (cA6 : Option Addr) (cN6 : Nat) (cC6 : Nat) (cA7 : Option Addr) (cN7 : Nat) (cC7 : Nat) (cA8 : Option Addr) (cN8 : Nat) (cC8 : Nat) (cA9 : Option Addr) (cN9 : Nat) (cC9 : Nat) (definedA : Option Addr) (definedN : Nat) (definedC : Nat) (lA : Option Addr) (lN : Nat) (lC : Nat) (R : Value → Heap → Prop) (h : Heap) (hv : VC126 Try.prog c cA cN cC cA1 cN1 cC1 cA2 cN2 cC2 cA3 cN3 cC3 cA4 cN4 cC4 cA5 cN5 cC5 cA6 cN6 cC6 cA7 cN7 cC7 cA8 cN8 cC8 cA9 cN9 cC9 definedA definedN definedC lA lN lC R h) : CallsH Try.prog 126 #[(.agg #[(.int .i64 c), (.slice cA cN cC), (.slice cA1 cN1 cC1), (.slice cA2 cN2 cC2), (.slice cA3 cN3 cC3), (.slice cA4 cN4 cC4), (.slice cA5 cN5 cC5), (.slice cA6 cN6 cC6), (.slice cA7 cN7 cC7), (.slice cA8 cN8 cC8), (.slice cA9 cN9 cC9)]), (.slice definedA definedN definedC), (.slice lA lN lC)] h R := calls_of_fnC (Checked.mixed Try.checked) Try.func126 comp126 (Nat.le_of_ble_eq_true rfl) (by rw [vc126]; exact hv)

/-! 127: trestle/trestleref03.Order -/
def code127 : SCode := (.seq (.region .txt [⟨(some 1), .box 29 (.tmp 0), none⟩,
  ⟨(some 2), .mv (.const (.slice none 0 0)), none⟩,
  ⟨(some 3), .mv (.const (.int .i64 0)), none⟩]) (.seq (.seq (.region .txt [⟨(some 7), .ldn [.int .i64, .slice, .slice, .slice, .slice, .slice, .slice, .slice, .slice, .slice, .slice] (.tmp 1), none⟩,
  ⟨(some 8), .call 51 [(.tmp 7)] (.tup [.one (.int .i64), .one (.int .i64)]), none⟩,
  ⟨(some 6), .mv (.tmp 8), none⟩,
  ⟨(some 9), .extr (.tmp 6) 0, none⟩,
  ⟨(some 10), .extr (.tmp 6) 1, none⟩,
  ⟨(some 4), .mv (.tmp 9), none⟩,
  ⟨(some 5), .mv (.tmp 10), none⟩]) (.seq (.region .txt [⟨(some 11), .mv (.tmp 5), none⟩,
  ⟨(some 12), .icmp .neq .i64 (.tmp 11) (.const (.int .i64 0)), none⟩]) (.cond (.tmp 12) (.seq (.region .txt [⟨(some 13), .mv (.tmp 5), none⟩,
  ⟨(some 2), .mv (.const (.slice none 0 0)), none⟩,
  ⟨(some 3), .mv (.tmp 13), none⟩]) .ret) .skip))) (.seq (.region .txt [⟨(some 14), .ldn [.int .i64, .slice, .slice, .slice, .slice, .slice, .slice, .slice, .slice, .slice, .slice] (.tmp 1), none⟩,
  ⟨(some 15), .call 91 [(.tmp 14)] (.val (.one (.slice))), none⟩,
  ⟨(some 2), .mv (.tmp 15), none⟩,
  ⟨(some 3), .mv (.const (.int .i64 0)), none⟩]) .ret)))
def loops127 : List (List (Nat × Shp)) := []
def ret127 : List RV := [.tmp 2, .tmp 3]
theorem comp127 : compF Try.prog Try.f127 loops127 = some (16, ret127, code127) := by kernel_rfl
def VC127 (P : Program) (c : Int) (cA : Option Addr) (cN : Nat) (cC : Nat) (cA1 : Option Addr) (cN1 : Nat) (cC1 : Nat) (cA2 : Option Addr) (cN2 : Nat) (cC2 : Nat) (cA3 : Option Addr) (cN3 : Nat) (cC3 : Nat) (cA4 : Option Addr) (cN4 : Nat) (cC4 : Nat) (cA5 : Option Addr) (cN5 : Nat) (cC5 : Nat) (cA6 : Option Addr) (cN6 : Nat) (cC6 : Nat) (cA7 : Option Addr) (cN7 : Nat) (cC7 : Nat) (cA8 : Option Addr) (cN8 : Nat) (cC8 : Nat) (cA9 : Option Addr) (cN9 : Nat) (cC9 : Nat) (R : Value → Heap → Prop) (h : Heap) : Prop :=
 let h_ : Heap := (h).push (.cells (Value.cells (.agg #[(.int .i64 c), (.slice cA cN cC), (.slice cA1 cN1 cC1), (.slice cA2 cN2 cC2), (.slice cA3 cN3 cC3), (.slice cA4 cN4 cC4), (.slice cA5 cN5 cC5), (.slice cA6 cN6 cC6), (.slice cA7 cN7 cC7), (.slice cA8 cN8 cC8), (.slice cA9 cN9 cC9)])) 29); ∃ (t : Int), ∃ (A : Option Addr), ∃ (N : Nat), ∃ (C : Nat), ∃ (A1 : Option Addr), ∃ (N1 : Nat), ∃ (C1 : Nat), ∃ (A2 : Option Addr), ∃ (N2 : Nat), ∃ (C2 : Nat), ∃ (A3 : Option Addr), ∃ (N3 : Nat), ∃ (C3 : Nat), ∃ (A4 : Option Addr), ∃ (N4 : Nat), ∃ (C4 : Nat), ∃ (A5 : Option Addr), ∃ (N5 : Nat), ∃ (C5 : Nat), ∃ (A6 : Option Addr), ∃ (N6 : Nat), ∃ (C6 : Nat), ∃ (A7 : Option Addr), ∃ (N7 : Nat), ∃ (C7 : Nat), ∃ (A8 : Option Addr), ∃ (N8 : Nat), ∃ (C8 : Nat), ∃ (A9 : Option Addr), ∃ (N9 : Nat), ∃ (C9 : Nat), cellsH h_ (Addr.mk (h).size 0 none) 0 [(.int .i64 t), (.slice A N C), (.slice A1 N1 C1), (.slice A2 N2 C2), (.slice A3 N3 C3), (.slice A4 N4 C4), (.slice A5 N5 C5), (.slice A6 N6 C6), (.slice A7 N7 C7), (.slice A8 N8 C8), (.slice A9 N9 C9)] ∧ CallsH P 51 #[(.agg #[(.int .i64 t), (.slice A N C), (.slice A1 N1 C1), (.slice A2 N2 C2), (.slice A3 N3 C3), (.slice A4 N4 C4), (.slice A5 N5 C5), (.slice A6 N6 C6), (.slice A7 N7 C7), (.slice A8 N8 C8), (.slice A9 N9 C9)])] h_ fun v h_1 =>
 ∃ (t1 : Int), ∃ (t2 : Int), v = (.tuple #[(.int .i64 t1), (.int .i64 t2)]) ∧ PIf ((t2 : Int) = 0)
 (∃ (t3 : Int), ∃ (A10 : Option Addr), ∃ (N10 : Nat), ∃ (C10 : Nat), ∃ (A11 : Option Addr), ∃ (N11 : Nat), ∃ (C11 : Nat), ∃ (A12 : Option Addr), ∃ (N12 : Nat), ∃ (C12 : Nat), ∃ (A13 : Option Addr), ∃ (N13 : Nat), ∃ (C13 : Nat), ∃ (A14 : Option Addr), ∃ (N14 : Nat), ∃ (C14 : Nat), ∃ (A15 : Option Addr), ∃ (N15 : Nat), ∃ (C15 : Nat), ∃ (A16 : Option Addr), ∃ (N16 : Nat), ∃ (C16 : Nat), ∃ (A17 : Option Addr), ∃ (N17 : Nat), ∃ (C17 : Nat), ∃ (A18 : Option Addr), ∃ (N18 : Nat), ∃ (C18 : Nat), ∃ (A19 : Option Addr), ∃ (N19 : Nat), ∃ (C19 : Nat), cellsH h_1 (Addr.mk (h).size 0 none) 0 [(.int .i64 t3), (.slice A10 N10 C10), (.slice A11 N11 C11), (.slice A12 N12 C12), (.slice A13 N13 C13), (.slice A14 N14 C14), (.slice A15 N15 C15), (.slice A16 N16 C16), (.slice A17 N17 C17), (.slice A18 N18 C18), (.slice A19 N19 C19)] ∧ CallsH P 91 #[(.agg #[(.int .i64 t3), (.slice A10 N10 C10), (.slice A11 N11 C11), (.slice A12 N12 C12), (.slice A13 N13 C13), (.slice A14 N14 C14), (.slice A15 N15 C15), (.slice A16 N16 C16), (.slice A17 N17 C17), (.slice A18 N18 C18), (.slice A19 N19 C19)])] h_1 fun v1 h_2 =>
 ∃ (A20 : Option Addr), ∃ (N20 : Nat), ∃ (C20 : Nat), v1 = (.slice A20 N20 C20) ∧ R (.tuple #[(.slice A20 N20 C20), (.int .i64 0)]) h_2)
 (R (.tuple #[(.slice none 0 0), (.int .i64 t2)]) h_1)
theorem vc127 (P : Program) (c : Int) (cA : Option Addr) (cN : Nat) (cC : Nat) (cA1 : Option Addr) (cN1 : Nat) (cC1 : Nat) (cA2 : Option Addr) (cN2 : Nat) (cC2 : Nat) (cA3 : Option Addr) (cN3 : Nat) (cC3 : Nat) (cA4 : Option Addr) (cN4 : Nat) (cC4 : Nat) (cA5 : Option Addr) (cN5 : Nat) (cC5 : Nat) (cA6 : Option Addr) (cN6 : Nat) (cC6 : Nat) (cA7 : Option Addr) (cN7 : Nat) (cC7 : Nat) (cA8 : Option Addr) (cN8 : Nat) (cC8 : Nat) (cA9 : Option Addr) (cN9 : Nat) (cC9 : Nat) (R : Value → Heap → Prop) (h : Heap) : fnC P ret127 code127 [(.agg #[(.int .i64 c), (.slice cA cN cC), (.slice cA1 cN1 cC1), (.slice cA2 cN2 cC2), (.slice cA3 cN3 cC3), (.slice cA4 cN4 cC4), (.slice cA5 cN5 cC5), (.slice cA6 cN6 cC6), (.slice cA7 cN7 cC7), (.slice cA8 cN8 cC8), (.slice cA9 cN9 cC9)])] h R = VC127 P c cA cN cC cA1 cN1 cC1 cA2 cN2 cC2 cA3 cN3 cC3 cA4 cN4 cC4 cA5 cN5 cC5 cA6 cN6 cC6 cA7 cN7 cC7 cA8 cN8 cC8 cA9 cN9 cC9 R h := by kernel_rfl
theorem run127 (c : Int) (cA : Option Addr) (cN : Nat) (cC : Nat) (cA1 : Option Addr) (cN1 : Nat) (cC1 : Nat) (cA2 : Option Addr) (cN2 : Nat) (cC2 : Nat) (cA3 : Option Addr) (cN3 : Nat) (cC3 : Nat) (cA4 : Option Addr) (cN4 : Nat) (cC4 : Nat) (cA5 : Option Addr) (cN5 : Nat) (cC5 : Nat) (cA6 : Option Addr) (cN6 : Nat) (cC6 : Nat) (cA7 : Option Addr) (cN7 : Nat) (cC7 : Nat) (cA8 : Option Addr) (cN8 : Nat) (cC8 : Nat) (cA9 : Option Addr) (cN9 : Nat) (cC9 : Nat) (R : Value → Heap → Prop) (h : Heap) (hv : VC127 Try.prog c cA cN cC cA1 cN1 cC1 cA2 cN2 cC2 cA3 cN3 cC3 cA4 cN4 cC4 cA5 cN5 cC5 cA6 cN6 cC6 cA7 cN7 cC7 cA8 cN8 cC8 cA9 cN9 cC9 R h) : CallsH Try.prog 127 #[(.agg #[(.int .i64 c), (.slice cA cN cC), (.slice cA1 cN1 cC1), (.slice cA2 cN2 cC2), (.slice cA3 cN3 cC3), (.slice cA4 cN4 cC4), (.slice cA5 cN5 cC5), (.slice cA6 cN6 cC6), (.slice cA7 cN7 cC7), (.slice cA8 cN8 cC8), (.slice cA9 cN9 cC9)])] h R := calls_of_fnC (Checked.mixed Try.checked) Try.func127 comp127 (Nat.le_of_ble_eq_true rfl) (by rw [vc127]; exact hv)
end Go.Proofs.Ytpmpacdjcfijbaa
