/- Words and facts that the claim's proof leans on. No condition. -/
import Derived.Test.YtpmpacdjcfijbaaHxK
import Derived.Test.YtpmpacdjcfijbaaChecked
set_option maxRecDepth 100000
set_option linter.unusedVariables false
namespace Go.Proofs.Ytpmpacdjcfijbaa
open Go.Hx

/-! 7: trestle/trestlelaw25.FoldFolds -/
def code7 : SCode := (.seq (.region .txt [⟨(some 1), .box 29 (.tmp 0), none⟩,
  ⟨(some 2), .mv (.const (.bool false)), none⟩]) (.seq (.region .txt [⟨(some 10), .ldn [.int .i64, .slice, .slice, .slice, .slice, .slice, .slice, .slice, .slice, .slice, .slice] (.tmp 1), none⟩,
  ⟨(some 11), .call 13 [(.tmp 10)] (.val (.agg [.int .i64, .slice, .slice, .slice, .slice, .slice, .slice, .slice, .slice, .slice, .slice])), none⟩,
  ⟨(some 3), .alloc 29 (.agg #[(.int .i64 0), (.slice none 0 0), (.slice none 0 0), (.slice none 0 0), (.slice none 0 0), (.slice none 0 0), (.slice none 0 0), (.slice none 0 0), (.slice none 0 0), (.slice none 0 0), (.slice none 0 0)]), none⟩,
  ⟨none, .st 11 (.tmp 3) (.tmp 11), none⟩]) (.seq (.region .txt [⟨(some 13), .ldn [.int .i64, .slice, .slice, .slice, .slice, .slice, .slice, .slice, .slice, .slice, .slice] (.tmp 3), none⟩,
  ⟨(some 14), .call 31 [(.tmp 13)] (.tup [.agg [.int .i64, .slice, .slice, .slice, .slice, .slice, .slice, .slice, .slice, .slice, .slice], .one (.int .i64)]), none⟩,
  ⟨(some 12), .mv (.tmp 14), none⟩,
  ⟨(some 15), .extr (.tmp 12) 0, none⟩,
  ⟨(some 16), .extr (.tmp 12) 1, none⟩,
  ⟨(some 4), .alloc 29 (.agg #[(.int .i64 0), (.slice none 0 0), (.slice none 0 0), (.slice none 0 0), (.slice none 0 0), (.slice none 0 0), (.slice none 0 0), (.slice none 0 0), (.slice none 0 0), (.slice none 0 0), (.slice none 0 0)]), none⟩,
  ⟨none, .st 11 (.tmp 4) (.tmp 15), none⟩,
  ⟨(some 5), .mv (.tmp 16), none⟩]) (.seq (.region .txt [⟨(some 18), .ldn [.int .i64, .slice, .slice, .slice, .slice, .slice, .slice, .slice, .slice, .slice, .slice] (.tmp 3), none⟩,
  ⟨(some 19), .call 31 [(.tmp 18)] (.tup [.agg [.int .i64, .slice, .slice, .slice, .slice, .slice, .slice, .slice, .slice, .slice, .slice], .one (.int .i64)]), none⟩,
  ⟨(some 17), .mv (.tmp 19), none⟩,
  ⟨(some 20), .extr (.tmp 17) 0, none⟩,
  ⟨(some 21), .extr (.tmp 17) 1, none⟩,
  ⟨(some 6), .alloc 29 (.agg #[(.int .i64 0), (.slice none 0 0), (.slice none 0 0), (.slice none 0 0), (.slice none 0 0), (.slice none 0 0), (.slice none 0 0), (.slice none 0 0), (.slice none 0 0), (.slice none 0 0), (.slice none 0 0)]), none⟩,
  ⟨none, .st 11 (.tmp 6) (.tmp 20), none⟩,
  ⟨(some 7), .mv (.tmp 21), none⟩]) (.seq (.region .txt [⟨(some 23), .ldn [.int .i64, .slice, .slice, .slice, .slice, .slice, .slice, .slice, .slice, .slice, .slice] (.tmp 1), none⟩,
  ⟨(some 24), .call 32 [(.tmp 23)] (.tup [.agg [.int .i64, .slice, .slice, .slice, .slice, .slice, .slice, .slice, .slice, .slice, .slice], .one (.int .i64)]), none⟩,
  ⟨(some 22), .mv (.tmp 24), none⟩,
  ⟨(some 25), .extr (.tmp 22) 0, none⟩,
  ⟨(some 26), .extr (.tmp 22) 1, none⟩,
  ⟨(some 8), .alloc 29 (.agg #[(.int .i64 0), (.slice none 0 0), (.slice none 0 0), (.slice none 0 0), (.slice none 0 0), (.slice none 0 0), (.slice none 0 0), (.slice none 0 0), (.slice none 0 0), (.slice none 0 0), (.slice none 0 0)]), none⟩,
  ⟨none, .st 11 (.tmp 8) (.tmp 25), none⟩,
  ⟨(some 9), .mv (.tmp 26), none⟩]) (.seq (.seq (.region .txt [⟨(some 27), .ldn [.int .i64, .slice, .slice, .slice, .slice, .slice, .slice, .slice, .slice, .slice, .slice] (.tmp 4), none⟩,
  ⟨(some 28), .ldn [.int .i64, .slice, .slice, .slice, .slice, .slice, .slice, .slice, .slice, .slice, .slice] (.tmp 8), none⟩,
  ⟨(some 29), .call 33 [(.tmp 27), (.tmp 28)] (.val (.one (.bool))), none⟩,
  ⟨(some 30), .not (.tmp 29), none⟩,
  ⟨(some 31), .mv (.tmp 30), none⟩,
  ⟨(some 32), .mv (.tmp 5), (some (31, false))⟩,
  ⟨(some 33), .mv (.tmp 9), (some (31, false))⟩,
  ⟨(some 34), .icmp .neq .i64 (.tmp 32) (.tmp 33), (some (31, false))⟩,
  ⟨(some 35), .pick (.tmp 31) (.const (.bool true)) (.tmp 34), none⟩]) (.cond (.tmp 35) (.seq (.region .txt [⟨(some 2), .mv (.const (.bool false)), none⟩]) .ret) .skip)) (.seq (.region .txt [⟨(some 36), .ldn [.int .i64, .slice, .slice, .slice, .slice, .slice, .slice, .slice, .slice, .slice, .slice] (.tmp 4), none⟩,
  ⟨(some 37), .call 34 [(.tmp 36), (.const (.int .i64 (-7)))] (.tup []), none⟩]) (.seq (.region .txt [⟨(some 38), .ldn [.int .i64, .slice, .slice, .slice, .slice, .slice, .slice, .slice, .slice, .slice, .slice] (.tmp 6), none⟩,
  ⟨(some 39), .ldn [.int .i64, .slice, .slice, .slice, .slice, .slice, .slice, .slice, .slice, .slice, .slice] (.tmp 8), none⟩,
  ⟨(some 40), .call 33 [(.tmp 38), (.tmp 39)] (.val (.one (.bool))), none⟩,
  ⟨(some 41), .mv (.tmp 40), none⟩,
  ⟨(some 42), .ldn [.int .i64, .slice, .slice, .slice, .slice, .slice, .slice, .slice, .slice, .slice, .slice] (.tmp 3), (some (41, true))⟩,
  ⟨(some 43), .ldn [.int .i64, .slice, .slice, .slice, .slice, .slice, .slice, .slice, .slice, .slice, .slice] (.tmp 1), (some (41, true))⟩,
  ⟨(some 44), .call 21 [(.tmp 42), (.tmp 43)] (.val (.one (.bool))), (some (41, true))⟩,
  ⟨(some 45), .pick (.tmp 41) (.tmp 44) (.const (.bool false)), none⟩,
  ⟨(some 46), .mv (.tmp 45), none⟩,
  ⟨(some 47), .call 35 [] (.val (.one (.bool))), (some (46, true))⟩,
  ⟨(some 48), .pick (.tmp 46) (.tmp 47) (.const (.bool false)), none⟩,
  ⟨(some 2), .mv (.tmp 48), none⟩]) .ret))))))))
def loops7 : List (List (Nat × Shp)) := []
def ret7 : List RV := [.tmp 2]
theorem comp7 : compF Try.prog Try.f7 loops7 = some (49, ret7, code7) := by kernel_rfl
def J7_0  (P : Program) (R : Value → Heap → Prop) (h : Heap) (h_1 : Heap) (h_4 : Heap) (h_7 : Heap) (h_10 : Heap) (h_14 : Heap) : Prop :=
 ∃ (t14 : Int), ∃ (A100 : Option Addr), ∃ (N100 : Nat), ∃ (C100 : Nat), ∃ (A101 : Option Addr), ∃ (N101 : Nat), ∃ (C101 : Nat), ∃ (A102 : Option Addr), ∃ (N102 : Nat), ∃ (C102 : Nat), ∃ (A103 : Option Addr), ∃ (N103 : Nat), ∃ (C103 : Nat), ∃ (A104 : Option Addr), ∃ (N104 : Nat), ∃ (C104 : Nat), ∃ (A105 : Option Addr), ∃ (N105 : Nat), ∃ (C105 : Nat), ∃ (A106 : Option Addr), ∃ (N106 : Nat), ∃ (C106 : Nat), ∃ (A107 : Option Addr), ∃ (N107 : Nat), ∃ (C107 : Nat), ∃ (A108 : Option Addr), ∃ (N108 : Nat), ∃ (C108 : Nat), ∃ (A109 : Option Addr), ∃ (N109 : Nat), ∃ (C109 : Nat), cellsH h_14 (Addr.mk (h_4).size 0 none) 0 [(.int .i64 t14), (.slice A100 N100 C100), (.slice A101 N101 C101), (.slice A102 N102 C102), (.slice A103 N103 C103), (.slice A104 N104 C104), (.slice A105 N105 C105), (.slice A106 N106 C106), (.slice A107 N107 C107), (.slice A108 N108 C108), (.slice A109 N109 C109)] ∧ CallsH P 34 #[(.agg #[(.int .i64 t14), (.slice A100 N100 C100), (.slice A101 N101 C101), (.slice A102 N102 C102), (.slice A103 N103 C103), (.slice A104 N104 C104), (.slice A105 N105 C105), (.slice A106 N106 C106), (.slice A107 N107 C107), (.slice A108 N108 C108), (.slice A109 N109 C109)]), (.int .i64 (-7))] h_14 fun v5 h_15 =>
 v5 = (.tuple #[]) ∧ ∃ (t15 : Int), ∃ (A110 : Option Addr), ∃ (N110 : Nat), ∃ (C110 : Nat), ∃ (A111 : Option Addr), ∃ (N111 : Nat), ∃ (C111 : Nat), ∃ (A112 : Option Addr), ∃ (N112 : Nat), ∃ (C112 : Nat), ∃ (A113 : Option Addr), ∃ (N113 : Nat), ∃ (C113 : Nat), ∃ (A114 : Option Addr), ∃ (N114 : Nat), ∃ (C114 : Nat), ∃ (A115 : Option Addr), ∃ (N115 : Nat), ∃ (C115 : Nat), ∃ (A116 : Option Addr), ∃ (N116 : Nat), ∃ (C116 : Nat), ∃ (A117 : Option Addr), ∃ (N117 : Nat), ∃ (C117 : Nat), ∃ (A118 : Option Addr), ∃ (N118 : Nat), ∃ (C118 : Nat), ∃ (A119 : Option Addr), ∃ (N119 : Nat), ∃ (C119 : Nat), cellsH h_15 (Addr.mk (h_7).size 0 none) 0 [(.int .i64 t15), (.slice A110 N110 C110), (.slice A111 N111 C111), (.slice A112 N112 C112), (.slice A113 N113 C113), (.slice A114 N114 C114), (.slice A115 N115 C115), (.slice A116 N116 C116), (.slice A117 N117 C117), (.slice A118 N118 C118), (.slice A119 N119 C119)] ∧ ∃ (t16 : Int), ∃ (A120 : Option Addr), ∃ (N120 : Nat), ∃ (C120 : Nat), ∃ (A121 : Option Addr), ∃ (N121 : Nat), ∃ (C121 : Nat), ∃ (A122 : Option Addr), ∃ (N122 : Nat), ∃ (C122 : Nat), ∃ (A123 : Option Addr), ∃ (N123 : Nat), ∃ (C123 : Nat), ∃ (A124 : Option Addr), ∃ (N124 : Nat), ∃ (C124 : Nat), ∃ (A125 : Option Addr), ∃ (N125 : Nat), ∃ (C125 : Nat), ∃ (A126 : Option Addr), ∃ (N126 : Nat), ∃ (C126 : Nat), ∃ (A127 : Option Addr), ∃ (N127 : Nat), ∃ (C127 : Nat), ∃ (A128 : Option Addr), ∃ (N128 : Nat), ∃ (C128 : Nat), ∃ (A129 : Option Addr), ∃ (N129 : Nat), ∃ (C129 : Nat), cellsH h_15 (Addr.mk (h_10).size 0 none) 0 [(.int .i64 t16), (.slice A120 N120 C120), (.slice A121 N121 C121), (.slice A122 N122 C122), (.slice A123 N123 C123), (.slice A124 N124 C124), (.slice A125 N125 C125), (.slice A126 N126 C126), (.slice A127 N127 C127), (.slice A128 N128 C128), (.slice A129 N129 C129)] ∧ CallsH P 33 #[(.agg #[(.int .i64 t15), (.slice A110 N110 C110), (.slice A111 N111 C111), (.slice A112 N112 C112), (.slice A113 N113 C113), (.slice A114 N114 C114), (.slice A115 N115 C115), (.slice A116 N116 C116), (.slice A117 N117 C117), (.slice A118 N118 C118), (.slice A119 N119 C119)]), (.agg #[(.int .i64 t16), (.slice A120 N120 C120), (.slice A121 N121 C121), (.slice A122 N122 C122), (.slice A123 N123 C123), (.slice A124 N124 C124), (.slice A125 N125 C125), (.slice A126 N126 C126), (.slice A127 N127 C127), (.slice A128 N128 C128), (.slice A129 N129 C129)])] h_15 fun v6 h_16 =>
 ∃ (t17 : Bool), v6 = (.bool t17) ∧ BIf t17 (∃ (t18 : Int), ∃ (A130 : Option Addr), ∃ (N130 : Nat), ∃ (C130 : Nat), ∃ (A131 : Option Addr), ∃ (N131 : Nat), ∃ (C131 : Nat), ∃ (A132 : Option Addr), ∃ (N132 : Nat), ∃ (C132 : Nat), ∃ (A133 : Option Addr), ∃ (N133 : Nat), ∃ (C133 : Nat), ∃ (A134 : Option Addr), ∃ (N134 : Nat), ∃ (C134 : Nat), ∃ (A135 : Option Addr), ∃ (N135 : Nat), ∃ (C135 : Nat), ∃ (A136 : Option Addr), ∃ (N136 : Nat), ∃ (C136 : Nat), ∃ (A137 : Option Addr), ∃ (N137 : Nat), ∃ (C137 : Nat), ∃ (A138 : Option Addr), ∃ (N138 : Nat), ∃ (C138 : Nat), ∃ (A139 : Option Addr), ∃ (N139 : Nat), ∃ (C139 : Nat), cellsH h_16 (Addr.mk (h_1).size 0 none) 0 [(.int .i64 t18), (.slice A130 N130 C130), (.slice A131 N131 C131), (.slice A132 N132 C132), (.slice A133 N133 C133), (.slice A134 N134 C134), (.slice A135 N135 C135), (.slice A136 N136 C136), (.slice A137 N137 C137), (.slice A138 N138 C138), (.slice A139 N139 C139)] ∧ ∃ (t19 : Int), ∃ (A140 : Option Addr), ∃ (N140 : Nat), ∃ (C140 : Nat), ∃ (A141 : Option Addr), ∃ (N141 : Nat), ∃ (C141 : Nat), ∃ (A142 : Option Addr), ∃ (N142 : Nat), ∃ (C142 : Nat), ∃ (A143 : Option Addr), ∃ (N143 : Nat), ∃ (C143 : Nat), ∃ (A144 : Option Addr), ∃ (N144 : Nat), ∃ (C144 : Nat), ∃ (A145 : Option Addr), ∃ (N145 : Nat), ∃ (C145 : Nat), ∃ (A146 : Option Addr), ∃ (N146 : Nat), ∃ (C146 : Nat), ∃ (A147 : Option Addr), ∃ (N147 : Nat), ∃ (C147 : Nat), ∃ (A148 : Option Addr), ∃ (N148 : Nat), ∃ (C148 : Nat), ∃ (A149 : Option Addr), ∃ (N149 : Nat), ∃ (C149 : Nat), cellsH h_16 (Addr.mk (h).size 0 none) 0 [(.int .i64 t19), (.slice A140 N140 C140), (.slice A141 N141 C141), (.slice A142 N142 C142), (.slice A143 N143 C143), (.slice A144 N144 C144), (.slice A145 N145 C145), (.slice A146 N146 C146), (.slice A147 N147 C147), (.slice A148 N148 C148), (.slice A149 N149 C149)] ∧ CallsH P 21 #[(.agg #[(.int .i64 t18), (.slice A130 N130 C130), (.slice A131 N131 C131), (.slice A132 N132 C132), (.slice A133 N133 C133), (.slice A134 N134 C134), (.slice A135 N135 C135), (.slice A136 N136 C136), (.slice A137 N137 C137), (.slice A138 N138 C138), (.slice A139 N139 C139)]), (.agg #[(.int .i64 t19), (.slice A140 N140 C140), (.slice A141 N141 C141), (.slice A142 N142 C142), (.slice A143 N143 C143), (.slice A144 N144 C144), (.slice A145 N145 C145), (.slice A146 N146 C146), (.slice A147 N147 C147), (.slice A148 N148 C148), (.slice A149 N149 C149)])] h_16 fun v7 h_17 =>
 ∃ (t20 : Bool), v7 = (.bool t20) ∧ BIf t20 (CallsH P 35 #[] h_17 fun v8 h_18 =>
 ∃ (t21 : Bool), v8 = (.bool t21) ∧ R (.bool t21) h_18) (R (.bool false) h_17)) (R (.bool false) h_16)
def VC7 (P : Program) (c : Int) (cA : Option Addr) (cN : Nat) (cC : Nat) (cA1 : Option Addr) (cN1 : Nat) (cC1 : Nat) (cA2 : Option Addr) (cN2 : Nat) (cC2 : Nat) (cA3 : Option Addr) (cN3 : Nat) (cC3 : Nat) (cA4 : Option Addr) (cN4 : Nat) (cC4 : Nat) (cA5 : Option Addr) (cN5 : Nat) (cC5 : Nat) (cA6 : Option Addr) (cN6 : Nat) (cC6 : Nat) (cA7 : Option Addr) (cN7 : Nat) (cC7 : Nat) (cA8 : Option Addr) (cN8 : Nat) (cC8 : Nat) (cA9 : Option Addr) (cN9 : Nat) (cC9 : Nat) (R : Value → Heap → Prop) (h : Heap) : Prop :=
 let h_ : Heap := (h).push (.cells (Value.cells (.agg #[(.int .i64 c), (.slice cA cN cC), (.slice cA1 cN1 cC1), (.slice cA2 cN2 cC2), (.slice cA3 cN3 cC3), (.slice cA4 cN4 cC4), (.slice cA5 cN5 cC5), (.slice cA6 cN6 cC6), (.slice cA7 cN7 cC7), (.slice cA8 cN8 cC8), (.slice cA9 cN9 cC9)])) 29); ∃ (t : Int), ∃ (A : Option Addr), ∃ (N : Nat), ∃ (C : Nat), ∃ (A1 : Option Addr), ∃ (N1 : Nat), ∃ (C1 : Nat), ∃ (A2 : Option Addr), ∃ (N2 : Nat), ∃ (C2 : Nat), ∃ (A3 : Option Addr), ∃ (N3 : Nat), ∃ (C3 : Nat), ∃ (A4 : Option Addr), ∃ (N4 : Nat), ∃ (C4 : Nat), ∃ (A5 : Option Addr), ∃ (N5 : Nat), ∃ (C5 : Nat), ∃ (A6 : Option Addr), ∃ (N6 : Nat), ∃ (C6 : Nat), ∃ (A7 : Option Addr), ∃ (N7 : Nat), ∃ (C7 : Nat), ∃ (A8 : Option Addr), ∃ (N8 : Nat), ∃ (C8 : Nat), ∃ (A9 : Option Addr), ∃ (N9 : Nat), ∃ (C9 : Nat), cellsH h_ (Addr.mk (h).size 0 none) 0 [(.int .i64 t), (.slice A N C), (.slice A1 N1 C1), (.slice A2 N2 C2), (.slice A3 N3 C3), (.slice A4 N4 C4), (.slice A5 N5 C5), (.slice A6 N6 C6), (.slice A7 N7 C7), (.slice A8 N8 C8), (.slice A9 N9 C9)] ∧ CallsH P 13 #[(.agg #[(.int .i64 t), (.slice A N C), (.slice A1 N1 C1), (.slice A2 N2 C2), (.slice A3 N3 C3), (.slice A4 N4 C4), (.slice A5 N5 C5), (.slice A6 N6 C6), (.slice A7 N7 C7), (.slice A8 N8 C8), (.slice A9 N9 C9)])] h_ fun v h_1 =>
 ∃ (t1 : Int), ∃ (A10 : Option Addr), ∃ (N10 : Nat), ∃ (C10 : Nat), ∃ (A11 : Option Addr), ∃ (N11 : Nat), ∃ (C11 : Nat), ∃ (A12 : Option Addr), ∃ (N12 : Nat), ∃ (C12 : Nat), ∃ (A13 : Option Addr), ∃ (N13 : Nat), ∃ (C13 : Nat), ∃ (A14 : Option Addr), ∃ (N14 : Nat), ∃ (C14 : Nat), ∃ (A15 : Option Addr), ∃ (N15 : Nat), ∃ (C15 : Nat), ∃ (A16 : Option Addr), ∃ (N16 : Nat), ∃ (C16 : Nat), ∃ (A17 : Option Addr), ∃ (N17 : Nat), ∃ (C17 : Nat), ∃ (A18 : Option Addr), ∃ (N18 : Nat), ∃ (C18 : Nat), ∃ (A19 : Option Addr), ∃ (N19 : Nat), ∃ (C19 : Nat), v = (.agg #[(.int .i64 t1), (.slice A10 N10 C10), (.slice A11 N11 C11), (.slice A12 N12 C12), (.slice A13 N13 C13), (.slice A14 N14 C14), (.slice A15 N15 C15), (.slice A16 N16 C16), (.slice A17 N17 C17), (.slice A18 N18 C18), (.slice A19 N19 C19)]) ∧ let h_2 : Heap := (h_1).push (.cells #[(.int .i64 0), (.slice none 0 0), (.slice none 0 0), (.slice none 0 0), (.slice none 0 0), (.slice none 0 0), (.slice none 0 0), (.slice none 0 0), (.slice none 0 0), (.slice none 0 0), (.slice none 0 0)] 29); StoreH h_2 (Addr.mk (h_1).size 0 none) [(.int .i64 t1), (.slice A10 N10 C10), (.slice A11 N11 C11), (.slice A12 N12 C12), (.slice A13 N13 C13), (.slice A14 N14 C14), (.slice A15 N15 C15), (.slice A16 N16 C16), (.slice A17 N17 C17), (.slice A18 N18 C18), (.slice A19 N19 C19)] fun h_3 => ∃ (t2 : Int), ∃ (A20 : Option Addr), ∃ (N20 : Nat), ∃ (C20 : Nat), ∃ (A21 : Option Addr), ∃ (N21 : Nat), ∃ (C21 : Nat), ∃ (A22 : Option Addr), ∃ (N22 : Nat), ∃ (C22 : Nat), ∃ (A23 : Option Addr), ∃ (N23 : Nat), ∃ (C23 : Nat), ∃ (A24 : Option Addr), ∃ (N24 : Nat), ∃ (C24 : Nat), ∃ (A25 : Option Addr), ∃ (N25 : Nat), ∃ (C25 : Nat), ∃ (A26 : Option Addr), ∃ (N26 : Nat), ∃ (C26 : Nat), ∃ (A27 : Option Addr), ∃ (N27 : Nat), ∃ (C27 : Nat), ∃ (A28 : Option Addr), ∃ (N28 : Nat), ∃ (C28 : Nat), ∃ (A29 : Option Addr), ∃ (N29 : Nat), ∃ (C29 : Nat), cellsH h_3 (Addr.mk (h_1).size 0 none) 0 [(.int .i64 t2), (.slice A20 N20 C20), (.slice A21 N21 C21), (.slice A22 N22 C22), (.slice A23 N23 C23), (.slice A24 N24 C24), (.slice A25 N25 C25), (.slice A26 N26 C26), (.slice A27 N27 C27), (.slice A28 N28 C28), (.slice A29 N29 C29)] ∧ CallsH P 31 #[(.agg #[(.int .i64 t2), (.slice A20 N20 C20), (.slice A21 N21 C21), (.slice A22 N22 C22), (.slice A23 N23 C23), (.slice A24 N24 C24), (.slice A25 N25 C25), (.slice A26 N26 C26), (.slice A27 N27 C27), (.slice A28 N28 C28), (.slice A29 N29 C29)])] h_3 fun v1 h_4 =>
 ∃ (t3 : Int), ∃ (A30 : Option Addr), ∃ (N30 : Nat), ∃ (C30 : Nat), ∃ (A31 : Option Addr), ∃ (N31 : Nat), ∃ (C31 : Nat), ∃ (A32 : Option Addr), ∃ (N32 : Nat), ∃ (C32 : Nat), ∃ (A33 : Option Addr), ∃ (N33 : Nat), ∃ (C33 : Nat), ∃ (A34 : Option Addr), ∃ (N34 : Nat), ∃ (C34 : Nat), ∃ (A35 : Option Addr), ∃ (N35 : Nat), ∃ (C35 : Nat), ∃ (A36 : Option Addr), ∃ (N36 : Nat), ∃ (C36 : Nat), ∃ (A37 : Option Addr), ∃ (N37 : Nat), ∃ (C37 : Nat), ∃ (A38 : Option Addr), ∃ (N38 : Nat), ∃ (C38 : Nat), ∃ (A39 : Option Addr), ∃ (N39 : Nat), ∃ (C39 : Nat), ∃ (t4 : Int), v1 = (.tuple #[(.agg #[(.int .i64 t3), (.slice A30 N30 C30), (.slice A31 N31 C31), (.slice A32 N32 C32), (.slice A33 N33 C33), (.slice A34 N34 C34), (.slice A35 N35 C35), (.slice A36 N36 C36), (.slice A37 N37 C37), (.slice A38 N38 C38), (.slice A39 N39 C39)]), (.int .i64 t4)]) ∧ let h_5 : Heap := (h_4).push (.cells #[(.int .i64 0), (.slice none 0 0), (.slice none 0 0), (.slice none 0 0), (.slice none 0 0), (.slice none 0 0), (.slice none 0 0), (.slice none 0 0), (.slice none 0 0), (.slice none 0 0), (.slice none 0 0)] 29); StoreH h_5 (Addr.mk (h_4).size 0 none) [(.int .i64 t3), (.slice A30 N30 C30), (.slice A31 N31 C31), (.slice A32 N32 C32), (.slice A33 N33 C33), (.slice A34 N34 C34), (.slice A35 N35 C35), (.slice A36 N36 C36), (.slice A37 N37 C37), (.slice A38 N38 C38), (.slice A39 N39 C39)] fun h_6 => ∃ (t5 : Int), ∃ (A40 : Option Addr), ∃ (N40 : Nat), ∃ (C40 : Nat), ∃ (A41 : Option Addr), ∃ (N41 : Nat), ∃ (C41 : Nat), ∃ (A42 : Option Addr), ∃ (N42 : Nat), ∃ (C42 : Nat), ∃ (A43 : Option Addr), ∃ (N43 : Nat), ∃ (C43 : Nat), ∃ (A44 : Option Addr), ∃ (N44 : Nat), ∃ (C44 : Nat), ∃ (A45 : Option Addr), ∃ (N45 : Nat), ∃ (C45 : Nat), ∃ (A46 : Option Addr), ∃ (N46 : Nat), ∃ (C46 : Nat), ∃ (A47 : Option Addr), ∃ (N47 : Nat), ∃ (C47 : Nat), ∃ (A48 : Option Addr), ∃ (N48 : Nat), ∃ (C48 : Nat), ∃ (A49 : Option Addr), ∃ (N49 : Nat), ∃ (C49 : Nat), cellsH h_6 (Addr.mk (h_1).size 0 none) 0 [(.int .i64 t5), (.slice A40 N40 C40), (.slice A41 N41 C41), (.slice A42 N42 C42), (.slice A43 N43 C43), (.slice A44 N44 C44), (.slice A45 N45 C45), (.slice A46 N46 C46), (.slice A47 N47 C47), (.slice A48 N48 C48), (.slice A49 N49 C49)] ∧ CallsH P 31 #[(.agg #[(.int .i64 t5), (.slice A40 N40 C40), (.slice A41 N41 C41), (.slice A42 N42 C42), (.slice A43 N43 C43), (.slice A44 N44 C44), (.slice A45 N45 C45), (.slice A46 N46 C46), (.slice A47 N47 C47), (.slice A48 N48 C48), (.slice A49 N49 C49)])] h_6 fun v2 h_7 =>
 ∃ (t6 : Int), ∃ (A50 : Option Addr), ∃ (N50 : Nat), ∃ (C50 : Nat), ∃ (A51 : Option Addr), ∃ (N51 : Nat), ∃ (C51 : Nat), ∃ (A52 : Option Addr), ∃ (N52 : Nat), ∃ (C52 : Nat), ∃ (A53 : Option Addr), ∃ (N53 : Nat), ∃ (C53 : Nat), ∃ (A54 : Option Addr), ∃ (N54 : Nat), ∃ (C54 : Nat), ∃ (A55 : Option Addr), ∃ (N55 : Nat), ∃ (C55 : Nat), ∃ (A56 : Option Addr), ∃ (N56 : Nat), ∃ (C56 : Nat), ∃ (A57 : Option Addr), ∃ (N57 : Nat), ∃ (C57 : Nat), ∃ (A58 : Option Addr), ∃ (N58 : Nat), ∃ (C58 : Nat), ∃ (A59 : Option Addr), ∃ (N59 : Nat), ∃ (C59 : Nat), ∃ (t7 : Int), v2 = (.tuple #[(.agg #[(.int .i64 t6), (.slice A50 N50 C50), (.slice A51 N51 C51), (.slice A52 N52 C52), (.slice A53 N53 C53), (.slice A54 N54 C54), (.slice A55 N55 C55), (.slice A56 N56 C56), (.slice A57 N57 C57), (.slice A58 N58 C58), (.slice A59 N59 C59)]), (.int .i64 t7)]) ∧ let h_8 : Heap := (h_7).push (.cells #[(.int .i64 0), (.slice none 0 0), (.slice none 0 0), (.slice none 0 0), (.slice none 0 0), (.slice none 0 0), (.slice none 0 0), (.slice none 0 0), (.slice none 0 0), (.slice none 0 0), (.slice none 0 0)] 29); StoreH h_8 (Addr.mk (h_7).size 0 none) [(.int .i64 t6), (.slice A50 N50 C50), (.slice A51 N51 C51), (.slice A52 N52 C52), (.slice A53 N53 C53), (.slice A54 N54 C54), (.slice A55 N55 C55), (.slice A56 N56 C56), (.slice A57 N57 C57), (.slice A58 N58 C58), (.slice A59 N59 C59)] fun h_9 => ∃ (t8 : Int), ∃ (A60 : Option Addr), ∃ (N60 : Nat), ∃ (C60 : Nat), ∃ (A61 : Option Addr), ∃ (N61 : Nat), ∃ (C61 : Nat), ∃ (A62 : Option Addr), ∃ (N62 : Nat), ∃ (C62 : Nat), ∃ (A63 : Option Addr), ∃ (N63 : Nat), ∃ (C63 : Nat), ∃ (A64 : Option Addr), ∃ (N64 : Nat), ∃ (C64 : Nat), ∃ (A65 : Option Addr), ∃ (N65 : Nat), ∃ (C65 : Nat), ∃ (A66 : Option Addr), ∃ (N66 : Nat), ∃ (C66 : Nat), ∃ (A67 : Option Addr), ∃ (N67 : Nat), ∃ (C67 : Nat), ∃ (A68 : Option Addr), ∃ (N68 : Nat), ∃ (C68 : Nat), ∃ (A69 : Option Addr), ∃ (N69 : Nat), ∃ (C69 : Nat), cellsH h_9 (Addr.mk (h).size 0 none) 0 [(.int .i64 t8), (.slice A60 N60 C60), (.slice A61 N61 C61), (.slice A62 N62 C62), (.slice A63 N63 C63), (.slice A64 N64 C64), (.slice A65 N65 C65), (.slice A66 N66 C66), (.slice A67 N67 C67), (.slice A68 N68 C68), (.slice A69 N69 C69)] ∧ CallsH P 32 #[(.agg #[(.int .i64 t8), (.slice A60 N60 C60), (.slice A61 N61 C61), (.slice A62 N62 C62), (.slice A63 N63 C63), (.slice A64 N64 C64), (.slice A65 N65 C65), (.slice A66 N66 C66), (.slice A67 N67 C67), (.slice A68 N68 C68), (.slice A69 N69 C69)])] h_9 fun v3 h_10 =>
 ∃ (t9 : Int), ∃ (A70 : Option Addr), ∃ (N70 : Nat), ∃ (C70 : Nat), ∃ (A71 : Option Addr), ∃ (N71 : Nat), ∃ (C71 : Nat), ∃ (A72 : Option Addr), ∃ (N72 : Nat), ∃ (C72 : Nat), ∃ (A73 : Option Addr), ∃ (N73 : Nat), ∃ (C73 : Nat), ∃ (A74 : Option Addr), ∃ (N74 : Nat), ∃ (C74 : Nat), ∃ (A75 : Option Addr), ∃ (N75 : Nat), ∃ (C75 : Nat), ∃ (A76 : Option Addr), ∃ (N76 : Nat), ∃ (C76 : Nat), ∃ (A77 : Option Addr), ∃ (N77 : Nat), ∃ (C77 : Nat), ∃ (A78 : Option Addr), ∃ (N78 : Nat), ∃ (C78 : Nat), ∃ (A79 : Option Addr), ∃ (N79 : Nat), ∃ (C79 : Nat), ∃ (t10 : Int), v3 = (.tuple #[(.agg #[(.int .i64 t9), (.slice A70 N70 C70), (.slice A71 N71 C71), (.slice A72 N72 C72), (.slice A73 N73 C73), (.slice A74 N74 C74), (.slice A75 N75 C75), (.slice A76 N76 C76), (.slice A77 N77 C77), (.slice A78 N78 C78), (.slice A79 N79 C79)]), (.int .i64 t10)]) ∧ let h_11 : Heap := (h_10).push (.cells #[(.int .i64 0), (.slice none 0 0), (.slice none 0 0), (.slice none 0 0), (.slice none 0 0), (.slice none 0 0), (.slice none 0 0), (.slice none 0 0), (.slice none 0 0), (.slice none 0 0), (.slice none 0 0)] 29); StoreH h_11 (Addr.mk (h_10).size 0 none) [(.int .i64 t9), (.slice A70 N70 C70), (.slice A71 N71 C71), (.slice A72 N72 C72), (.slice A73 N73 C73), (.slice A74 N74 C74), (.slice A75 N75 C75), (.slice A76 N76 C76), (.slice A77 N77 C77), (.slice A78 N78 C78), (.slice A79 N79 C79)] fun h_12 => ∃ (t11 : Int), ∃ (A80 : Option Addr), ∃ (N80 : Nat), ∃ (C80 : Nat), ∃ (A81 : Option Addr), ∃ (N81 : Nat), ∃ (C81 : Nat), ∃ (A82 : Option Addr), ∃ (N82 : Nat), ∃ (C82 : Nat), ∃ (A83 : Option Addr), ∃ (N83 : Nat), ∃ (C83 : Nat), ∃ (A84 : Option Addr), ∃ (N84 : Nat), ∃ (C84 : Nat), ∃ (A85 : Option Addr), ∃ (N85 : Nat), ∃ (C85 : Nat), ∃ (A86 : Option Addr), ∃ (N86 : Nat), ∃ (C86 : Nat), ∃ (A87 : Option Addr), ∃ (N87 : Nat), ∃ (C87 : Nat), ∃ (A88 : Option Addr), ∃ (N88 : Nat), ∃ (C88 : Nat), ∃ (A89 : Option Addr), ∃ (N89 : Nat), ∃ (C89 : Nat), cellsH h_12 (Addr.mk (h_4).size 0 none) 0 [(.int .i64 t11), (.slice A80 N80 C80), (.slice A81 N81 C81), (.slice A82 N82 C82), (.slice A83 N83 C83), (.slice A84 N84 C84), (.slice A85 N85 C85), (.slice A86 N86 C86), (.slice A87 N87 C87), (.slice A88 N88 C88), (.slice A89 N89 C89)] ∧ ∃ (t12 : Int), ∃ (A90 : Option Addr), ∃ (N90 : Nat), ∃ (C90 : Nat), ∃ (A91 : Option Addr), ∃ (N91 : Nat), ∃ (C91 : Nat), ∃ (A92 : Option Addr), ∃ (N92 : Nat), ∃ (C92 : Nat), ∃ (A93 : Option Addr), ∃ (N93 : Nat), ∃ (C93 : Nat), ∃ (A94 : Option Addr), ∃ (N94 : Nat), ∃ (C94 : Nat), ∃ (A95 : Option Addr), ∃ (N95 : Nat), ∃ (C95 : Nat), ∃ (A96 : Option Addr), ∃ (N96 : Nat), ∃ (C96 : Nat), ∃ (A97 : Option Addr), ∃ (N97 : Nat), ∃ (C97 : Nat), ∃ (A98 : Option Addr), ∃ (N98 : Nat), ∃ (C98 : Nat), ∃ (A99 : Option Addr), ∃ (N99 : Nat), ∃ (C99 : Nat), cellsH h_12 (Addr.mk (h_10).size 0 none) 0 [(.int .i64 t12), (.slice A90 N90 C90), (.slice A91 N91 C91), (.slice A92 N92 C92), (.slice A93 N93 C93), (.slice A94 N94 C94), (.slice A95 N95 C95), (.slice A96 N96 C96), (.slice A97 N97 C97), (.slice A98 N98 C98), (.slice A99 N99 C99)] ∧ CallsH P 33 #[(.agg #[(.int .i64 t11), (.slice A80 N80 C80), (.slice A81 N81 C81), (.slice A82 N82 C82), (.slice A83 N83 C83), (.slice A84 N84 C84), (.slice A85 N85 C85), (.slice A86 N86 C86), (.slice A87 N87 C87), (.slice A88 N88 C88), (.slice A89 N89 C89)]), (.agg #[(.int .i64 t12), (.slice A90 N90 C90), (.slice A91 N91 C91), (.slice A92 N92 C92), (.slice A93 N93 C93), (.slice A94 N94 C94), (.slice A95 N95 C95), (.slice A96 N96 C96), (.slice A97 N97 C97), (.slice A98 N98 C98), (.slice A99 N99 C99)])] h_12 fun v4 h_13 =>
 ∃ (t13 : Bool), v4 = (.bool t13) ∧ BIf (!t13) (R (.bool false) h_13) (PIf ((t4 : Int) = t10)
 (J7_0 P R h h_1 h_4 h_7 h_10 h_13)
 (R (.bool false) h_13))
theorem vc7 (P : Program) (c : Int) (cA : Option Addr) (cN : Nat) (cC : Nat) (cA1 : Option Addr) (cN1 : Nat) (cC1 : Nat) (cA2 : Option Addr) (cN2 : Nat) (cC2 : Nat) (cA3 : Option Addr) (cN3 : Nat) (cC3 : Nat) (cA4 : Option Addr) (cN4 : Nat) (cC4 : Nat) (cA5 : Option Addr) (cN5 : Nat) (cC5 : Nat) (cA6 : Option Addr) (cN6 : Nat) (cC6 : Nat) (cA7 : Option Addr) (cN7 : Nat) (cC7 : Nat) (cA8 : Option Addr) (cN8 : Nat) (cC8 : Nat) (cA9 : Option Addr) (cN9 : Nat) (cC9 : Nat) (R : Value → Heap → Prop) (h : Heap) : fnC P ret7 code7 [(.agg #[(.int .i64 c), (.slice cA cN cC), (.slice cA1 cN1 cC1), (.slice cA2 cN2 cC2), (.slice cA3 cN3 cC3), (.slice cA4 cN4 cC4), (.slice cA5 cN5 cC5), (.slice cA6 cN6 cC6), (.slice cA7 cN7 cC7), (.slice cA8 cN8 cC8), (.slice cA9 cN9 cC9)])] h R = VC7 P c cA cN cC cA1 cN1 cC1 cA2 cN2 cC2 cA3 cN3 cC3 cA4 cN4 cC4 cA5 cN5 cC5 cA6 cN6 cC6 cA7 cN7 cC7 cA8 cN8 cC8 cA9 cN9 cC9 R h := by kernel_rfl
theorem run7 (c : Int) (cA : Option Addr) (cN : Nat) (cC : Nat) (cA1 : Option Addr) (cN1 : Nat) (cC1 : Nat) (cA2 : Option Addr) (cN2 : Nat) (cC2 : Nat) (cA3 : Option Addr) (cN3 : Nat) (cC3 : Nat) (cA4 : Option Addr) (cN4 : Nat) (cC4 : Nat) (cA5 : Option Addr) (cN5 : Nat) (cC5 : Nat) (cA6 : Option Addr) (cN6 : Nat) (cC6 : Nat) (cA7 : Option Addr) (cN7 : Nat) (cC7 : Nat) (cA8 : Option Addr) (cN8 : Nat) (cC8 : Nat) (cA9 : Option Addr) (cN9 : Nat) (cC9 : Nat) (R : Value → Heap → Prop) (h : Heap) (hv : VC7 Try.prog c cA cN cC cA1 cN1 cC1 cA2 cN2 cC2 cA3 cN3 cC3 cA4 cN4 cC4 cA5 cN5 cC5 cA6 cN6 cC6 cA7 cN7 cC7 cA8 cN8 cC8 cA9 cN9 cC9 R h) : CallsH Try.prog 7 #[(.agg #[(.int .i64 c), (.slice cA cN cC), (.slice cA1 cN1 cC1), (.slice cA2 cN2 cC2), (.slice cA3 cN3 cC3), (.slice cA4 cN4 cC4), (.slice cA5 cN5 cC5), (.slice cA6 cN6 cC6), (.slice cA7 cN7 cC7), (.slice cA8 cN8 cC8), (.slice cA9 cN9 cC9)])] h R := calls_of_fnC (Checked.mixed Try.checked) Try.func7 comp7 (Nat.le_of_ble_eq_true rfl) (by rw [vc7]; exact hv)

/-! 13: trestle/trestlebook.LendCircuit -/
def code13 : SCode := (.seq (.region .txt [⟨(some 1), .box 29 (.tmp 0), none⟩,
  ⟨(some 2), .alloc 29 (.agg #[(.int .i64 0), (.slice none 0 0), (.slice none 0 0), (.slice none 0 0), (.slice none 0 0), (.slice none 0 0), (.slice none 0 0), (.slice none 0 0), (.slice none 0 0), (.slice none 0 0), (.slice none 0 0)]), none⟩]) (.seq (.region .txt [⟨(some 4), .ldn [.int .i64, .slice, .slice, .slice, .slice, .slice, .slice, .slice, .slice, .slice, .slice] (.tmp 1), none⟩,
  ⟨(some 5), .call 48 [(.tmp 4)] (.val (.agg [.int .i64, .slice, .slice, .slice, .slice, .slice, .slice, .slice, .slice, .slice, .slice])), none⟩,
  ⟨(some 3), .alloc 29 (.agg #[(.int .i64 0), (.slice none 0 0), (.slice none 0 0), (.slice none 0 0), (.slice none 0 0), (.slice none 0 0), (.slice none 0 0), (.slice none 0 0), (.slice none 0 0), (.slice none 0 0), (.slice none 0 0)]), none⟩,
  ⟨none, .st 11 (.tmp 3) (.tmp 5), none⟩]) (.seq (.region .ext [⟨(some 6), .fldA 1 (.tmp 1), none⟩,
  ⟨(some 7), .ld (.slice) (.tmp 6), none⟩,
  ⟨(some 8), .call 36 [(.tmp 7)] (.val (.one (.slice))), none⟩,
  ⟨(some 9), .fldA 3 (.tmp 1), none⟩,
  ⟨(some 10), .ld (.slice) (.tmp 9), none⟩,
  ⟨(some 11), .call 36 [(.tmp 10)] (.val (.one (.slice))), none⟩,
  ⟨(some 12), .fldA 4 (.tmp 1), none⟩,
  ⟨(some 13), .ld (.slice) (.tmp 12), none⟩,
  ⟨(some 14), .call 36 [(.tmp 13)] (.val (.one (.slice))), none⟩,
  ⟨(some 15), .fldA 1 (.tmp 3), none⟩,
  ⟨none, .st 1 (.tmp 15) (.tmp 8), none⟩,
  ⟨(some 16), .fldA 3 (.tmp 3), none⟩,
  ⟨none, .st 1 (.tmp 16) (.tmp 11), none⟩,
  ⟨(some 17), .fldA 4 (.tmp 3), none⟩,
  ⟨none, .st 1 (.tmp 17) (.tmp 14), none⟩]) (.seq (.region .ext [⟨(some 18), .fldA 5 (.tmp 1), none⟩,
  ⟨(some 19), .ld (.slice) (.tmp 18), none⟩,
  ⟨(some 20), .call 36 [(.tmp 19)] (.val (.one (.slice))), none⟩,
  ⟨(some 21), .fldA 7 (.tmp 1), none⟩,
  ⟨(some 22), .ld (.slice) (.tmp 21), none⟩,
  ⟨(some 23), .call 36 [(.tmp 22)] (.val (.one (.slice))), none⟩,
  ⟨(some 24), .fldA 5 (.tmp 3), none⟩,
  ⟨none, .st 1 (.tmp 24) (.tmp 20), none⟩,
  ⟨(some 25), .fldA 7 (.tmp 3), none⟩,
  ⟨none, .st 1 (.tmp 25) (.tmp 23), none⟩]) (.seq (.region .wide [⟨(some 26), .fldA 2 (.tmp 3), none⟩,
  ⟨(some 27), .ld (.slice) (.tmp 26), none⟩,
  ⟨(some 28), .mkAgg #[(.int .i64 0), (.int .i64 0), (.int .i64 0)] [(0, 1, (.const (.int .i64 (-77))))], none⟩,
  ⟨(some 29), .lit 80 1 #[(.int .i64 0), (.int .i64 0), (.int .i64 0)] [(0, 3, (.tmp 28))], none⟩,
  ⟨(some 30), .app 80 24 3 #[(.int .i64 0), (.int .i64 0), (.int .i64 0)] (.tmp 27) (.tmp 29), none⟩,
  ⟨(some 31), .fldA 2 (.tmp 1), none⟩,
  ⟨(some 32), .ld (.slice) (.tmp 31), none⟩,
  ⟨(some 33), .len (.tmp 32), none⟩,
  ⟨(some 34), .slc 3 (.tmp 30) none (some (.tmp 33)), none⟩,
  ⟨(some 35), .fldA 2 (.tmp 3), none⟩,
  ⟨none, .st 1 (.tmp 35) (.tmp 34), none⟩]) (.seq (.region .wide [⟨(some 36), .fldA 8 (.tmp 3), none⟩,
  ⟨(some 37), .ld (.slice) (.tmp 36), none⟩,
  ⟨(some 38), .mkAgg #[(.int .i64 0), (.int .i64 0), (.int .i64 0)] [(0, 1, (.const (.int .i64 (-77))))], none⟩,
  ⟨(some 39), .lit 82 1 #[(.int .i64 0), (.int .i64 0), (.int .i64 0)] [(0, 3, (.tmp 38))], none⟩,
  ⟨(some 40), .app 82 24 3 #[(.int .i64 0), (.int .i64 0), (.int .i64 0)] (.tmp 37) (.tmp 39), none⟩,
  ⟨(some 41), .fldA 8 (.tmp 1), none⟩,
  ⟨(some 42), .ld (.slice) (.tmp 41), none⟩,
  ⟨(some 43), .len (.tmp 42), none⟩,
  ⟨(some 44), .slc 3 (.tmp 40) none (some (.tmp 43)), none⟩,
  ⟨(some 45), .fldA 8 (.tmp 3), none⟩,
  ⟨none, .st 1 (.tmp 45) (.tmp 44), none⟩]) (.seq (.region .txt [⟨(some 46), .ldn [.int .i64, .slice, .slice, .slice, .slice, .slice, .slice, .slice, .slice, .slice, .slice] (.tmp 3), none⟩,
  ⟨none, .st 11 (.tmp 2) (.tmp 46), none⟩]) .ret)))))))
def loops13 : List (List (Nat × Shp)) := []
def ret13 : List RV := [.cellN 2 [.int .i64, .slice, .slice, .slice, .slice, .slice, .slice, .slice, .slice, .slice, .slice]]
theorem comp13 : compF Try.prog Try.f13 loops13 = some (47, ret13, code13) := by kernel_rfl
def VC13 (P : Program) (c : Int) (cA : Option Addr) (cN : Nat) (cC : Nat) (cA1 : Option Addr) (cN1 : Nat) (cC1 : Nat) (cA2 : Option Addr) (cN2 : Nat) (cC2 : Nat) (cA3 : Option Addr) (cN3 : Nat) (cC3 : Nat) (cA4 : Option Addr) (cN4 : Nat) (cC4 : Nat) (cA5 : Option Addr) (cN5 : Nat) (cC5 : Nat) (cA6 : Option Addr) (cN6 : Nat) (cC6 : Nat) (cA7 : Option Addr) (cN7 : Nat) (cC7 : Nat) (cA8 : Option Addr) (cN8 : Nat) (cC8 : Nat) (cA9 : Option Addr) (cN9 : Nat) (cC9 : Nat) (R : Value → Heap → Prop) (h : Heap) : Prop :=
 let h_ : Heap := (h).push (.cells (Value.cells (.agg #[(.int .i64 c), (.slice cA cN cC), (.slice cA1 cN1 cC1), (.slice cA2 cN2 cC2), (.slice cA3 cN3 cC3), (.slice cA4 cN4 cC4), (.slice cA5 cN5 cC5), (.slice cA6 cN6 cC6), (.slice cA7 cN7 cC7), (.slice cA8 cN8 cC8), (.slice cA9 cN9 cC9)])) 29); let h_1 : Heap := (h_).push (.cells #[(.int .i64 0), (.slice none 0 0), (.slice none 0 0), (.slice none 0 0), (.slice none 0 0), (.slice none 0 0), (.slice none 0 0), (.slice none 0 0), (.slice none 0 0), (.slice none 0 0), (.slice none 0 0)] 29); ∃ (t : Int), ∃ (A : Option Addr), ∃ (N : Nat), ∃ (C : Nat), ∃ (A1 : Option Addr), ∃ (N1 : Nat), ∃ (C1 : Nat), ∃ (A2 : Option Addr), ∃ (N2 : Nat), ∃ (C2 : Nat), ∃ (A3 : Option Addr), ∃ (N3 : Nat), ∃ (C3 : Nat), ∃ (A4 : Option Addr), ∃ (N4 : Nat), ∃ (C4 : Nat), ∃ (A5 : Option Addr), ∃ (N5 : Nat), ∃ (C5 : Nat), ∃ (A6 : Option Addr), ∃ (N6 : Nat), ∃ (C6 : Nat), ∃ (A7 : Option Addr), ∃ (N7 : Nat), ∃ (C7 : Nat), ∃ (A8 : Option Addr), ∃ (N8 : Nat), ∃ (C8 : Nat), ∃ (A9 : Option Addr), ∃ (N9 : Nat), ∃ (C9 : Nat), cellsH h_1 (Addr.mk (h).size 0 none) 0 [(.int .i64 t), (.slice A N C), (.slice A1 N1 C1), (.slice A2 N2 C2), (.slice A3 N3 C3), (.slice A4 N4 C4), (.slice A5 N5 C5), (.slice A6 N6 C6), (.slice A7 N7 C7), (.slice A8 N8 C8), (.slice A9 N9 C9)] ∧ CallsH P 48 #[(.agg #[(.int .i64 t), (.slice A N C), (.slice A1 N1 C1), (.slice A2 N2 C2), (.slice A3 N3 C3), (.slice A4 N4 C4), (.slice A5 N5 C5), (.slice A6 N6 C6), (.slice A7 N7 C7), (.slice A8 N8 C8), (.slice A9 N9 C9)])] h_1 fun v h_2 =>
 ∃ (t1 : Int), ∃ (A10 : Option Addr), ∃ (N10 : Nat), ∃ (C10 : Nat), ∃ (A11 : Option Addr), ∃ (N11 : Nat), ∃ (C11 : Nat), ∃ (A12 : Option Addr), ∃ (N12 : Nat), ∃ (C12 : Nat), ∃ (A13 : Option Addr), ∃ (N13 : Nat), ∃ (C13 : Nat), ∃ (A14 : Option Addr), ∃ (N14 : Nat), ∃ (C14 : Nat), ∃ (A15 : Option Addr), ∃ (N15 : Nat), ∃ (C15 : Nat), ∃ (A16 : Option Addr), ∃ (N16 : Nat), ∃ (C16 : Nat), ∃ (A17 : Option Addr), ∃ (N17 : Nat), ∃ (C17 : Nat), ∃ (A18 : Option Addr), ∃ (N18 : Nat), ∃ (C18 : Nat), ∃ (A19 : Option Addr), ∃ (N19 : Nat), ∃ (C19 : Nat), v = (.agg #[(.int .i64 t1), (.slice A10 N10 C10), (.slice A11 N11 C11), (.slice A12 N12 C12), (.slice A13 N13 C13), (.slice A14 N14 C14), (.slice A15 N15 C15), (.slice A16 N16 C16), (.slice A17 N17 C17), (.slice A18 N18 C18), (.slice A19 N19 C19)]) ∧ let h_3 : Heap := (h_2).push (.cells #[(.int .i64 0), (.slice none 0 0), (.slice none 0 0), (.slice none 0 0), (.slice none 0 0), (.slice none 0 0), (.slice none 0 0), (.slice none 0 0), (.slice none 0 0), (.slice none 0 0), (.slice none 0 0)] 29); StoreH h_3 (Addr.mk (h_2).size 0 none) [(.int .i64 t1), (.slice A10 N10 C10), (.slice A11 N11 C11), (.slice A12 N12 C12), (.slice A13 N13 C13), (.slice A14 N14 C14), (.slice A15 N15 C15), (.slice A16 N16 C16), (.slice A17 N17 C17), (.slice A18 N18 C18), (.slice A19 N19 C19)] fun h_4 => (Addr.block (Addr.add (Addr.mk (h).size 0 none) 1)) < (h_4).size ∧ ∃ (A20 : Option Addr), ∃ (N20 : Nat), ∃ (C20 : Nat), cellH h_4 (Addr.add (Addr.mk (h).size 0 none) 1) = some (.slice A20 N20 C20) ∧ CallsH P 36 #[(.slice A20 N20 C20)] h_4 fun v1 h_5 =>
 ∃ (A21 : Option Addr), ∃ (N21 : Nat), ∃ (C21 : Nat), v1 = (.slice A21 N21 C21) ∧ AgreeH (h_4).size h_4 h_5 ∧ (Addr.block (Addr.add (Addr.mk (h).size 0 none) 3)) < (h_4).size ∧ ∃ (A22 : Option Addr), ∃ (N22 : Nat), ∃ (C22 : Nat), cellH h_5 (Addr.add (Addr.mk (h).size 0 none) 3) = some (.slice A22 N22 C22) ∧ CallsH P 36 #[(.slice A22 N22 C22)] h_5 fun v2 h_6 =>
 ∃ (A23 : Option Addr), ∃ (N23 : Nat), ∃ (C23 : Nat), v2 = (.slice A23 N23 C23) ∧ AgreeH (h_4).size h_5 h_6 ∧ (Addr.block (Addr.add (Addr.mk (h).size 0 none) 4)) < (h_4).size ∧ ∃ (A24 : Option Addr), ∃ (N24 : Nat), ∃ (C24 : Nat), cellH h_6 (Addr.add (Addr.mk (h).size 0 none) 4) = some (.slice A24 N24 C24) ∧ CallsH P 36 #[(.slice A24 N24 C24)] h_6 fun v3 h_7 =>
 ∃ (A25 : Option Addr), ∃ (N25 : Nat), ∃ (C25 : Nat), v3 = (.slice A25 N25 C25) ∧ AgreeH (h_4).size h_6 h_7 ∧ StoreH h_7 (Addr.add (Addr.mk (h_2).size 0 none) 1) [(.slice A21 N21 C21)] fun h_8 => StoreH h_8 (Addr.add (Addr.mk (h_2).size 0 none) 3) [(.slice A23 N23 C23)] fun h_9 => StoreH h_9 (Addr.add (Addr.mk (h_2).size 0 none) 4) [(.slice A25 N25 C25)] fun h_10 => (Addr.block (Addr.add (Addr.mk (h).size 0 none) 5)) < (h_10).size ∧ ∃ (A26 : Option Addr), ∃ (N26 : Nat), ∃ (C26 : Nat), cellH h_10 (Addr.add (Addr.mk (h).size 0 none) 5) = some (.slice A26 N26 C26) ∧ CallsH P 36 #[(.slice A26 N26 C26)] h_10 fun v4 h_11 =>
 ∃ (A27 : Option Addr), ∃ (N27 : Nat), ∃ (C27 : Nat), v4 = (.slice A27 N27 C27) ∧ AgreeH (h_10).size h_10 h_11 ∧ (Addr.block (Addr.add (Addr.mk (h).size 0 none) 7)) < (h_10).size ∧ ∃ (A28 : Option Addr), ∃ (N28 : Nat), ∃ (C28 : Nat), cellH h_11 (Addr.add (Addr.mk (h).size 0 none) 7) = some (.slice A28 N28 C28) ∧ CallsH P 36 #[(.slice A28 N28 C28)] h_11 fun v5 h_12 =>
 ∃ (A29 : Option Addr), ∃ (N29 : Nat), ∃ (C29 : Nat), v5 = (.slice A29 N29 C29) ∧ AgreeH (h_10).size h_11 h_12 ∧ StoreH h_12 (Addr.add (Addr.mk (h_2).size 0 none) 5) [(.slice A27 N27 C27)] fun h_13 => StoreH h_13 (Addr.add (Addr.mk (h_2).size 0 none) 7) [(.slice A29 N29 C29)] fun h_14 => ∃ zn : Zone, Zone.hasL zn h_14 (Addr.add (Addr.mk (h_2).size 0 none) 2) ∧ ∃ (A30 : Option Addr), ∃ (N30 : Nat), ∃ (C30 : Nat), cellH h_14 (Addr.add (Addr.mk (h_2).size 0 none) 2) = some (.slice A30 N30 C30) ∧ let h_15 : Heap := (h_14).push (.cells #[(.int .i64 (-77)), (.int .i64 0), (.int .i64 0)] 80); Zone.r zn h_14 h_15 ∧ ∃ ys : List Value, ReadL h_15 (some (Addr.mk (h_14).size 0 none)) ys ∧ ys.length = 1 * 3 ∧ AppS h_15 A30 N30 C30 80 24 3 #[(.int .i64 0), (.int .i64 0), (.int .i64 0)] ys 1 fun apA apN apC h_16 => Zone.r zn h_15 h_16 ∧ Zone.hasL zn h_16 (Addr.add (Addr.mk (h).size 0 none) 2) ∧ ∃ (A31 : Option Addr), ∃ (N31 : Nat), ∃ (C31 : Nat), cellH h_16 (Addr.add (Addr.mk (h).size 0 none) 2) = some (.slice A31 N31 C31) ∧ 0 ≤ (0 : Int) ∧ (0 : Int) ≤ ((N31 : Nat) : Int) ∧ (((N31 : Nat) : Int) : Int) ≤ (apC : Nat) ∧ StoreH h_16 (Addr.add (Addr.mk (h_2).size 0 none) 2) [(.slice (cutA 3 apA apC (Int.toNat 0)) (Int.toNat ((N31 : Nat) : Int) - Int.toNat 0) (apC - Int.toNat 0))] fun h_17 => ∃ zn1 : Zone, Zone.hasL zn1 h_17 (Addr.add (Addr.mk (h_2).size 0 none) 8) ∧ ∃ (A32 : Option Addr), ∃ (N32 : Nat), ∃ (C32 : Nat), cellH h_17 (Addr.add (Addr.mk (h_2).size 0 none) 8) = some (.slice A32 N32 C32) ∧ let h_18 : Heap := (h_17).push (.cells #[(.int .i64 (-77)), (.int .i64 0), (.int .i64 0)] 82); Zone.r zn1 h_17 h_18 ∧ ∃ ys1 : List Value, ReadL h_18 (some (Addr.mk (h_17).size 0 none)) ys1 ∧ ys1.length = 1 * 3 ∧ AppS h_18 A32 N32 C32 82 24 3 #[(.int .i64 0), (.int .i64 0), (.int .i64 0)] ys1 1 fun apA1 apN1 apC1 h_19 => Zone.r zn1 h_18 h_19 ∧ Zone.hasL zn1 h_19 (Addr.add (Addr.mk (h).size 0 none) 8) ∧ ∃ (A33 : Option Addr), ∃ (N33 : Nat), ∃ (C33 : Nat), cellH h_19 (Addr.add (Addr.mk (h).size 0 none) 8) = some (.slice A33 N33 C33) ∧ 0 ≤ (0 : Int) ∧ (0 : Int) ≤ ((N33 : Nat) : Int) ∧ (((N33 : Nat) : Int) : Int) ≤ (apC1 : Nat) ∧ StoreH h_19 (Addr.add (Addr.mk (h_2).size 0 none) 8) [(.slice (cutA 3 apA1 apC1 (Int.toNat 0)) (Int.toNat ((N33 : Nat) : Int) - Int.toNat 0) (apC1 - Int.toNat 0))] fun h_20 => ∃ (t2 : Int), ∃ (A34 : Option Addr), ∃ (N34 : Nat), ∃ (C34 : Nat), ∃ (A35 : Option Addr), ∃ (N35 : Nat), ∃ (C35 : Nat), ∃ (A36 : Option Addr), ∃ (N36 : Nat), ∃ (C36 : Nat), ∃ (A37 : Option Addr), ∃ (N37 : Nat), ∃ (C37 : Nat), ∃ (A38 : Option Addr), ∃ (N38 : Nat), ∃ (C38 : Nat), ∃ (A39 : Option Addr), ∃ (N39 : Nat), ∃ (C39 : Nat), ∃ (A40 : Option Addr), ∃ (N40 : Nat), ∃ (C40 : Nat), ∃ (A41 : Option Addr), ∃ (N41 : Nat), ∃ (C41 : Nat), ∃ (A42 : Option Addr), ∃ (N42 : Nat), ∃ (C42 : Nat), ∃ (A43 : Option Addr), ∃ (N43 : Nat), ∃ (C43 : Nat), cellsH h_20 (Addr.mk (h_2).size 0 none) 0 [(.int .i64 t2), (.slice A34 N34 C34), (.slice A35 N35 C35), (.slice A36 N36 C36), (.slice A37 N37 C37), (.slice A38 N38 C38), (.slice A39 N39 C39), (.slice A40 N40 C40), (.slice A41 N41 C41), (.slice A42 N42 C42), (.slice A43 N43 C43)] ∧ StoreH h_20 (Addr.mk (h_).size 0 none) [(.int .i64 t2), (.slice A34 N34 C34), (.slice A35 N35 C35), (.slice A36 N36 C36), (.slice A37 N37 C37), (.slice A38 N38 C38), (.slice A39 N39 C39), (.slice A40 N40 C40), (.slice A41 N41 C41), (.slice A42 N42 C42), (.slice A43 N43 C43)] fun h_21 => ∃ (t3 : Int), ∃ (A44 : Option Addr), ∃ (N44 : Nat), ∃ (C44 : Nat), ∃ (A45 : Option Addr), ∃ (N45 : Nat), ∃ (C45 : Nat), ∃ (A46 : Option Addr), ∃ (N46 : Nat), ∃ (C46 : Nat), ∃ (A47 : Option Addr), ∃ (N47 : Nat), ∃ (C47 : Nat), ∃ (A48 : Option Addr), ∃ (N48 : Nat), ∃ (C48 : Nat), ∃ (A49 : Option Addr), ∃ (N49 : Nat), ∃ (C49 : Nat), ∃ (A50 : Option Addr), ∃ (N50 : Nat), ∃ (C50 : Nat), ∃ (A51 : Option Addr), ∃ (N51 : Nat), ∃ (C51 : Nat), ∃ (A52 : Option Addr), ∃ (N52 : Nat), ∃ (C52 : Nat), ∃ (A53 : Option Addr), ∃ (N53 : Nat), ∃ (C53 : Nat), cellsH h_21 (Addr.mk (h_).size 0 none) 0 [(.int .i64 t3), (.slice A44 N44 C44), (.slice A45 N45 C45), (.slice A46 N46 C46), (.slice A47 N47 C47), (.slice A48 N48 C48), (.slice A49 N49 C49), (.slice A50 N50 C50), (.slice A51 N51 C51), (.slice A52 N52 C52), (.slice A53 N53 C53)] ∧ R (.agg #[(.int .i64 t3), (.slice A44 N44 C44), (.slice A45 N45 C45), (.slice A46 N46 C46), (.slice A47 N47 C47), (.slice A48 N48 C48), (.slice A49 N49 C49), (.slice A50 N50 C50), (.slice A51 N51 C51), (.slice A52 N52 C52), (.slice A53 N53 C53)]) h_21
theorem vc13 (P : Program) (c : Int) (cA : Option Addr) (cN : Nat) (cC : Nat) (cA1 : Option Addr) (cN1 : Nat) (cC1 : Nat) (cA2 : Option Addr) (cN2 : Nat) (cC2 : Nat) (cA3 : Option Addr) (cN3 : Nat) (cC3 : Nat) (cA4 : Option Addr) (cN4 : Nat) (cC4 : Nat) (cA5 : Option Addr) (cN5 : Nat) (cC5 : Nat) (cA6 : Option Addr) (cN6 : Nat) (cC6 : Nat) (cA7 : Option Addr) (cN7 : Nat) (cC7 : Nat) (cA8 : Option Addr) (cN8 : Nat) (cC8 : Nat) (cA9 : Option Addr) (cN9 : Nat) (cC9 : Nat) (R : Value → Heap → Prop) (h : Heap) : fnC P ret13 code13 [(.agg #[(.int .i64 c), (.slice cA cN cC), (.slice cA1 cN1 cC1), (.slice cA2 cN2 cC2), (.slice cA3 cN3 cC3), (.slice cA4 cN4 cC4), (.slice cA5 cN5 cC5), (.slice cA6 cN6 cC6), (.slice cA7 cN7 cC7), (.slice cA8 cN8 cC8), (.slice cA9 cN9 cC9)])] h R = VC13 P c cA cN cC cA1 cN1 cC1 cA2 cN2 cC2 cA3 cN3 cC3 cA4 cN4 cC4 cA5 cN5 cC5 cA6 cN6 cC6 cA7 cN7 cC7 cA8 cN8 cC8 cA9 cN9 cC9 R h := by kernel_rfl
theorem run13 (c : Int) (cA : Option Addr) (cN : Nat) (cC : Nat) (cA1 : Option Addr) (cN1 : Nat) (cC1 : Nat) (cA2 : Option Addr) (cN2 : Nat) (cC2 : Nat) (cA3 : Option Addr) (cN3 : Nat) (cC3 : Nat) (cA4 : Option Addr) (cN4 : Nat) (cC4 : Nat) (cA5 : Option Addr) (cN5 : Nat) (cC5 : Nat) (cA6 : Option Addr) (cN6 : Nat) (cC6 : Nat) (cA7 : Option Addr) (cN7 : Nat) (cC7 : Nat) (cA8 : Option Addr) (cN8 : Nat) (cC8 : Nat) (cA9 : Option Addr) (cN9 : Nat) (cC9 : Nat) (R : Value → Heap → Prop) (h : Heap) (hv : VC13 Try.prog c cA cN cC cA1 cN1 cC1 cA2 cN2 cC2 cA3 cN3 cC3 cA4 cN4 cC4 cA5 cN5 cC5 cA6 cN6 cC6 cA7 cN7 cC7 cA8 cN8 cC8 cA9 cN9 cC9 R h) : CallsH Try.prog 13 #[(.agg #[(.int .i64 c), (.slice cA cN cC), (.slice cA1 cN1 cC1), (.slice cA2 cN2 cC2), (.slice cA3 cN3 cC3), (.slice cA4 cN4 cC4), (.slice cA5 cN5 cC5), (.slice cA6 cN6 cC6), (.slice cA7 cN7 cC7), (.slice cA8 cN8 cC8), (.slice cA9 cN9 cC9)])] h R := calls_of_fnC (Checked.mixed Try.checked) Try.func13 comp13 (Nat.le_of_ble_eq_true rfl) (by rw [vc13]; exact hv)

/-! 21: trestle/trestlebook.KeptCircuit -/
def code21 : SCode := (.seq (.region .txt [⟨(some 2), .box 29 (.tmp 0), none⟩,
  ⟨(some 3), .box 29 (.tmp 1), none⟩,
  ⟨(some 4), .mv (.const (.bool false)), none⟩]) (.seq (.region .txt [⟨(some 6), .fldA 1 (.tmp 2), none⟩,
  ⟨(some 7), .ld (.slice) (.tmp 6), none⟩,
  ⟨(some 8), .fldA 1 (.tmp 3), none⟩,
  ⟨(some 9), .ld (.slice) (.tmp 8), none⟩,
  ⟨(some 10), .call 44 [(.tmp 7), (.tmp 9)] (.val (.one (.bool))), none⟩,
  ⟨(some 11), .mv (.tmp 10), none⟩,
  ⟨(some 12), .fldA 3 (.tmp 2), (some (11, true))⟩,
  ⟨(some 13), .ld (.slice) (.tmp 12), (some (11, true))⟩,
  ⟨(some 14), .fldA 3 (.tmp 3), (some (11, true))⟩,
  ⟨(some 15), .ld (.slice) (.tmp 14), (some (11, true))⟩,
  ⟨(some 16), .call 44 [(.tmp 13), (.tmp 15)] (.val (.one (.bool))), (some (11, true))⟩,
  ⟨(some 17), .pick (.tmp 11) (.tmp 16) (.const (.bool false)), none⟩,
  ⟨(some 18), .mv (.tmp 17), none⟩,
  ⟨(some 19), .fldA 4 (.tmp 2), (some (18, true))⟩,
  ⟨(some 20), .ld (.slice) (.tmp 19), (some (18, true))⟩,
  ⟨(some 21), .fldA 4 (.tmp 3), (some (18, true))⟩,
  ⟨(some 22), .ld (.slice) (.tmp 21), (some (18, true))⟩,
  ⟨(some 23), .call 44 [(.tmp 20), (.tmp 22)] (.val (.one (.bool))), (some (18, true))⟩,
  ⟨(some 24), .pick (.tmp 18) (.tmp 23) (.const (.bool false)), none⟩,
  ⟨(some 25), .mv (.tmp 24), none⟩,
  ⟨(some 26), .fldA 5 (.tmp 2), (some (25, true))⟩,
  ⟨(some 27), .ld (.slice) (.tmp 26), (some (25, true))⟩,
  ⟨(some 28), .fldA 5 (.tmp 3), (some (25, true))⟩,
  ⟨(some 29), .ld (.slice) (.tmp 28), (some (25, true))⟩,
  ⟨(some 30), .call 44 [(.tmp 27), (.tmp 29)] (.val (.one (.bool))), (some (25, true))⟩,
  ⟨(some 31), .pick (.tmp 25) (.tmp 30) (.const (.bool false)), none⟩,
  ⟨(some 32), .mv (.tmp 31), none⟩,
  ⟨(some 33), .fldA 7 (.tmp 2), (some (32, true))⟩,
  ⟨(some 34), .ld (.slice) (.tmp 33), (some (32, true))⟩,
  ⟨(some 35), .fldA 7 (.tmp 3), (some (32, true))⟩,
  ⟨(some 36), .ld (.slice) (.tmp 35), (some (32, true))⟩,
  ⟨(some 37), .call 44 [(.tmp 34), (.tmp 36)] (.val (.one (.bool))), (some (32, true))⟩,
  ⟨(some 38), .pick (.tmp 32) (.tmp 37) (.const (.bool false)), none⟩,
  ⟨(some 5), .mv (.tmp 38), none⟩]) (.seq (.region .txt [⟨(some 39), .mv (.tmp 5), none⟩,
  ⟨(some 40), .mv (.tmp 39), none⟩,
  ⟨(some 41), .ldn [.int .i64, .slice, .slice, .slice, .slice, .slice, .slice, .slice, .slice, .slice, .slice] (.tmp 2), (some (40, true))⟩,
  ⟨(some 42), .ldn [.int .i64, .slice, .slice, .slice, .slice, .slice, .slice, .slice, .slice, .slice, .slice] (.tmp 3), (some (40, true))⟩,
  ⟨(some 43), .call 33 [(.tmp 41), (.tmp 42)] (.val (.one (.bool))), (some (40, true))⟩,
  ⟨(some 44), .pick (.tmp 40) (.tmp 43) (.const (.bool false)), none⟩,
  ⟨(some 45), .mv (.tmp 44), none⟩,
  ⟨(some 46), .fldA 2 (.tmp 2), (some (45, true))⟩,
  ⟨(some 47), .ld (.slice) (.tmp 46), (some (45, true))⟩,
  ⟨(some 48), .fldA 2 (.tmp 3), (some (45, true))⟩,
  ⟨(some 49), .ld (.slice) (.tmp 48), (some (45, true))⟩,
  ⟨(some 50), .len (.tmp 49), (some (45, true))⟩,
  ⟨(some 51), .arith .add .i64 (.tmp 50) (.const (.int .i64 1)), (some (45, true))⟩,
  ⟨(some 52), .slc 3 (.tmp 47) none (some (.tmp 51)), (some (45, true))⟩,
  ⟨(some 53), .fldA 2 (.tmp 3), (some (45, true))⟩,
  ⟨(some 54), .ld (.slice) (.tmp 53), (some (45, true))⟩,
  ⟨(some 55), .len (.tmp 54), (some (45, true))⟩,
  ⟨(some 56), .idxA 3 (.tmp 52) (.tmp 55), (some (45, true))⟩,
  ⟨(some 57), .ldn [.int .i64, .int .i64, .int .i64] (.tmp 56), (some (45, true))⟩,
  ⟨(some 58), .mkAgg #[(.int .i64 0), (.int .i64 0), (.int .i64 0)] [(0, 1, (.const (.int .i64 (-77))))], (some (45, true))⟩,
  ⟨(some 59), .eqagg false [.int .i64, .int .i64, .int .i64] (.tmp 57) (.tmp 58), (some (45, true))⟩,
  ⟨(some 60), .pick (.tmp 45) (.tmp 59) (.const (.bool false)), none⟩,
  ⟨(some 61), .mv (.tmp 60), none⟩,
  ⟨(some 62), .fldA 8 (.tmp 2), (some (61, true))⟩,
  ⟨(some 63), .ld (.slice) (.tmp 62), (some (61, true))⟩,
  ⟨(some 64), .fldA 8 (.tmp 3), (some (61, true))⟩,
  ⟨(some 65), .ld (.slice) (.tmp 64), (some (61, true))⟩,
  ⟨(some 66), .len (.tmp 65), (some (61, true))⟩,
  ⟨(some 67), .arith .add .i64 (.tmp 66) (.const (.int .i64 1)), (some (61, true))⟩,
  ⟨(some 68), .slc 3 (.tmp 63) none (some (.tmp 67)), (some (61, true))⟩,
  ⟨(some 69), .fldA 8 (.tmp 3), (some (61, true))⟩,
  ⟨(some 70), .ld (.slice) (.tmp 69), (some (61, true))⟩,
  ⟨(some 71), .len (.tmp 70), (some (61, true))⟩,
  ⟨(some 72), .idxA 3 (.tmp 68) (.tmp 71), (some (61, true))⟩,
  ⟨(some 73), .ldn [.int .i64, .int .i64, .int .i64] (.tmp 72), (some (61, true))⟩,
  ⟨(some 74), .mkAgg #[(.int .i64 0), (.int .i64 0), (.int .i64 0)] [(0, 1, (.const (.int .i64 (-77))))], (some (61, true))⟩,
  ⟨(some 75), .eqagg false [.int .i64, .int .i64, .int .i64] (.tmp 73) (.tmp 74), (some (61, true))⟩,
  ⟨(some 76), .pick (.tmp 61) (.tmp 75) (.const (.bool false)), none⟩,
  ⟨(some 4), .mv (.tmp 76), none⟩]) .ret)))
def loops21 : List (List (Nat × Shp)) := []
def ret21 : List RV := [.tmp 4]
theorem comp21 : compF Try.prog Try.f21 loops21 = some (77, ret21, code21) := by kernel_rfl
def VC21 (P : Program) (c : Int) (cA : Option Addr) (cN : Nat) (cC : Nat) (cA1 : Option Addr) (cN1 : Nat) (cC1 : Nat) (cA2 : Option Addr) (cN2 : Nat) (cC2 : Nat) (cA3 : Option Addr) (cN3 : Nat) (cC3 : Nat) (cA4 : Option Addr) (cN4 : Nat) (cC4 : Nat) (cA5 : Option Addr) (cN5 : Nat) (cC5 : Nat) (cA6 : Option Addr) (cN6 : Nat) (cC6 : Nat) (cA7 : Option Addr) (cN7 : Nat) (cC7 : Nat) (cA8 : Option Addr) (cN8 : Nat) (cC8 : Nat) (cA9 : Option Addr) (cN9 : Nat) (cC9 : Nat) (was : Int) (wasA : Option Addr) (wasN : Nat) (wasC : Nat) (wasA1 : Option Addr) (wasN1 : Nat) (wasC1 : Nat) (wasA2 : Option Addr) (wasN2 : Nat) (wasC2 : Nat) (wasA3 : Option Addr) (wasN3 : Nat) (wasC3 : Nat) (wasA4 : Option Addr) (wasN4 : Nat) (wasC4 : Nat) (wasA5 : Option Addr) (wasN5 : Nat) (wasC5 : Nat) (wasA6 : Option Addr) (wasN6 : Nat) (wasC6 : Nat) (wasA7 : Option Addr) (wasN7 : Nat) (wasC7 : Nat) (wasA8 : Option Addr) (wasN8 : Nat) (wasC8 : Nat) (wasA9 : Option Addr) (wasN9 : Nat) (wasC9 : Nat) (R : Value → Heap → Prop) (h : Heap) : Prop :=
 let h_ : Heap := (h).push (.cells (Value.cells (.agg #[(.int .i64 c), (.slice cA cN cC), (.slice cA1 cN1 cC1), (.slice cA2 cN2 cC2), (.slice cA3 cN3 cC3), (.slice cA4 cN4 cC4), (.slice cA5 cN5 cC5), (.slice cA6 cN6 cC6), (.slice cA7 cN7 cC7), (.slice cA8 cN8 cC8), (.slice cA9 cN9 cC9)])) 29); let h_1 : Heap := (h_).push (.cells (Value.cells (.agg #[(.int .i64 was), (.slice wasA wasN wasC), (.slice wasA1 wasN1 wasC1), (.slice wasA2 wasN2 wasC2), (.slice wasA3 wasN3 wasC3), (.slice wasA4 wasN4 wasC4), (.slice wasA5 wasN5 wasC5), (.slice wasA6 wasN6 wasC6), (.slice wasA7 wasN7 wasC7), (.slice wasA8 wasN8 wasC8), (.slice wasA9 wasN9 wasC9)])) 29); ∃ (A : Option Addr), ∃ (N : Nat), ∃ (C : Nat), cellH h_1 (Addr.add (Addr.mk (h).size 0 none) 1) = some (.slice A N C) ∧ ∃ (A1 : Option Addr), ∃ (N1 : Nat), ∃ (C1 : Nat), cellH h_1 (Addr.add (Addr.mk (h_).size 0 none) 1) = some (.slice A1 N1 C1) ∧ CallsH P 44 #[(.slice A N C), (.slice A1 N1 C1)] h_1 fun v h_2 =>
 ∃ (t : Bool), v = (.bool t) ∧ BIf t (∃ (A2 : Option Addr), ∃ (N2 : Nat), ∃ (C2 : Nat), cellH h_2 (Addr.add (Addr.mk (h).size 0 none) 3) = some (.slice A2 N2 C2) ∧ ∃ (A3 : Option Addr), ∃ (N3 : Nat), ∃ (C3 : Nat), cellH h_2 (Addr.add (Addr.mk (h_).size 0 none) 3) = some (.slice A3 N3 C3) ∧ CallsH P 44 #[(.slice A2 N2 C2), (.slice A3 N3 C3)] h_2 fun v1 h_3 =>
 ∃ (t1 : Bool), v1 = (.bool t1) ∧ BIf t1 (∃ (A4 : Option Addr), ∃ (N4 : Nat), ∃ (C4 : Nat), cellH h_3 (Addr.add (Addr.mk (h).size 0 none) 4) = some (.slice A4 N4 C4) ∧ ∃ (A5 : Option Addr), ∃ (N5 : Nat), ∃ (C5 : Nat), cellH h_3 (Addr.add (Addr.mk (h_).size 0 none) 4) = some (.slice A5 N5 C5) ∧ CallsH P 44 #[(.slice A4 N4 C4), (.slice A5 N5 C5)] h_3 fun v2 h_4 =>
 ∃ (t2 : Bool), v2 = (.bool t2) ∧ BIf t2 (∃ (A6 : Option Addr), ∃ (N6 : Nat), ∃ (C6 : Nat), cellH h_4 (Addr.add (Addr.mk (h).size 0 none) 5) = some (.slice A6 N6 C6) ∧ ∃ (A7 : Option Addr), ∃ (N7 : Nat), ∃ (C7 : Nat), cellH h_4 (Addr.add (Addr.mk (h_).size 0 none) 5) = some (.slice A7 N7 C7) ∧ CallsH P 44 #[(.slice A6 N6 C6), (.slice A7 N7 C7)] h_4 fun v3 h_5 =>
 ∃ (t3 : Bool), v3 = (.bool t3) ∧ BIf t3 (∃ (A8 : Option Addr), ∃ (N8 : Nat), ∃ (C8 : Nat), cellH h_5 (Addr.add (Addr.mk (h).size 0 none) 7) = some (.slice A8 N8 C8) ∧ ∃ (A9 : Option Addr), ∃ (N9 : Nat), ∃ (C9 : Nat), cellH h_5 (Addr.add (Addr.mk (h_).size 0 none) 7) = some (.slice A9 N9 C9) ∧ CallsH P 44 #[(.slice A8 N8 C8), (.slice A9 N9 C9)] h_5 fun v4 h_6 =>
 ∃ (t4 : Bool), v4 = (.bool t4) ∧ BIf t4 (∃ (t5 : Int), ∃ (A10 : Option Addr), ∃ (N10 : Nat), ∃ (C10 : Nat), ∃ (A11 : Option Addr), ∃ (N11 : Nat), ∃ (C11 : Nat), ∃ (A12 : Option Addr), ∃ (N12 : Nat), ∃ (C12 : Nat), ∃ (A13 : Option Addr), ∃ (N13 : Nat), ∃ (C13 : Nat), ∃ (A14 : Option Addr), ∃ (N14 : Nat), ∃ (C14 : Nat), ∃ (A15 : Option Addr), ∃ (N15 : Nat), ∃ (C15 : Nat), ∃ (A16 : Option Addr), ∃ (N16 : Nat), ∃ (C16 : Nat), ∃ (A17 : Option Addr), ∃ (N17 : Nat), ∃ (C17 : Nat), ∃ (A18 : Option Addr), ∃ (N18 : Nat), ∃ (C18 : Nat), ∃ (A19 : Option Addr), ∃ (N19 : Nat), ∃ (C19 : Nat), cellsH h_6 (Addr.mk (h).size 0 none) 0 [(.int .i64 t5), (.slice A10 N10 C10), (.slice A11 N11 C11), (.slice A12 N12 C12), (.slice A13 N13 C13), (.slice A14 N14 C14), (.slice A15 N15 C15), (.slice A16 N16 C16), (.slice A17 N17 C17), (.slice A18 N18 C18), (.slice A19 N19 C19)] ∧ ∃ (t6 : Int), ∃ (A20 : Option Addr), ∃ (N20 : Nat), ∃ (C20 : Nat), ∃ (A21 : Option Addr), ∃ (N21 : Nat), ∃ (C21 : Nat), ∃ (A22 : Option Addr), ∃ (N22 : Nat), ∃ (C22 : Nat), ∃ (A23 : Option Addr), ∃ (N23 : Nat), ∃ (C23 : Nat), ∃ (A24 : Option Addr), ∃ (N24 : Nat), ∃ (C24 : Nat), ∃ (A25 : Option Addr), ∃ (N25 : Nat), ∃ (C25 : Nat), ∃ (A26 : Option Addr), ∃ (N26 : Nat), ∃ (C26 : Nat), ∃ (A27 : Option Addr), ∃ (N27 : Nat), ∃ (C27 : Nat), ∃ (A28 : Option Addr), ∃ (N28 : Nat), ∃ (C28 : Nat), ∃ (A29 : Option Addr), ∃ (N29 : Nat), ∃ (C29 : Nat), cellsH h_6 (Addr.mk (h_).size 0 none) 0 [(.int .i64 t6), (.slice A20 N20 C20), (.slice A21 N21 C21), (.slice A22 N22 C22), (.slice A23 N23 C23), (.slice A24 N24 C24), (.slice A25 N25 C25), (.slice A26 N26 C26), (.slice A27 N27 C27), (.slice A28 N28 C28), (.slice A29 N29 C29)] ∧ CallsH P 33 #[(.agg #[(.int .i64 t5), (.slice A10 N10 C10), (.slice A11 N11 C11), (.slice A12 N12 C12), (.slice A13 N13 C13), (.slice A14 N14 C14), (.slice A15 N15 C15), (.slice A16 N16 C16), (.slice A17 N17 C17), (.slice A18 N18 C18), (.slice A19 N19 C19)]), (.agg #[(.int .i64 t6), (.slice A20 N20 C20), (.slice A21 N21 C21), (.slice A22 N22 C22), (.slice A23 N23 C23), (.slice A24 N24 C24), (.slice A25 N25 C25), (.slice A26 N26 C26), (.slice A27 N27 C27), (.slice A28 N28 C28), (.slice A29 N29 C29)])] h_6 fun v5 h_7 =>
 ∃ (t7 : Bool), v5 = (.bool t7) ∧ BIf t7 (∃ (A30 : Option Addr), ∃ (N30 : Nat), ∃ (C30 : Nat), cellH h_7 (Addr.add (Addr.mk (h).size 0 none) 2) = some (.slice A30 N30 C30) ∧ ∃ (A31 : Option Addr), ∃ (N31 : Nat), ∃ (C31 : Nat), cellH h_7 (Addr.add (Addr.mk (h_).size 0 none) 2) = some (.slice A31 N31 C31) ∧ 0 ≤ (0 : Int) ∧ (0 : Int) ≤ (IntKind.wrap .i64 (((N31 : Nat) : Int) + 1)) ∧ ((IntKind.wrap .i64 (((N31 : Nat) : Int) + 1)) : Int) ≤ (C30 : Nat) ∧ ∃ (A32 : Option Addr), ∃ (N32 : Nat), ∃ (C32 : Nat), cellH h_7 (Addr.add (Addr.mk (h_).size 0 none) 2) = some (.slice A32 N32 C32) ∧ 0 ≤ (((N32 : Nat) : Int) : Int) ∧ (((N32 : Nat) : Int) : Int) < ((Int.toNat (IntKind.wrap .i64 (((N31 : Nat) : Int) + 1)) - Int.toNat 0) : Nat) ∧ AtP (cutA 3 A30 C30 (Int.toNat 0)) fun ad => ∃ (t8 : Int), ∃ (t9 : Int), ∃ (t10 : Int), cellsH h_7 (Addr.add ad (Int.toNat ((N32 : Nat) : Int) * 3)) 0 [(.int .i64 t8), (.int .i64 t9), (.int .i64 t10)] ∧ PIf ((#[(.int .i64 t8), (.int .i64 t9), (.int .i64 t10)] : Array Value) = #[(.int .i64 (-77)), (.int .i64 0), (.int .i64 0)])
 (∃ (A33 : Option Addr), ∃ (N33 : Nat), ∃ (C33 : Nat), cellH h_7 (Addr.add (Addr.mk (h).size 0 none) 8) = some (.slice A33 N33 C33) ∧ ∃ (A34 : Option Addr), ∃ (N34 : Nat), ∃ (C34 : Nat), cellH h_7 (Addr.add (Addr.mk (h_).size 0 none) 8) = some (.slice A34 N34 C34) ∧ 0 ≤ (0 : Int) ∧ (0 : Int) ≤ (IntKind.wrap .i64 (((N34 : Nat) : Int) + 1)) ∧ ((IntKind.wrap .i64 (((N34 : Nat) : Int) + 1)) : Int) ≤ (C33 : Nat) ∧ ∃ (A35 : Option Addr), ∃ (N35 : Nat), ∃ (C35 : Nat), cellH h_7 (Addr.add (Addr.mk (h_).size 0 none) 8) = some (.slice A35 N35 C35) ∧ 0 ≤ (((N35 : Nat) : Int) : Int) ∧ (((N35 : Nat) : Int) : Int) < ((Int.toNat (IntKind.wrap .i64 (((N34 : Nat) : Int) + 1)) - Int.toNat 0) : Nat) ∧ AtP (cutA 3 A33 C33 (Int.toNat 0)) fun ad1 => ∃ (t11 : Int), ∃ (t12 : Int), ∃ (t13 : Int), cellsH h_7 (Addr.add ad1 (Int.toNat ((N35 : Nat) : Int) * 3)) 0 [(.int .i64 t11), (.int .i64 t12), (.int .i64 t13)] ∧ PIf ((#[(.int .i64 t11), (.int .i64 t12), (.int .i64 t13)] : Array Value) = #[(.int .i64 (-77)), (.int .i64 0), (.int .i64 0)])
 (R (.bool true) h_7)
 (R (.bool false) h_7))
 (R (.bool false) h_7)) (R (.bool false) h_7)) (R (.bool false) h_6)) (R (.bool false) h_5)) (R (.bool false) h_4)) (R (.bool false) h_3)) (R (.bool false) h_2)
theorem vc21 (P : Program) (c : Int) (cA : Option Addr) (cN : Nat) (cC : Nat) (cA1 : Option Addr) (cN1 : Nat) (cC1 : Nat) (cA2 : Option Addr) (cN2 : Nat) (cC2 : Nat) (cA3 : Option Addr) (cN3 : Nat) (cC3 : Nat) (cA4 : Option Addr) (cN4 : Nat) (cC4 : Nat) (cA5 : Option Addr) (cN5 : Nat) (cC5 : Nat) (cA6 : Option Addr) (cN6 : Nat) (cC6 : Nat) (cA7 : Option Addr) (cN7 : Nat) (cC7 : Nat) (cA8 : Option Addr) (cN8 : Nat) (cC8 : Nat) (cA9 : Option Addr) (cN9 : Nat) (cC9 : Nat) (was : Int) (wasA : Option Addr) (wasN : Nat) (wasC : Nat) (wasA1 : Option Addr) (wasN1 : Nat) (wasC1 : Nat) (wasA2 : Option Addr) (wasN2 : Nat) (wasC2 : Nat) (wasA3 : Option Addr) (wasN3 : Nat) (wasC3 : Nat) (wasA4 : Option Addr) (wasN4 : Nat) (wasC4 : Nat) (wasA5 : Option Addr) (wasN5 : Nat) (wasC5 : Nat) (wasA6 : Option Addr) (wasN6 : Nat) (wasC6 : Nat) (wasA7 : Option Addr) (wasN7 : Nat) (wasC7 : Nat) (wasA8 : Option Addr) (wasN8 : Nat) (wasC8 : Nat) (wasA9 : Option Addr) (wasN9 : Nat) (wasC9 : Nat) (R : Value → Heap → Prop) (h : Heap) : fnC P ret21 code21 [(.agg #[(.int .i64 c), (.slice cA cN cC), (.slice cA1 cN1 cC1), (.slice cA2 cN2 cC2), (.slice cA3 cN3 cC3), (.slice cA4 cN4 cC4), (.slice cA5 cN5 cC5), (.slice cA6 cN6 cC6), (.slice cA7 cN7 cC7), (.slice cA8 cN8 cC8), (.slice cA9 cN9 cC9)]), (.agg #[(.int .i64 was), (.slice wasA wasN wasC), (.slice wasA1 wasN1 wasC1), (.slice wasA2 wasN2 wasC2), (.slice wasA3 wasN3 wasC3), (.slice wasA4 wasN4 wasC4), (.slice wasA5 wasN5 wasC5), (.slice wasA6 wasN6 wasC6), (.slice wasA7 wasN7 wasC7), (.slice wasA8 wasN8 wasC8), (.slice wasA9 wasN9 wasC9)])] h R = VC21 P c cA cN cC cA1 cN1 cC1 cA2 cN2 cC2 cA3 cN3 cC3 cA4 cN4 cC4 cA5 cN5 cC5 cA6 cN6 cC6 cA7 cN7 cC7 cA8 cN8 cC8 cA9 cN9 cC9 was wasA wasN wasC wasA1 wasN1 wasC1 wasA2 wasN2 wasC2 wasA3 wasN3 wasC3 wasA4 wasN4 wasC4 wasA5 wasN5 wasC5 wasA6 wasN6 wasC6 wasA7 wasN7 wasC7 wasA8 wasN8 wasC8 wasA9 wasN9 wasC9 R h := by kernel_rfl
theorem run21 (c : Int) (cA : Option Addr) (cN : Nat) (cC : Nat) (cA1 : Option Addr) (cN1 : Nat) (cC1 : Nat) (cA2 : Option Addr) (cN2 : Nat) (cC2 : Nat) (cA3 : Option Addr) (cN3 : Nat) (cC3 : Nat) (cA4 : Option Addr) (cN4 : Nat) (cC4 : Nat) (cA5 : Option Addr) (cN5 : Nat) (cC5 : Nat) (cA6 : Option Addr) (cN6 : Nat) (cC6 : Nat) (cA7 : Option Addr) (cN7 : Nat) (cC7 : Nat) (cA8 : Option Addr) (cN8 : Nat) (cC8 : Nat) (cA9 : Option Addr) (cN9 : Nat) (cC9 : Nat) (was : Int) (wasA : Option Addr) (wasN : Nat) (wasC : Nat) (wasA1 : Option Addr) (wasN1 : Nat) (wasC1 : Nat) (wasA2 : Option Addr) (wasN2 : Nat) (wasC2 : Nat) (wasA3 : Option Addr) (wasN3 : Nat) (wasC3 : Nat) (wasA4 : Option Addr) (wasN4 : Nat) (wasC4 : Nat) (wasA5 : Option Addr) (wasN5 : Nat) (wasC5 : Nat) (wasA6 : Option Addr) (wasN6 : Nat) (wasC6 : Nat) (wasA7 : Option Addr) (wasN7 : Nat) (wasC7 : Nat) (wasA8 : Option Addr) (wasN8 : Nat) (wasC8 : Nat) (wasA9 : Option Addr) (wasN9 : Nat) (wasC9 : Nat) (R : Value → Heap → Prop) (h : Heap) (hv : VC21 Try.prog c cA cN cC cA1 cN1 cC1 cA2 cN2 cC2 cA3 cN3 cC3 cA4 cN4 cC4 cA5 cN5 cC5 cA6 cN6 cC6 cA7 cN7 cC7 cA8 cN8 cC8 cA9 cN9 cC9 was wasA wasN wasC wasA1 wasN1 wasC1 wasA2 wasN2 wasC2 wasA3 wasN3 wasC3 wasA4 wasN4 wasC4 wasA5 wasN5 wasC5 wasA6 wasN6 wasC6 wasA7 wasN7 wasC7 wasA8 wasN8 wasC8 wasA9 wasN9 wasC9 R h) : CallsH Try.prog 21 #[(.agg #[(.int .i64 c), (.slice cA cN cC), (.slice cA1 cN1 cC1), (.slice cA2 cN2 cC2), (.slice cA3 cN3 cC3), (.slice cA4 cN4 cC4), (.slice cA5 cN5 cC5), (.slice cA6 cN6 cC6), (.slice cA7 cN7 cC7), (.slice cA8 cN8 cC8), (.slice cA9 cN9 cC9)]), (.agg #[(.int .i64 was), (.slice wasA wasN wasC), (.slice wasA1 wasN1 wasC1), (.slice wasA2 wasN2 wasC2), (.slice wasA3 wasN3 wasC3), (.slice wasA4 wasN4 wasC4), (.slice wasA5 wasN5 wasC5), (.slice wasA6 wasN6 wasC6), (.slice wasA7 wasN7 wasC7), (.slice wasA8 wasN8 wasC8), (.slice wasA9 wasN9 wasC9)])] h R := calls_of_fnC (Checked.mixed Try.checked) Try.func21 comp21 (Nat.le_of_ble_eq_true rfl) (by rw [vc21]; exact hv)

/-! 31: trestle/fold.Fold -/
def code31 : SCode := (.seq (.region .txt [⟨(some 1), .box 29 (.tmp 0), none⟩,
  ⟨(some 2), .alloc 29 (.agg #[(.int .i64 0), (.slice none 0 0), (.slice none 0 0), (.slice none 0 0), (.slice none 0 0), (.slice none 0 0), (.slice none 0 0), (.slice none 0 0), (.slice none 0 0), (.slice none 0 0), (.slice none 0 0)]), none⟩,
  ⟨(some 3), .mv (.const (.int .i64 0)), none⟩]) (.seq (.seq (.region .txt [⟨(some 15), .ldn [.int .i64, .slice, .slice, .slice, .slice, .slice, .slice, .slice, .slice, .slice, .slice] (.tmp 1), none⟩,
  ⟨(some 16), .call 45 [(.tmp 15)] (.tup [.one (.int .i64), .one (.int .i64)]), none⟩,
  ⟨(some 14), .mv (.tmp 16), none⟩,
  ⟨(some 17), .extr (.tmp 14) 0, none⟩,
  ⟨(some 18), .extr (.tmp 14) 1, none⟩,
  ⟨(some 4), .mv (.tmp 17), none⟩,
  ⟨(some 5), .mv (.tmp 18), none⟩]) (.seq (.region .txt [⟨(some 19), .mv (.tmp 5), none⟩,
  ⟨(some 20), .icmp .neq .i64 (.tmp 19) (.const (.int .i64 0)), none⟩]) (.cond (.tmp 20) (.seq (.region .txt [⟨(some 21), .mkAgg #[(.int .i64 0), (.slice none 0 0), (.slice none 0 0), (.slice none 0 0), (.slice none 0 0), (.slice none 0 0), (.slice none 0 0), (.slice none 0 0), (.slice none 0 0), (.slice none 0 0), (.slice none 0 0)] [], none⟩,
  ⟨(some 22), .mv (.tmp 5), none⟩,
  ⟨none, .st 11 (.tmp 2) (.tmp 21), none⟩,
  ⟨(some 3), .mv (.tmp 22), none⟩]) .ret) .skip))) (.seq (.region .txt [⟨(some 23), .fldA 5 (.tmp 1), none⟩,
  ⟨(some 24), .ld (.slice) (.tmp 23), none⟩,
  ⟨(some 25), .len (.tmp 24), none⟩,
  ⟨(some 26), .fldA 4 (.tmp 1), none⟩,
  ⟨(some 27), .ld (.slice) (.tmp 26), none⟩,
  ⟨(some 28), .len (.tmp 27), none⟩,
  ⟨(some 29), .arith .add .i64 (.tmp 25) (.tmp 28), none⟩,
  ⟨(some 6), .mv (.tmp 29), none⟩]) (.seq (.seq (.region .txt [⟨(some 30), .fldA 0 (.tmp 1), none⟩,
  ⟨(some 31), .ld (.int .i64) (.tmp 30), none⟩,
  ⟨(some 32), .arith .add .i64 (.tmp 31) (.const (.int .i64 1)), none⟩,
  ⟨(some 33), .mv (.tmp 6), none⟩,
  ⟨(some 34), .arith .add .i64 (.tmp 32) (.tmp 33), none⟩,
  ⟨(some 35), .icmp .gtr .i64 (.tmp 34) (.const (.int .i64 16384)), none⟩,
  ⟨(some 36), .mv (.tmp 35), none⟩,
  ⟨(some 37), .fldA 2 (.tmp 1), (some (36, false))⟩,
  ⟨(some 38), .ld (.slice) (.tmp 37), (some (36, false))⟩,
  ⟨(some 39), .len (.tmp 38), (some (36, false))⟩,
  ⟨(some 40), .icmp .geq .i64 (.tmp 39) (.const (.int .i64 16384)), (some (36, false))⟩,
  ⟨(some 41), .pick (.tmp 36) (.const (.bool true)) (.tmp 40), none⟩,
  ⟨(some 42), .mv (.tmp 41), none⟩,
  ⟨(some 43), .fldA 7 (.tmp 1), (some (42, false))⟩,
  ⟨(some 44), .ld (.slice) (.tmp 43), (some (42, false))⟩,
  ⟨(some 45), .len (.tmp 44), (some (42, false))⟩,
  ⟨(some 46), .icmp .geq .i64 (.tmp 45) (.const (.int .i64 16384)), (some (42, false))⟩,
  ⟨(some 47), .pick (.tmp 42) (.const (.bool true)) (.tmp 46), none⟩,
  ⟨(some 48), .mv (.tmp 47), none⟩,
  ⟨(some 49), .fldA 8 (.tmp 1), (some (48, false))⟩,
  ⟨(some 50), .ld (.slice) (.tmp 49), (some (48, false))⟩,
  ⟨(some 51), .len (.tmp 50), (some (48, false))⟩,
  ⟨(some 52), .mv (.tmp 6), (some (48, false))⟩,
  ⟨(some 53), .arith .add .i64 (.tmp 51) (.tmp 52), (some (48, false))⟩,
  ⟨(some 54), .icmp .gtr .i64 (.tmp 53) (.const (.int .i64 16384)), (some (48, false))⟩,
  ⟨(some 55), .pick (.tmp 48) (.const (.bool true)) (.tmp 54), none⟩]) (.cond (.tmp 55) (.seq (.region .txt [⟨(some 56), .mkAgg #[(.int .i64 0), (.slice none 0 0), (.slice none 0 0), (.slice none 0 0), (.slice none 0 0), (.slice none 0 0), (.slice none 0 0), (.slice none 0 0), (.slice none 0 0), (.slice none 0 0), (.slice none 0 0)] [], none⟩,
  ⟨none, .st 11 (.tmp 2) (.tmp 56), none⟩,
  ⟨(some 3), .mv (.const (.int .i64 2)), none⟩]) .ret) .skip)) (.seq (.region .txt [⟨(some 57), .ldn [.int .i64, .slice, .slice, .slice, .slice, .slice, .slice, .slice, .slice, .slice, .slice] (.tmp 1), none⟩,
  ⟨(some 58), .call 64 [(.tmp 57)] (.val (.one (.ptr))), none⟩,
  ⟨(some 7), .mv (.tmp 58), none⟩]) (.seq (.region .txt [⟨(some 59), .mv (.tmp 7), none⟩,
  ⟨(some 60), .nilck (.tmp 59), none⟩,
  ⟨(some 61), .fldA 0 (.tmp 60), none⟩,
  ⟨(some 62), .fldA 0 (.tmp 61), none⟩,
  ⟨(some 63), .ld (.int .i64) (.tmp 62), none⟩,
  ⟨(some 64), .arith .add .i64 (.tmp 63) (.const (.int .i64 1)), none⟩,
  ⟨(some 65), .nilck (.tmp 59), none⟩,
  ⟨(some 66), .fldA 0 (.tmp 65), none⟩,
  ⟨(some 67), .fldA 0 (.tmp 66), none⟩,
  ⟨none, .st 1 (.tmp 67) (.tmp 64), none⟩]) (.seq (.region .txt [⟨(some 68), .mv (.tmp 7), none⟩,
  ⟨(some 69), .nilck (.tmp 68), none⟩,
  ⟨(some 70), .fldA 0 (.tmp 69), none⟩,
  ⟨(some 71), .fldA 0 (.tmp 70), none⟩,
  ⟨(some 72), .ld (.int .i64) (.tmp 71), none⟩,
  ⟨(some 73), .arith .mul .i64 (.const (.int .i64 2)) (.tmp 72), none⟩,
  ⟨(some 8), .mv (.tmp 73), none⟩]) (.seq (.region .txt [⟨(some 74), .mv (.tmp 8), none⟩,
  ⟨(some 9), .mv (.tmp 74), none⟩]) (.seq (.seq (.region .txt [⟨(some 75), .fldA 5 (.tmp 1), none⟩,
  ⟨(some 76), .ld (.slice) (.tmp 75), none⟩,
  ⟨(some 77), .len (.tmp 76), none⟩,
  ⟨(some 78), .mv (.const (.int .i64 0)), none⟩]) (.block 0 (.loop [(9, .int .i64), (78, .int .i64)] [79, 80, 81, 11, 82, 83, 84, 85, 9, 86, 78] (.seq (.region .txt [⟨(some 79), .icmp .lss .i64 (.tmp 78) (.tmp 77), none⟩]) (.seq (.cond (.tmp 79) .skip (.exit 0)) (.seq (.block 1 (.seq (.region .txt [⟨(some 80), .idxA 1 (.tmp 76) (.tmp 78), none⟩,
  ⟨(some 81), .ld (.int .i64) (.tmp 80), none⟩,
  ⟨(some 11), .mv (.tmp 81), none⟩]) (.region .txt [⟨(some 82), .mv (.tmp 7), none⟩,
  ⟨(some 83), .mv (.tmp 9), none⟩,
  ⟨(some 84), .mv (.tmp 11), none⟩,
  ⟨(some 85), .call 65 [(.tmp 82), (.tmp 83), (.tmp 84)] (.val (.one (.int .i64))), none⟩,
  ⟨(some 9), .mv (.tmp 85), none⟩]))) (.region .txt [⟨(some 86), .arith .add .i64 (.tmp 78) (.const (.int .i64 1)), none⟩,
  ⟨(some 78), .mv (.tmp 86), none⟩]))))))) (.seq (.seq (.region .txt [⟨(some 87), .fldA 4 (.tmp 1), none⟩,
  ⟨(some 88), .ld (.slice) (.tmp 87), none⟩,
  ⟨(some 89), .len (.tmp 88), none⟩,
  ⟨(some 90), .mv (.const (.int .i64 0)), none⟩]) (.block 2 (.loop [(90, .int .i64)] [91, 92, 93, 94, 12, 13, 95, 96, 97, 98, 99, 100, 101, 102, 103, 104, 105, 106, 90] (.seq (.region .txt [⟨(some 91), .icmp .lss .i64 (.tmp 90) (.tmp 89), none⟩]) (.seq (.cond (.tmp 91) .skip (.exit 2)) (.seq (.block 3 (.seq (.region .txt [⟨(some 92), .mv (.tmp 90), none⟩,
  ⟨(some 93), .idxA 1 (.tmp 88) (.tmp 90), none⟩,
  ⟨(some 94), .ld (.int .i64) (.tmp 93), none⟩,
  ⟨(some 12), .mv (.tmp 92), none⟩,
  ⟨(some 13), .mv (.tmp 94), none⟩]) (.region .wide [⟨(some 95), .mv (.tmp 7), none⟩,
  ⟨(some 96), .nilck (.tmp 95), none⟩,
  ⟨(some 97), .fldA 0 (.tmp 96), none⟩,
  ⟨(some 98), .fldA 4 (.tmp 97), none⟩,
  ⟨(some 99), .ld (.slice) (.tmp 98), none⟩,
  ⟨(some 100), .mv (.tmp 12), none⟩,
  ⟨(some 101), .mv (.tmp 7), none⟩,
  ⟨(some 102), .mv (.tmp 13), none⟩,
  ⟨(some 103), .mv (.tmp 9), none⟩,
  ⟨(some 104), .call 65 [(.tmp 101), (.tmp 102), (.tmp 103)] (.val (.one (.int .i64))), none⟩,
  ⟨(some 105), .idxA 1 (.tmp 99) (.tmp 100), none⟩,
  ⟨none, .st 1 (.tmp 105) (.tmp 104), none⟩]))) (.region .txt [⟨(some 106), .arith .add .i64 (.tmp 90) (.const (.int .i64 1)), none⟩,
  ⟨(some 90), .mv (.tmp 106), none⟩]))))))) (.seq (.region .txt [⟨(some 107), .mv (.tmp 7), none⟩,
  ⟨(some 108), .mv (.tmp 7), none⟩,
  ⟨(some 109), .nilck (.tmp 108), none⟩,
  ⟨(some 110), .fldA 0 (.tmp 109), none⟩,
  ⟨(some 111), .fldA 2 (.tmp 110), none⟩,
  ⟨(some 112), .ld (.slice) (.tmp 111), none⟩,
  ⟨(some 113), .mv (.tmp 8), none⟩,
  ⟨(some 114), .mv (.tmp 9), none⟩,
  ⟨(some 115), .mkAgg #[(.int .i64 0), (.int .i64 0), (.int .i64 0)] [(0, 1, (.tmp 113)), (1, 1, (.tmp 114)), (2, 1, (.const (.int .i64 1)))], none⟩,
  ⟨(some 116), .lit 80 1 #[(.int .i64 0), (.int .i64 0), (.int .i64 0)] [(0, 3, (.tmp 115))], none⟩,
  ⟨(some 117), .app 80 24 3 #[(.int .i64 0), (.int .i64 0), (.int .i64 0)] (.tmp 112) (.tmp 116), none⟩,
  ⟨(some 118), .nilck (.tmp 107), none⟩,
  ⟨(some 119), .fldA 0 (.tmp 118), none⟩,
  ⟨(some 120), .fldA 2 (.tmp 119), none⟩,
  ⟨none, .st 1 (.tmp 120) (.tmp 117), none⟩]) (.seq (.region .txt [⟨(some 121), .mv (.tmp 7), none⟩,
  ⟨(some 122), .mv (.tmp 7), none⟩,
  ⟨(some 123), .nilck (.tmp 122), none⟩,
  ⟨(some 124), .fldA 0 (.tmp 123), none⟩,
  ⟨(some 125), .fldA 7 (.tmp 124), none⟩,
  ⟨(some 126), .ld (.slice) (.tmp 125), none⟩,
  ⟨(some 127), .mv (.tmp 9), none⟩,
  ⟨(some 128), .lit 3 1 #[(.int .i64 0)] [(0, 1, (.tmp 127))], none⟩,
  ⟨(some 129), .app 3 8 1 #[(.int .i64 0)] (.tmp 126) (.tmp 128), none⟩,
  ⟨(some 130), .nilck (.tmp 121), none⟩,
  ⟨(some 131), .fldA 0 (.tmp 130), none⟩,
  ⟨(some 132), .fldA 7 (.tmp 131), none⟩,
  ⟨none, .st 1 (.tmp 132) (.tmp 129), none⟩]) (.seq (.region .txt [⟨(some 133), .mv (.tmp 7), none⟩,
  ⟨(some 134), .nilck (.tmp 133), none⟩,
  ⟨(some 135), .fldA 0 (.tmp 134), none⟩,
  ⟨(some 136), .fldA 5 (.tmp 135), none⟩,
  ⟨none, .st 1 (.tmp 136) (.const (.slice none 0 0)), none⟩]) (.seq (.region .txt [⟨(some 137), .mv (.tmp 7), none⟩,
  ⟨(some 138), .mv (.tmp 7), none⟩,
  ⟨(some 139), .nilck (.tmp 138), none⟩,
  ⟨(some 140), .fldA 0 (.tmp 139), none⟩,
  ⟨(some 141), .fldA 9 (.tmp 140), none⟩,
  ⟨(some 142), .ld (.slice) (.tmp 141), none⟩,
  ⟨(some 143), .call 66 [(.tmp 142), (.func 67)] (.val (.one (.slice))), none⟩,
  ⟨(some 144), .nilck (.tmp 137), none⟩,
  ⟨(some 145), .fldA 0 (.tmp 144), none⟩,
  ⟨(some 146), .fldA 9 (.tmp 145), none⟩,
  ⟨none, .st 1 (.tmp 146) (.tmp 143), none⟩]) (.seq (.region .txt [⟨(some 147), .mv (.tmp 7), none⟩,
  ⟨(some 148), .nilck (.tmp 147), none⟩,
  ⟨(some 149), .fldA 0 (.tmp 148), none⟩,
  ⟨(some 150), .ldn [.int .i64, .slice, .slice, .slice, .slice, .slice, .slice, .slice, .slice, .slice, .slice] (.tmp 149), none⟩,
  ⟨none, .st 11 (.tmp 2) (.tmp 150), none⟩,
  ⟨(some 3), .mv (.const (.int .i64 0)), none⟩]) .ret)))))))))))))))
def loops31 : List (List (Nat × Shp)) := [[(9, .int .i64), (78, .int .i64)], [(90, .int .i64)]]
def ret31 : List RV := [.cellN 2 [.int .i64, .slice, .slice, .slice, .slice, .slice, .slice, .slice, .slice, .slice, .slice], .tmp 3]
theorem comp31 : compF Try.prog Try.f31 loops31 = some (151, ret31, code31) := by kernel_rfl
def J31_3  (P : Program) (t10 : (Option Addr)) (A75 : (Option Addr)) (N75 : Nat) (good : Int) (t13 : Int) (next_ : (Int × Int → Heap → Prop)) (h_13 : Heap) : Prop :=
 0 ≤ (t13 : Int) ∧ (t13 : Int) < (N75 : Nat) ∧ AtP A75 fun ad3 => ∃ (t14 : Int), cellH h_13 (Addr.add ad3 (Int.toNat t13 * 1)) = some (.int .i64 t14) ∧ CallsH P 65 #[(.pointer t10), (.int .i64 good), (.int .i64 t14)] h_13 fun v2 h_14 =>
 ∃ (t15 : Int), v2 = (.int .i64 t15) ∧ next_ (t15, (IntKind.wrap .i64 (t13 + 1))) h_14
def J31_6  (P : Program) (t10 : (Option Addr)) (good1 : Int) (A76 : (Option Addr)) (N76 : Nat) (t16 : Int) (next_1 : (Int → Heap → Prop)) (h_17 : Heap) : Prop :=
 0 ≤ (t16 : Int) ∧ (t16 : Int) < (N76 : Nat) ∧ AtP A76 fun ad4 => ∃ (t17 : Int), cellH h_17 (Addr.add ad4 (Int.toNat t16 * 1)) = some (.int .i64 t17) ∧ ∃ zn : Zone, AtP t10 fun ad5 => Zone.hasL zn h_17 (Addr.add (Addr.add ad5 0) 4) ∧ ∃ (A77 : Option Addr), ∃ (N77 : Nat), ∃ (C77 : Nat), cellH h_17 (Addr.add (Addr.add ad5 0) 4) = some (.slice A77 N77 C77) ∧ CallsH P 65 #[(.pointer t10), (.int .i64 t17), (.int .i64 good1)] h_17 fun v3 h_18 =>
 ∃ (t18 : Int), v3 = (.int .i64 t18) ∧ Zone.r zn h_17 h_18 ∧ 0 ≤ (t16 : Int) ∧ (t16 : Int) < (N77 : Nat) ∧ AtP A77 fun ad6 => StoreH h_18 (Addr.add ad6 (Int.toNat t16 * 1)) [(.int .i64 t18)] fun h_19 => next_1 ((IntKind.wrap .i64 (t16 + 1))) h_19
def J31_5  (P : Program) (R : Value → Heap → Prop) (h_ : Heap) (t10 : (Option Addr)) (t12 : Int) (good1 : Int) (h_20 : Heap) : Prop :=
 AtP t10 fun ad7 => ∃ (A78 : Option Addr), ∃ (N78 : Nat), ∃ (C78 : Nat), cellH h_20 (Addr.add (Addr.add ad7 0) 2) = some (.slice A78 N78 C78) ∧ let h_21 : Heap := (h_20).push (.cells #[(.int .i64 (IntKind.wrap .i64 (2 * t12))), (.int .i64 good1), (.int .i64 1)] 80); ∃ ys : List Value, ReadL h_21 (some (Addr.mk (h_20).size 0 none)) ys ∧ ys.length = 1 * 3 ∧ AppS h_21 A78 N78 C78 80 24 3 #[(.int .i64 0), (.int .i64 0), (.int .i64 0)] ys 1 fun apA apN apC h_22 => AtP t10 fun ad8 => StoreH h_22 (Addr.add (Addr.add ad8 0) 2) [(.slice apA apN apC)] fun h_23 => AtP t10 fun ad9 => ∃ (A79 : Option Addr), ∃ (N79 : Nat), ∃ (C79 : Nat), cellH h_23 (Addr.add (Addr.add ad9 0) 7) = some (.slice A79 N79 C79) ∧ let h_24 : Heap := (h_23).push (.cells #[(.int .i64 good1)] 3); ∃ ys1 : List Value, ReadL h_24 (some (Addr.mk (h_23).size 0 none)) ys1 ∧ ys1.length = 1 * 1 ∧ AppS h_24 A79 N79 C79 3 8 1 #[(.int .i64 0)] ys1 1 fun apA1 apN1 apC1 h_25 => AtP t10 fun ad10 => StoreH h_25 (Addr.add (Addr.add ad10 0) 7) [(.slice apA1 apN1 apC1)] fun h_26 => AtP t10 fun ad11 => StoreH h_26 (Addr.add (Addr.add ad11 0) 5) [(.slice none 0 0)] fun h_27 => AtP t10 fun ad12 => ∃ (A80 : Option Addr), ∃ (N80 : Nat), ∃ (C80 : Nat), cellH h_27 (Addr.add (Addr.add ad12 0) 9) = some (.slice A80 N80 C80) ∧ CallsH P 66 #[(.slice A80 N80 C80), (.func (.func 67) #[] #[])] h_27 fun v4 h_28 =>
 ∃ (A81 : Option Addr), ∃ (N81 : Nat), ∃ (C81 : Nat), v4 = (.slice A81 N81 C81) ∧ AtP t10 fun ad13 => StoreH h_28 (Addr.add (Addr.add ad13 0) 9) [(.slice A81 N81 C81)] fun h_29 => AtP t10 fun ad14 => ∃ (t19 : Int), ∃ (A82 : Option Addr), ∃ (N82 : Nat), ∃ (C82 : Nat), ∃ (A83 : Option Addr), ∃ (N83 : Nat), ∃ (C83 : Nat), ∃ (A84 : Option Addr), ∃ (N84 : Nat), ∃ (C84 : Nat), ∃ (A85 : Option Addr), ∃ (N85 : Nat), ∃ (C85 : Nat), ∃ (A86 : Option Addr), ∃ (N86 : Nat), ∃ (C86 : Nat), ∃ (A87 : Option Addr), ∃ (N87 : Nat), ∃ (C87 : Nat), ∃ (A88 : Option Addr), ∃ (N88 : Nat), ∃ (C88 : Nat), ∃ (A89 : Option Addr), ∃ (N89 : Nat), ∃ (C89 : Nat), ∃ (A90 : Option Addr), ∃ (N90 : Nat), ∃ (C90 : Nat), ∃ (A91 : Option Addr), ∃ (N91 : Nat), ∃ (C91 : Nat), cellsH h_29 (Addr.add ad14 0) 0 [(.int .i64 t19), (.slice A82 N82 C82), (.slice A83 N83 C83), (.slice A84 N84 C84), (.slice A85 N85 C85), (.slice A86 N86 C86), (.slice A87 N87 C87), (.slice A88 N88 C88), (.slice A89 N89 C89), (.slice A90 N90 C90), (.slice A91 N91 C91)] ∧ StoreH h_29 (Addr.mk (h_).size 0 none) [(.int .i64 t19), (.slice A82 N82 C82), (.slice A83 N83 C83), (.slice A84 N84 C84), (.slice A85 N85 C85), (.slice A86 N86 C86), (.slice A87 N87 C87), (.slice A88 N88 C88), (.slice A89 N89 C89), (.slice A90 N90 C90), (.slice A91 N91 C91)] fun h_30 => ∃ (t20 : Int), ∃ (A92 : Option Addr), ∃ (N92 : Nat), ∃ (C92 : Nat), ∃ (A93 : Option Addr), ∃ (N93 : Nat), ∃ (C93 : Nat), ∃ (A94 : Option Addr), ∃ (N94 : Nat), ∃ (C94 : Nat), ∃ (A95 : Option Addr), ∃ (N95 : Nat), ∃ (C95 : Nat), ∃ (A96 : Option Addr), ∃ (N96 : Nat), ∃ (C96 : Nat), ∃ (A97 : Option Addr), ∃ (N97 : Nat), ∃ (C97 : Nat), ∃ (A98 : Option Addr), ∃ (N98 : Nat), ∃ (C98 : Nat), ∃ (A99 : Option Addr), ∃ (N99 : Nat), ∃ (C99 : Nat), ∃ (A100 : Option Addr), ∃ (N100 : Nat), ∃ (C100 : Nat), ∃ (A101 : Option Addr), ∃ (N101 : Nat), ∃ (C101 : Nat), cellsH h_30 (Addr.mk (h_).size 0 none) 0 [(.int .i64 t20), (.slice A92 N92 C92), (.slice A93 N93 C93), (.slice A94 N94 C94), (.slice A95 N95 C95), (.slice A96 N96 C96), (.slice A97 N97 C97), (.slice A98 N98 C98), (.slice A99 N99 C99), (.slice A100 N100 C100), (.slice A101 N101 C101)] ∧ R (.tuple #[(.agg #[(.int .i64 t20), (.slice A92 N92 C92), (.slice A93 N93 C93), (.slice A94 N94 C94), (.slice A95 N95 C95), (.slice A96 N96 C96), (.slice A97 N97 C97), (.slice A98 N98 C98), (.slice A99 N99 C99), (.slice A100 N100 C100), (.slice A101 N101 C101)]), (.int .i64 0)]) h_30
def B31_8 (P : Program) (R : Value → Heap → Prop) (h_ : Heap) (t10 : (Option Addr)) (t12 : Int) (good1 : Int) (A76 : (Option Addr)) (N76 : Nat) (t16 : Int) (h_16 : Heap) (next_1 : Int → Heap → Prop) : Prop :=
 PIf ((t16 : Int) < ((N76 : Nat) : Int))
 (J31_6 P t10 good1 A76 N76 t16 next_1 h_16)
 (J31_5 P R h_ t10 t12 good1 h_16)
def J31_2  (P : Program) (R : Value → Heap → Prop) (h : Heap) (h_ : Heap) (t10 : (Option Addr)) (t12 : Int) (good1 : Int) (h_15 : Heap) : Prop :=
 ∃ (A76 : Option Addr), ∃ (N76 : Nat), ∃ (C76 : Nat), cellH h_15 (Addr.add (Addr.mk (h).size 0 none) 4) = some (.slice A76 N76 C76) ∧ LoopT (σ := Int) (fun st_ h_st nx_st => B31_8 P R h_ t10 t12 good1 A76 N76 (st_) h_st nx_st) (0) h_15
def B31_9 (P : Program) (R : Value → Heap → Prop) (h : Heap) (h_ : Heap) (t10 : (Option Addr)) (t12 : Int) (A75 : (Option Addr)) (N75 : Nat) (good : Int) (t13 : Int) (h_12 : Heap) (next_ : Int × Int → Heap → Prop) : Prop :=
 PIf ((t13 : Int) < ((N75 : Nat) : Int))
 (J31_3 P t10 A75 N75 good t13 next_ h_12)
 (J31_2 P R h h_ t10 t12 (good) h_12)
def J31_1  (P : Program) (R : Value → Heap → Prop) (h : Heap) (h_ : Heap) (h_9 : Heap) : Prop :=
 ∃ (t9 : Int), ∃ (A65 : Option Addr), ∃ (N65 : Nat), ∃ (C65 : Nat), ∃ (A66 : Option Addr), ∃ (N66 : Nat), ∃ (C66 : Nat), ∃ (A67 : Option Addr), ∃ (N67 : Nat), ∃ (C67 : Nat), ∃ (A68 : Option Addr), ∃ (N68 : Nat), ∃ (C68 : Nat), ∃ (A69 : Option Addr), ∃ (N69 : Nat), ∃ (C69 : Nat), ∃ (A70 : Option Addr), ∃ (N70 : Nat), ∃ (C70 : Nat), ∃ (A71 : Option Addr), ∃ (N71 : Nat), ∃ (C71 : Nat), ∃ (A72 : Option Addr), ∃ (N72 : Nat), ∃ (C72 : Nat), ∃ (A73 : Option Addr), ∃ (N73 : Nat), ∃ (C73 : Nat), ∃ (A74 : Option Addr), ∃ (N74 : Nat), ∃ (C74 : Nat), cellsH h_9 (Addr.mk (h).size 0 none) 0 [(.int .i64 t9), (.slice A65 N65 C65), (.slice A66 N66 C66), (.slice A67 N67 C67), (.slice A68 N68 C68), (.slice A69 N69 C69), (.slice A70 N70 C70), (.slice A71 N71 C71), (.slice A72 N72 C72), (.slice A73 N73 C73), (.slice A74 N74 C74)] ∧ CallsH P 64 #[(.agg #[(.int .i64 t9), (.slice A65 N65 C65), (.slice A66 N66 C66), (.slice A67 N67 C67), (.slice A68 N68 C68), (.slice A69 N69 C69), (.slice A70 N70 C70), (.slice A71 N71 C71), (.slice A72 N72 C72), (.slice A73 N73 C73), (.slice A74 N74 C74)])] h_9 fun v1 h_10 =>
 ∃ (t10 : Option Addr), v1 = (.pointer t10) ∧ AtP t10 fun ad => ∃ (t11 : Int), cellH h_10 (Addr.add (Addr.add ad 0) 0) = some (.int .i64 t11) ∧ AtP t10 fun ad1 => StoreH h_10 (Addr.add (Addr.add ad1 0) 0) [(.int .i64 (IntKind.wrap .i64 (t11 + 1)))] fun h_11 => AtP t10 fun ad2 => ∃ (t12 : Int), cellH h_11 (Addr.add (Addr.add ad2 0) 0) = some (.int .i64 t12) ∧ ∃ (A75 : Option Addr), ∃ (N75 : Nat), ∃ (C75 : Nat), cellH h_11 (Addr.add (Addr.mk (h).size 0 none) 5) = some (.slice A75 N75 C75) ∧ LoopT (σ := Int × Int) (fun st_ h_st nx_st => B31_9 P R h h_ t10 t12 A75 N75 (st_.1) (st_.2) h_st nx_st) ((IntKind.wrap .i64 (2 * t12)), 0) h_11
def J31_0  (P : Program) (R : Value → Heap → Prop) (h : Heap) (h_ : Heap) (h_4 : Heap) : Prop :=
 ∃ (A20 : Option Addr), ∃ (N20 : Nat), ∃ (C20 : Nat), cellH h_4 (Addr.add (Addr.mk (h).size 0 none) 5) = some (.slice A20 N20 C20) ∧ ∃ (A21 : Option Addr), ∃ (N21 : Nat), ∃ (C21 : Nat), cellH h_4 (Addr.add (Addr.mk (h).size 0 none) 4) = some (.slice A21 N21 C21) ∧ ∃ (t4 : Int), cellH h_4 (Addr.add (Addr.mk (h).size 0 none) 0) = some (.int .i64 t4) ∧ PIf ((16384 : Int) < (IntKind.wrap .i64 ((IntKind.wrap .i64 (t4 + 1)) + (IntKind.wrap .i64 (((N20 : Nat) : Int) + ((N21 : Nat) : Int))))))
 (StoreH h_4 (Addr.mk (h_).size 0 none) [(.int .i64 0), (.slice none 0 0), (.slice none 0 0), (.slice none 0 0), (.slice none 0 0), (.slice none 0 0), (.slice none 0 0), (.slice none 0 0), (.slice none 0 0), (.slice none 0 0), (.slice none 0 0)] fun h_5 => ∃ (t5 : Int), ∃ (A22 : Option Addr), ∃ (N22 : Nat), ∃ (C22 : Nat), ∃ (A23 : Option Addr), ∃ (N23 : Nat), ∃ (C23 : Nat), ∃ (A24 : Option Addr), ∃ (N24 : Nat), ∃ (C24 : Nat), ∃ (A25 : Option Addr), ∃ (N25 : Nat), ∃ (C25 : Nat), ∃ (A26 : Option Addr), ∃ (N26 : Nat), ∃ (C26 : Nat), ∃ (A27 : Option Addr), ∃ (N27 : Nat), ∃ (C27 : Nat), ∃ (A28 : Option Addr), ∃ (N28 : Nat), ∃ (C28 : Nat), ∃ (A29 : Option Addr), ∃ (N29 : Nat), ∃ (C29 : Nat), ∃ (A30 : Option Addr), ∃ (N30 : Nat), ∃ (C30 : Nat), ∃ (A31 : Option Addr), ∃ (N31 : Nat), ∃ (C31 : Nat), cellsH h_5 (Addr.mk (h_).size 0 none) 0 [(.int .i64 t5), (.slice A22 N22 C22), (.slice A23 N23 C23), (.slice A24 N24 C24), (.slice A25 N25 C25), (.slice A26 N26 C26), (.slice A27 N27 C27), (.slice A28 N28 C28), (.slice A29 N29 C29), (.slice A30 N30 C30), (.slice A31 N31 C31)] ∧ R (.tuple #[(.agg #[(.int .i64 t5), (.slice A22 N22 C22), (.slice A23 N23 C23), (.slice A24 N24 C24), (.slice A25 N25 C25), (.slice A26 N26 C26), (.slice A27 N27 C27), (.slice A28 N28 C28), (.slice A29 N29 C29), (.slice A30 N30 C30), (.slice A31 N31 C31)]), (.int .i64 2)]) h_5)
 (∃ (A32 : Option Addr), ∃ (N32 : Nat), ∃ (C32 : Nat), cellH h_4 (Addr.add (Addr.mk (h).size 0 none) 2) = some (.slice A32 N32 C32) ∧ PIf ((16384 : Int) ≤ ((N32 : Nat) : Int))
 (StoreH h_4 (Addr.mk (h_).size 0 none) [(.int .i64 0), (.slice none 0 0), (.slice none 0 0), (.slice none 0 0), (.slice none 0 0), (.slice none 0 0), (.slice none 0 0), (.slice none 0 0), (.slice none 0 0), (.slice none 0 0), (.slice none 0 0)] fun h_6 => ∃ (t6 : Int), ∃ (A33 : Option Addr), ∃ (N33 : Nat), ∃ (C33 : Nat), ∃ (A34 : Option Addr), ∃ (N34 : Nat), ∃ (C34 : Nat), ∃ (A35 : Option Addr), ∃ (N35 : Nat), ∃ (C35 : Nat), ∃ (A36 : Option Addr), ∃ (N36 : Nat), ∃ (C36 : Nat), ∃ (A37 : Option Addr), ∃ (N37 : Nat), ∃ (C37 : Nat), ∃ (A38 : Option Addr), ∃ (N38 : Nat), ∃ (C38 : Nat), ∃ (A39 : Option Addr), ∃ (N39 : Nat), ∃ (C39 : Nat), ∃ (A40 : Option Addr), ∃ (N40 : Nat), ∃ (C40 : Nat), ∃ (A41 : Option Addr), ∃ (N41 : Nat), ∃ (C41 : Nat), ∃ (A42 : Option Addr), ∃ (N42 : Nat), ∃ (C42 : Nat), cellsH h_6 (Addr.mk (h_).size 0 none) 0 [(.int .i64 t6), (.slice A33 N33 C33), (.slice A34 N34 C34), (.slice A35 N35 C35), (.slice A36 N36 C36), (.slice A37 N37 C37), (.slice A38 N38 C38), (.slice A39 N39 C39), (.slice A40 N40 C40), (.slice A41 N41 C41), (.slice A42 N42 C42)] ∧ R (.tuple #[(.agg #[(.int .i64 t6), (.slice A33 N33 C33), (.slice A34 N34 C34), (.slice A35 N35 C35), (.slice A36 N36 C36), (.slice A37 N37 C37), (.slice A38 N38 C38), (.slice A39 N39 C39), (.slice A40 N40 C40), (.slice A41 N41 C41), (.slice A42 N42 C42)]), (.int .i64 2)]) h_6)
 (∃ (A43 : Option Addr), ∃ (N43 : Nat), ∃ (C43 : Nat), cellH h_4 (Addr.add (Addr.mk (h).size 0 none) 7) = some (.slice A43 N43 C43) ∧ PIf ((16384 : Int) ≤ ((N43 : Nat) : Int))
 (StoreH h_4 (Addr.mk (h_).size 0 none) [(.int .i64 0), (.slice none 0 0), (.slice none 0 0), (.slice none 0 0), (.slice none 0 0), (.slice none 0 0), (.slice none 0 0), (.slice none 0 0), (.slice none 0 0), (.slice none 0 0), (.slice none 0 0)] fun h_7 => ∃ (t7 : Int), ∃ (A44 : Option Addr), ∃ (N44 : Nat), ∃ (C44 : Nat), ∃ (A45 : Option Addr), ∃ (N45 : Nat), ∃ (C45 : Nat), ∃ (A46 : Option Addr), ∃ (N46 : Nat), ∃ (C46 : Nat), ∃ (A47 : Option Addr), ∃ (N47 : Nat), ∃ (C47 : Nat), ∃ (A48 : Option Addr), ∃ (N48 : Nat), ∃ (C48 : Nat), ∃ (A49 : Option Addr), ∃ (N49 : Nat), ∃ (C49 : Nat), ∃ (A50 : Option Addr), ∃ (N50 : Nat), ∃ (C50 : Nat), ∃ (A51 : Option Addr), ∃ (N51 : Nat), ∃ (C51 : Nat), ∃ (A52 : Option Addr), ∃ (N52 : Nat), ∃ (C52 : Nat), ∃ (A53 : Option Addr), ∃ (N53 : Nat), ∃ (C53 : Nat), cellsH h_7 (Addr.mk (h_).size 0 none) 0 [(.int .i64 t7), (.slice A44 N44 C44), (.slice A45 N45 C45), (.slice A46 N46 C46), (.slice A47 N47 C47), (.slice A48 N48 C48), (.slice A49 N49 C49), (.slice A50 N50 C50), (.slice A51 N51 C51), (.slice A52 N52 C52), (.slice A53 N53 C53)] ∧ R (.tuple #[(.agg #[(.int .i64 t7), (.slice A44 N44 C44), (.slice A45 N45 C45), (.slice A46 N46 C46), (.slice A47 N47 C47), (.slice A48 N48 C48), (.slice A49 N49 C49), (.slice A50 N50 C50), (.slice A51 N51 C51), (.slice A52 N52 C52), (.slice A53 N53 C53)]), (.int .i64 2)]) h_7)
 (∃ (A54 : Option Addr), ∃ (N54 : Nat), ∃ (C54 : Nat), cellH h_4 (Addr.add (Addr.mk (h).size 0 none) 8) = some (.slice A54 N54 C54) ∧ PIf ((16384 : Int) < (IntKind.wrap .i64 (((N54 : Nat) : Int) + (IntKind.wrap .i64 (((N20 : Nat) : Int) + ((N21 : Nat) : Int))))))
 (StoreH h_4 (Addr.mk (h_).size 0 none) [(.int .i64 0), (.slice none 0 0), (.slice none 0 0), (.slice none 0 0), (.slice none 0 0), (.slice none 0 0), (.slice none 0 0), (.slice none 0 0), (.slice none 0 0), (.slice none 0 0), (.slice none 0 0)] fun h_8 => ∃ (t8 : Int), ∃ (A55 : Option Addr), ∃ (N55 : Nat), ∃ (C55 : Nat), ∃ (A56 : Option Addr), ∃ (N56 : Nat), ∃ (C56 : Nat), ∃ (A57 : Option Addr), ∃ (N57 : Nat), ∃ (C57 : Nat), ∃ (A58 : Option Addr), ∃ (N58 : Nat), ∃ (C58 : Nat), ∃ (A59 : Option Addr), ∃ (N59 : Nat), ∃ (C59 : Nat), ∃ (A60 : Option Addr), ∃ (N60 : Nat), ∃ (C60 : Nat), ∃ (A61 : Option Addr), ∃ (N61 : Nat), ∃ (C61 : Nat), ∃ (A62 : Option Addr), ∃ (N62 : Nat), ∃ (C62 : Nat), ∃ (A63 : Option Addr), ∃ (N63 : Nat), ∃ (C63 : Nat), ∃ (A64 : Option Addr), ∃ (N64 : Nat), ∃ (C64 : Nat), cellsH h_8 (Addr.mk (h_).size 0 none) 0 [(.int .i64 t8), (.slice A55 N55 C55), (.slice A56 N56 C56), (.slice A57 N57 C57), (.slice A58 N58 C58), (.slice A59 N59 C59), (.slice A60 N60 C60), (.slice A61 N61 C61), (.slice A62 N62 C62), (.slice A63 N63 C63), (.slice A64 N64 C64)] ∧ R (.tuple #[(.agg #[(.int .i64 t8), (.slice A55 N55 C55), (.slice A56 N56 C56), (.slice A57 N57 C57), (.slice A58 N58 C58), (.slice A59 N59 C59), (.slice A60 N60 C60), (.slice A61 N61 C61), (.slice A62 N62 C62), (.slice A63 N63 C63), (.slice A64 N64 C64)]), (.int .i64 2)]) h_8)
 (J31_1 P R h h_ h_4))))
def VC31 (P : Program) (c : Int) (cA : Option Addr) (cN : Nat) (cC : Nat) (cA1 : Option Addr) (cN1 : Nat) (cC1 : Nat) (cA2 : Option Addr) (cN2 : Nat) (cC2 : Nat) (cA3 : Option Addr) (cN3 : Nat) (cC3 : Nat) (cA4 : Option Addr) (cN4 : Nat) (cC4 : Nat) (cA5 : Option Addr) (cN5 : Nat) (cC5 : Nat) (cA6 : Option Addr) (cN6 : Nat) (cC6 : Nat) (cA7 : Option Addr) (cN7 : Nat) (cC7 : Nat) (cA8 : Option Addr) (cN8 : Nat) (cC8 : Nat) (cA9 : Option Addr) (cN9 : Nat) (cC9 : Nat) (R : Value → Heap → Prop) (h : Heap) : Prop :=
 let h_ : Heap := (h).push (.cells (Value.cells (.agg #[(.int .i64 c), (.slice cA cN cC), (.slice cA1 cN1 cC1), (.slice cA2 cN2 cC2), (.slice cA3 cN3 cC3), (.slice cA4 cN4 cC4), (.slice cA5 cN5 cC5), (.slice cA6 cN6 cC6), (.slice cA7 cN7 cC7), (.slice cA8 cN8 cC8), (.slice cA9 cN9 cC9)])) 29); let h_1 : Heap := (h_).push (.cells #[(.int .i64 0), (.slice none 0 0), (.slice none 0 0), (.slice none 0 0), (.slice none 0 0), (.slice none 0 0), (.slice none 0 0), (.slice none 0 0), (.slice none 0 0), (.slice none 0 0), (.slice none 0 0)] 29); ∃ (t : Int), ∃ (A : Option Addr), ∃ (N : Nat), ∃ (C : Nat), ∃ (A1 : Option Addr), ∃ (N1 : Nat), ∃ (C1 : Nat), ∃ (A2 : Option Addr), ∃ (N2 : Nat), ∃ (C2 : Nat), ∃ (A3 : Option Addr), ∃ (N3 : Nat), ∃ (C3 : Nat), ∃ (A4 : Option Addr), ∃ (N4 : Nat), ∃ (C4 : Nat), ∃ (A5 : Option Addr), ∃ (N5 : Nat), ∃ (C5 : Nat), ∃ (A6 : Option Addr), ∃ (N6 : Nat), ∃ (C6 : Nat), ∃ (A7 : Option Addr), ∃ (N7 : Nat), ∃ (C7 : Nat), ∃ (A8 : Option Addr), ∃ (N8 : Nat), ∃ (C8 : Nat), ∃ (A9 : Option Addr), ∃ (N9 : Nat), ∃ (C9 : Nat), cellsH h_1 (Addr.mk (h).size 0 none) 0 [(.int .i64 t), (.slice A N C), (.slice A1 N1 C1), (.slice A2 N2 C2), (.slice A3 N3 C3), (.slice A4 N4 C4), (.slice A5 N5 C5), (.slice A6 N6 C6), (.slice A7 N7 C7), (.slice A8 N8 C8), (.slice A9 N9 C9)] ∧ CallsH P 45 #[(.agg #[(.int .i64 t), (.slice A N C), (.slice A1 N1 C1), (.slice A2 N2 C2), (.slice A3 N3 C3), (.slice A4 N4 C4), (.slice A5 N5 C5), (.slice A6 N6 C6), (.slice A7 N7 C7), (.slice A8 N8 C8), (.slice A9 N9 C9)])] h_1 fun v h_2 =>
 ∃ (t1 : Int), ∃ (t2 : Int), v = (.tuple #[(.int .i64 t1), (.int .i64 t2)]) ∧ PIf ((t2 : Int) = 0)
 (J31_0 P R h h_ h_2)
 (StoreH h_2 (Addr.mk (h_).size 0 none) [(.int .i64 0), (.slice none 0 0), (.slice none 0 0), (.slice none 0 0), (.slice none 0 0), (.slice none 0 0), (.slice none 0 0), (.slice none 0 0), (.slice none 0 0), (.slice none 0 0), (.slice none 0 0)] fun h_3 => ∃ (t3 : Int), ∃ (A10 : Option Addr), ∃ (N10 : Nat), ∃ (C10 : Nat), ∃ (A11 : Option Addr), ∃ (N11 : Nat), ∃ (C11 : Nat), ∃ (A12 : Option Addr), ∃ (N12 : Nat), ∃ (C12 : Nat), ∃ (A13 : Option Addr), ∃ (N13 : Nat), ∃ (C13 : Nat), ∃ (A14 : Option Addr), ∃ (N14 : Nat), ∃ (C14 : Nat), ∃ (A15 : Option Addr), ∃ (N15 : Nat), ∃ (C15 : Nat), ∃ (A16 : Option Addr), ∃ (N16 : Nat), ∃ (C16 : Nat), ∃ (A17 : Option Addr), ∃ (N17 : Nat), ∃ (C17 : Nat), ∃ (A18 : Option Addr), ∃ (N18 : Nat), ∃ (C18 : Nat), ∃ (A19 : Option Addr), ∃ (N19 : Nat), ∃ (C19 : Nat), cellsH h_3 (Addr.mk (h_).size 0 none) 0 [(.int .i64 t3), (.slice A10 N10 C10), (.slice A11 N11 C11), (.slice A12 N12 C12), (.slice A13 N13 C13), (.slice A14 N14 C14), (.slice A15 N15 C15), (.slice A16 N16 C16), (.slice A17 N17 C17), (.slice A18 N18 C18), (.slice A19 N19 C19)] ∧ R (.tuple #[(.agg #[(.int .i64 t3), (.slice A10 N10 C10), (.slice A11 N11 C11), (.slice A12 N12 C12), (.slice A13 N13 C13), (.slice A14 N14 C14), (.slice A15 N15 C15), (.slice A16 N16 C16), (.slice A17 N17 C17), (.slice A18 N18 C18), (.slice A19 N19 C19)]), (.int .i64 t2)]) h_3)
theorem vc31 (P : Program) (c : Int) (cA : Option Addr) (cN : Nat) (cC : Nat) (cA1 : Option Addr) (cN1 : Nat) (cC1 : Nat) (cA2 : Option Addr) (cN2 : Nat) (cC2 : Nat) (cA3 : Option Addr) (cN3 : Nat) (cC3 : Nat) (cA4 : Option Addr) (cN4 : Nat) (cC4 : Nat) (cA5 : Option Addr) (cN5 : Nat) (cC5 : Nat) (cA6 : Option Addr) (cN6 : Nat) (cC6 : Nat) (cA7 : Option Addr) (cN7 : Nat) (cC7 : Nat) (cA8 : Option Addr) (cN8 : Nat) (cC8 : Nat) (cA9 : Option Addr) (cN9 : Nat) (cC9 : Nat) (R : Value → Heap → Prop) (h : Heap) : fnC P ret31 code31 [(.agg #[(.int .i64 c), (.slice cA cN cC), (.slice cA1 cN1 cC1), (.slice cA2 cN2 cC2), (.slice cA3 cN3 cC3), (.slice cA4 cN4 cC4), (.slice cA5 cN5 cC5), (.slice cA6 cN6 cC6), (.slice cA7 cN7 cC7), (.slice cA8 cN8 cC8), (.slice cA9 cN9 cC9)])] h R = VC31 P c cA cN cC cA1 cN1 cC1 cA2 cN2 cC2 cA3 cN3 cC3 cA4 cN4 cC4 cA5 cN5 cC5 cA6 cN6 cC6 cA7 cN7 cC7 cA8 cN8 cC8 cA9 cN9 cC9 R h := by kernel_rfl
theorem run31 (c : Int) (cA : Option Addr) (cN : Nat) (cC : Nat) (cA1 : Option Addr) (cN1 : Nat) (cC1 : Nat) (cA2 : Option Addr) (cN2 : Nat) (cC2 : Nat) (cA3 : Option Addr) (cN3 : Nat) (cC3 : Nat) (cA4 : Option Addr) (cN4 : Nat) (cC4 : Nat) (cA5 : Option Addr) (cN5 : Nat) (cC5 : Nat) (cA6 : Option Addr) (cN6 : Nat) (cC6 : Nat) (cA7 : Option Addr) (cN7 : Nat) (cC7 : Nat) (cA8 : Option Addr) (cN8 : Nat) (cC8 : Nat) (cA9 : Option Addr) (cN9 : Nat) (cC9 : Nat) (R : Value → Heap → Prop) (h : Heap) (hv : VC31 Try.prog c cA cN cC cA1 cN1 cC1 cA2 cN2 cC2 cA3 cN3 cC3 cA4 cN4 cC4 cA5 cN5 cC5 cA6 cN6 cC6 cA7 cN7 cC7 cA8 cN8 cC8 cA9 cN9 cC9 R h) : CallsH Try.prog 31 #[(.agg #[(.int .i64 c), (.slice cA cN cC), (.slice cA1 cN1 cC1), (.slice cA2 cN2 cC2), (.slice cA3 cN3 cC3), (.slice cA4 cN4 cC4), (.slice cA5 cN5 cC5), (.slice cA6 cN6 cC6), (.slice cA7 cN7 cC7), (.slice cA8 cN8 cC8), (.slice cA9 cN9 cC9)])] h R := calls_of_fnC (Checked.mixed Try.checked) Try.func31 comp31 (Nat.le_of_ble_eq_true rfl) (by rw [vc31]; exact hv)

/-! 32: trestle/trestleref25.Fold -/
def code32 : SCode := (.seq (.region .txt [⟨(some 1), .box 29 (.tmp 0), none⟩,
  ⟨(some 2), .alloc 29 (.agg #[(.int .i64 0), (.slice none 0 0), (.slice none 0 0), (.slice none 0 0), (.slice none 0 0), (.slice none 0 0), (.slice none 0 0), (.slice none 0 0), (.slice none 0 0), (.slice none 0 0), (.slice none 0 0)]), none⟩,
  ⟨(some 3), .mv (.const (.int .i64 0)), none⟩]) (.seq (.seq (.region .txt [⟨(some 15), .ldn [.int .i64, .slice, .slice, .slice, .slice, .slice, .slice, .slice, .slice, .slice, .slice] (.tmp 1), none⟩,
  ⟨(some 16), .call 51 [(.tmp 15)] (.tup [.one (.int .i64), .one (.int .i64)]), none⟩,
  ⟨(some 14), .mv (.tmp 16), none⟩,
  ⟨(some 17), .extr (.tmp 14) 0, none⟩,
  ⟨(some 18), .extr (.tmp 14) 1, none⟩,
  ⟨(some 4), .mv (.tmp 17), none⟩,
  ⟨(some 5), .mv (.tmp 18), none⟩]) (.seq (.region .txt [⟨(some 19), .mv (.tmp 5), none⟩,
  ⟨(some 20), .icmp .neq .i64 (.tmp 19) (.const (.int .i64 0)), none⟩]) (.cond (.tmp 20) (.seq (.region .txt [⟨(some 21), .mkAgg #[(.int .i64 0), (.slice none 0 0), (.slice none 0 0), (.slice none 0 0), (.slice none 0 0), (.slice none 0 0), (.slice none 0 0), (.slice none 0 0), (.slice none 0 0), (.slice none 0 0), (.slice none 0 0)] [], none⟩,
  ⟨(some 22), .mv (.tmp 5), none⟩,
  ⟨none, .st 11 (.tmp 2) (.tmp 21), none⟩,
  ⟨(some 3), .mv (.tmp 22), none⟩]) .ret) .skip))) (.seq (.region .txt [⟨(some 6), .mv (.const (.int .i64 16384)), none⟩]) (.seq (.region .txt [⟨(some 23), .fldA 5 (.tmp 1), none⟩,
  ⟨(some 24), .ld (.slice) (.tmp 23), none⟩,
  ⟨(some 25), .len (.tmp 24), none⟩,
  ⟨(some 26), .fldA 4 (.tmp 1), none⟩,
  ⟨(some 27), .ld (.slice) (.tmp 26), none⟩,
  ⟨(some 28), .len (.tmp 27), none⟩,
  ⟨(some 29), .arith .add .i64 (.tmp 25) (.tmp 28), none⟩,
  ⟨(some 7), .mv (.tmp 29), none⟩]) (.seq (.seq (.region .txt [⟨(some 30), .fldA 0 (.tmp 1), none⟩,
  ⟨(some 31), .ld (.int .i64) (.tmp 30), none⟩,
  ⟨(some 32), .arith .add .i64 (.tmp 31) (.const (.int .i64 1)), none⟩,
  ⟨(some 33), .mv (.tmp 7), none⟩,
  ⟨(some 34), .arith .add .i64 (.tmp 32) (.tmp 33), none⟩,
  ⟨(some 35), .icmp .gtr .i64 (.tmp 34) (.const (.int .i64 16384)), none⟩,
  ⟨(some 36), .mv (.tmp 35), none⟩,
  ⟨(some 37), .fldA 2 (.tmp 1), (some (36, false))⟩,
  ⟨(some 38), .ld (.slice) (.tmp 37), (some (36, false))⟩,
  ⟨(some 39), .len (.tmp 38), (some (36, false))⟩,
  ⟨(some 40), .arith .add .i64 (.tmp 39) (.const (.int .i64 1)), (some (36, false))⟩,
  ⟨(some 41), .mv (.tmp 6), (some (36, false))⟩,
  ⟨(some 42), .icmp .gtr .i64 (.tmp 40) (.tmp 41), (some (36, false))⟩,
  ⟨(some 43), .pick (.tmp 36) (.const (.bool true)) (.tmp 42), none⟩,
  ⟨(some 44), .mv (.tmp 43), none⟩,
  ⟨(some 45), .fldA 8 (.tmp 1), (some (44, false))⟩,
  ⟨(some 46), .ld (.slice) (.tmp 45), (some (44, false))⟩,
  ⟨(some 47), .len (.tmp 46), (some (44, false))⟩,
  ⟨(some 48), .mv (.tmp 7), (some (44, false))⟩,
  ⟨(some 49), .arith .add .i64 (.tmp 47) (.tmp 48), (some (44, false))⟩,
  ⟨(some 50), .mv (.tmp 6), (some (44, false))⟩,
  ⟨(some 51), .icmp .gtr .i64 (.tmp 49) (.tmp 50), (some (44, false))⟩,
  ⟨(some 52), .pick (.tmp 44) (.const (.bool true)) (.tmp 51), none⟩,
  ⟨(some 53), .mv (.tmp 52), none⟩,
  ⟨(some 54), .fldA 7 (.tmp 1), (some (53, false))⟩,
  ⟨(some 55), .ld (.slice) (.tmp 54), (some (53, false))⟩,
  ⟨(some 56), .len (.tmp 55), (some (53, false))⟩,
  ⟨(some 57), .arith .add .i64 (.tmp 56) (.const (.int .i64 1)), (some (53, false))⟩,
  ⟨(some 58), .mv (.tmp 6), (some (53, false))⟩,
  ⟨(some 59), .icmp .gtr .i64 (.tmp 57) (.tmp 58), (some (53, false))⟩,
  ⟨(some 60), .pick (.tmp 53) (.const (.bool true)) (.tmp 59), none⟩]) (.cond (.tmp 60) (.seq (.region .txt [⟨(some 61), .mkAgg #[(.int .i64 0), (.slice none 0 0), (.slice none 0 0), (.slice none 0 0), (.slice none 0 0), (.slice none 0 0), (.slice none 0 0), (.slice none 0 0), (.slice none 0 0), (.slice none 0 0), (.slice none 0 0)] [], none⟩,
  ⟨none, .st 11 (.tmp 2) (.tmp 61), none⟩,
  ⟨(some 3), .mv (.const (.int .i64 2)), none⟩]) .ret) .skip)) (.seq (.region .txt [⟨(some 62), .ldn [.int .i64, .slice, .slice, .slice, .slice, .slice, .slice, .slice, .slice, .slice, .slice] (.tmp 1), none⟩,
  ⟨(some 63), .call 48 [(.tmp 62)] (.val (.agg [.int .i64, .slice, .slice, .slice, .slice, .slice, .slice, .slice, .slice, .slice, .slice])), none⟩,
  ⟨(some 8), .alloc 29 (.agg #[(.int .i64 0), (.slice none 0 0), (.slice none 0 0), (.slice none 0 0), (.slice none 0 0), (.slice none 0 0), (.slice none 0 0), (.slice none 0 0), (.slice none 0 0), (.slice none 0 0), (.slice none 0 0)]), none⟩,
  ⟨none, .st 11 (.tmp 8) (.tmp 63), none⟩]) (.seq (.region .txt [⟨(some 64), .fldA 0 (.tmp 8), none⟩,
  ⟨(some 65), .ld (.int .i64) (.tmp 64), none⟩,
  ⟨(some 66), .arith .add .i64 (.tmp 65) (.const (.int .i64 1)), none⟩,
  ⟨(some 67), .fldA 0 (.tmp 8), none⟩,
  ⟨none, .st 1 (.tmp 67) (.tmp 66), none⟩]) (.seq (.region .txt [⟨(some 68), .fldA 0 (.tmp 8), none⟩,
  ⟨(some 69), .ld (.int .i64) (.tmp 68), none⟩,
  ⟨(some 70), .arith .mul .i64 (.const (.int .i64 2)) (.tmp 69), none⟩,
  ⟨(some 9), .mv (.tmp 70), none⟩]) (.seq (.region .txt [⟨(some 71), .mv (.tmp 9), none⟩,
  ⟨(some 10), .mv (.tmp 71), none⟩]) (.seq (.seq (.region .txt [⟨(some 11), .mv (.const (.int .i64 0)), none⟩]) (.block 0 (.loop [(10, .int .i64), (11, .int .i64)] [72, 73, 74, 75, 76, 79, 80, 81, 82, 83, 84, 85, 10, 77, 78, 11] (.seq (.seq (.region .txt [⟨(some 72), .mv (.tmp 11), none⟩,
  ⟨(some 73), .fldA 5 (.tmp 1), none⟩,
  ⟨(some 74), .ld (.slice) (.tmp 73), none⟩,
  ⟨(some 75), .len (.tmp 74), none⟩,
  ⟨(some 76), .icmp .lss .i64 (.tmp 72) (.tmp 75), none⟩]) (.cond (.tmp 76) .skip (.exit 0))) (.seq (.block 1 (.region .txt [⟨(some 79), .mv (.tmp 10), none⟩,
  ⟨(some 80), .fldA 5 (.tmp 1), none⟩,
  ⟨(some 81), .ld (.slice) (.tmp 80), none⟩,
  ⟨(some 82), .mv (.tmp 11), none⟩,
  ⟨(some 83), .idxA 1 (.tmp 81) (.tmp 82), none⟩,
  ⟨(some 84), .ld (.int .i64) (.tmp 83), none⟩,
  ⟨(some 85), .call 68 [(.tmp 8), (.tmp 79), (.tmp 84)] (.val (.one (.int .i64))), none⟩,
  ⟨(some 10), .mv (.tmp 85), none⟩])) (.region .txt [⟨(some 77), .mv (.tmp 11), none⟩,
  ⟨(some 78), .arith .add .i64 (.tmp 77) (.const (.int .i64 1)), none⟩,
  ⟨(some 11), .mv (.tmp 78), none⟩])))))) (.seq (.seq (.region .txt [⟨(some 12), .mv (.const (.int .i64 0)), none⟩]) (.block 2 (.loop [(12, .int .i64)] [86, 87, 88, 89, 90, 93, 94, 95, 96, 97, 98, 99, 100, 101, 102, 103, 91, 92, 12] (.seq (.seq (.region .txt [⟨(some 86), .mv (.tmp 12), none⟩,
  ⟨(some 87), .fldA 4 (.tmp 1), none⟩,
  ⟨(some 88), .ld (.slice) (.tmp 87), none⟩,
  ⟨(some 89), .len (.tmp 88), none⟩,
  ⟨(some 90), .icmp .lss .i64 (.tmp 86) (.tmp 89), none⟩]) (.cond (.tmp 90) .skip (.exit 2))) (.seq (.block 3 (.region .wide [⟨(some 93), .fldA 4 (.tmp 8), none⟩,
  ⟨(some 94), .ld (.slice) (.tmp 93), none⟩,
  ⟨(some 95), .mv (.tmp 12), none⟩,
  ⟨(some 96), .mv (.tmp 10), none⟩,
  ⟨(some 97), .fldA 4 (.tmp 1), none⟩,
  ⟨(some 98), .ld (.slice) (.tmp 97), none⟩,
  ⟨(some 99), .mv (.tmp 12), none⟩,
  ⟨(some 100), .idxA 1 (.tmp 98) (.tmp 99), none⟩,
  ⟨(some 101), .ld (.int .i64) (.tmp 100), none⟩,
  ⟨(some 102), .call 68 [(.tmp 8), (.tmp 96), (.tmp 101)] (.val (.one (.int .i64))), none⟩,
  ⟨(some 103), .idxA 1 (.tmp 94) (.tmp 95), none⟩,
  ⟨none, .st 1 (.tmp 103) (.tmp 102), none⟩])) (.region .txt [⟨(some 91), .mv (.tmp 12), none⟩,
  ⟨(some 92), .arith .add .i64 (.tmp 91) (.const (.int .i64 1)), none⟩,
  ⟨(some 12), .mv (.tmp 92), none⟩])))))) (.seq (.region .txt [⟨(some 104), .fldA 2 (.tmp 8), none⟩,
  ⟨(some 105), .ld (.slice) (.tmp 104), none⟩,
  ⟨(some 106), .mv (.tmp 9), none⟩,
  ⟨(some 107), .mv (.tmp 10), none⟩,
  ⟨(some 108), .mkAgg #[(.int .i64 0), (.int .i64 0), (.int .i64 0)] [(0, 1, (.tmp 106)), (1, 1, (.tmp 107)), (2, 1, (.const (.int .i64 1)))], none⟩,
  ⟨(some 109), .lit 80 1 #[(.int .i64 0), (.int .i64 0), (.int .i64 0)] [(0, 3, (.tmp 108))], none⟩,
  ⟨(some 110), .app 80 24 3 #[(.int .i64 0), (.int .i64 0), (.int .i64 0)] (.tmp 105) (.tmp 109), none⟩,
  ⟨(some 111), .fldA 2 (.tmp 8), none⟩,
  ⟨none, .st 1 (.tmp 111) (.tmp 110), none⟩]) (.seq (.region .txt [⟨(some 112), .fldA 7 (.tmp 8), none⟩,
  ⟨(some 113), .ld (.slice) (.tmp 112), none⟩,
  ⟨(some 114), .mv (.tmp 10), none⟩,
  ⟨(some 115), .lit 3 1 #[(.int .i64 0)] [(0, 1, (.tmp 114))], none⟩,
  ⟨(some 116), .app 3 8 1 #[(.int .i64 0)] (.tmp 113) (.tmp 115), none⟩,
  ⟨(some 117), .fldA 7 (.tmp 8), none⟩,
  ⟨none, .st 1 (.tmp 117) (.tmp 116), none⟩]) (.seq (.region .txt [⟨(some 118), .fldA 5 (.tmp 8), none⟩,
  ⟨none, .st 1 (.tmp 118) (.const (.slice none 0 0)), none⟩,
  ⟨(some 119), .fldA 9 (.tmp 8), none⟩,
  ⟨none, .st 1 (.tmp 119) (.const (.slice none 0 0)), none⟩]) (.seq (.seq (.region .txt [⟨(some 13), .mv (.const (.int .i64 0)), none⟩]) (.block 4 (.loop [(13, .int .i64)] [120, 121, 122, 123, 124, 127, 128, 129, 130, 131, 132, 133, 134, 135, 136, 137, 138, 139, 140, 141, 142, 143, 125, 126, 13] (.seq (.seq (.region .txt [⟨(some 120), .mv (.tmp 13), none⟩,
  ⟨(some 121), .fldA 9 (.tmp 1), none⟩,
  ⟨(some 122), .ld (.slice) (.tmp 121), none⟩,
  ⟨(some 123), .len (.tmp 122), none⟩,
  ⟨(some 124), .icmp .lss .i64 (.tmp 120) (.tmp 123), none⟩]) (.cond (.tmp 124) .skip (.exit 4))) (.seq (.block 5 (.seq (.region .txt [⟨(some 127), .fldA 9 (.tmp 1), none⟩,
  ⟨(some 128), .ld (.slice) (.tmp 127), none⟩,
  ⟨(some 129), .mv (.tmp 13), none⟩,
  ⟨(some 130), .idxA 3 (.tmp 128) (.tmp 129), none⟩,
  ⟨(some 131), .fldA 0 (.tmp 130), none⟩,
  ⟨(some 132), .ld (.int .u8) (.tmp 131), none⟩,
  ⟨(some 133), .icmp .neq .u8 (.tmp 132) (.const (.int .u8 99)), none⟩]) (.cond (.tmp 133) (.region .ext [⟨(some 134), .fldA 9 (.tmp 8), none⟩,
  ⟨(some 135), .ld (.slice) (.tmp 134), none⟩,
  ⟨(some 136), .fldA 9 (.tmp 1), none⟩,
  ⟨(some 137), .ld (.slice) (.tmp 136), none⟩,
  ⟨(some 138), .mv (.tmp 13), none⟩,
  ⟨(some 139), .idxA 3 (.tmp 137) (.tmp 138), none⟩,
  ⟨(some 140), .ldn [.int .u8, .int .i64, .str] (.tmp 139), none⟩,
  ⟨(some 141), .lit 103 1 #[(.int .u8 0), (.int .i64 0), (.string (ByteArray.mk #[]))] [(0, 3, (.tmp 140))], none⟩,
  ⟨(some 142), .app 103 32 3 #[(.int .u8 0), (.int .i64 0), (.string (ByteArray.mk #[]))] (.tmp 135) (.tmp 141), none⟩,
  ⟨(some 143), .fldA 9 (.tmp 8), none⟩,
  ⟨none, .st 1 (.tmp 143) (.tmp 142), none⟩]) .skip))) (.region .txt [⟨(some 125), .mv (.tmp 13), none⟩,
  ⟨(some 126), .arith .add .i64 (.tmp 125) (.const (.int .i64 1)), none⟩,
  ⟨(some 13), .mv (.tmp 126), none⟩])))))) (.seq (.region .txt [⟨(some 144), .ldn [.int .i64, .slice, .slice, .slice, .slice, .slice, .slice, .slice, .slice, .slice, .slice] (.tmp 8), none⟩,
  ⟨none, .st 11 (.tmp 2) (.tmp 144), none⟩,
  ⟨(some 3), .mv (.const (.int .i64 0)), none⟩]) .ret))))))))))))))))
def loops32 : List (List (Nat × Shp)) := [[(10, .int .i64), (11, .int .i64)], [(12, .int .i64)], [(13, .int .i64)]]
def ret32 : List RV := [.cellN 2 [.int .i64, .slice, .slice, .slice, .slice, .slice, .slice, .slice, .slice, .slice, .slice], .tmp 3]
theorem comp32 : compF Try.prog Try.f32 loops32 = some (145, ret32, code32) := by kernel_rfl
def J32_3  (P : Program) (h : Heap) (h_10 : Heap) (good : Int) (i : Int) (next_ : (Int × Int → Heap → Prop)) (h_15 : Heap) : Prop :=
 ∃ (A86 : Option Addr), ∃ (N86 : Nat), ∃ (C86 : Nat), cellH h_15 (Addr.add (Addr.mk (h).size 0 none) 5) = some (.slice A86 N86 C86) ∧ 0 ≤ (i : Int) ∧ (i : Int) < (N86 : Nat) ∧ AtP A86 fun ad => ∃ (t13 : Int), cellH h_15 (Addr.add ad (Int.toNat i * 1)) = some (.int .i64 t13) ∧ CallsH P 68 #[(.pointer (some (Addr.mk (h_10).size 0 none))), (.int .i64 good), (.int .i64 t13)] h_15 fun v2 h_16 =>
 ∃ (t14 : Int), v2 = (.int .i64 t14) ∧ next_ (t14, (IntKind.wrap .i64 (i + 1))) h_16
def J32_5  (P : Program) (h : Heap) (h_10 : Heap) (good1 : Int) (i1 : Int) (next_1 : (Int → Heap → Prop)) (h_19 : Heap) : Prop :=
 ∃ zn : Zone, Zone.hasL zn h_19 (Addr.add (Addr.mk (h_10).size 0 none) 4) ∧ ∃ (A88 : Option Addr), ∃ (N88 : Nat), ∃ (C88 : Nat), cellH h_19 (Addr.add (Addr.mk (h_10).size 0 none) 4) = some (.slice A88 N88 C88) ∧ Zone.hasL zn h_19 (Addr.add (Addr.mk (h).size 0 none) 4) ∧ ∃ (A89 : Option Addr), ∃ (N89 : Nat), ∃ (C89 : Nat), cellH h_19 (Addr.add (Addr.mk (h).size 0 none) 4) = some (.slice A89 N89 C89) ∧ 0 ≤ (i1 : Int) ∧ (i1 : Int) < (N89 : Nat) ∧ AtP A89 fun ad1 => Zone.hasL zn h_19 (Addr.add ad1 (Int.toNat i1 * 1)) ∧ ∃ (t15 : Int), cellH h_19 (Addr.add ad1 (Int.toNat i1 * 1)) = some (.int .i64 t15) ∧ CallsH P 68 #[(.pointer (some (Addr.mk (h_10).size 0 none))), (.int .i64 good1), (.int .i64 t15)] h_19 fun v3 h_20 =>
 ∃ (t16 : Int), v3 = (.int .i64 t16) ∧ Zone.r zn h_19 h_20 ∧ 0 ≤ (i1 : Int) ∧ (i1 : Int) < (N88 : Nat) ∧ AtP A88 fun ad2 => StoreH h_20 (Addr.add ad2 (Int.toNat i1 * 1)) [(.int .i64 t16)] fun h_21 => next_1 ((IntKind.wrap .i64 (i1 + 1))) h_21
def J32_7  (h : Heap) (h_10 : Heap) (i2 : Int) (next_2 : (Int → Heap → Prop)) (h_32 : Heap) : Prop :=
 ∃ (A93 : Option Addr), ∃ (N93 : Nat), ∃ (C93 : Nat), cellH h_32 (Addr.add (Addr.mk (h).size 0 none) 9) = some (.slice A93 N93 C93) ∧ 0 ≤ (i2 : Int) ∧ (i2 : Int) < (N93 : Nat) ∧ AtP A93 fun ad3 => ∃ (t17 : Int), cellH h_32 (Addr.add (Addr.add ad3 (Int.toNat i2 * 3)) 0) = some (.int .u8 t17) ∧ PIf ((t17 : Int) = 99)
 (next_2 ((IntKind.wrap .i64 (i2 + 1))) h_32)
 ((Addr.block (Addr.add (Addr.mk (h_10).size 0 none) 9)) < (h_32).size ∧ ∃ (A94 : Option Addr), ∃ (N94 : Nat), ∃ (C94 : Nat), cellH h_32 (Addr.add (Addr.mk (h_10).size 0 none) 9) = some (.slice A94 N94 C94) ∧ (Addr.block (Addr.add (Addr.mk (h).size 0 none) 9)) < (h_32).size ∧ ∃ (A95 : Option Addr), ∃ (N95 : Nat), ∃ (C95 : Nat), cellH h_32 (Addr.add (Addr.mk (h).size 0 none) 9) = some (.slice A95 N95 C95) ∧ 0 ≤ (i2 : Int) ∧ (i2 : Int) < (N95 : Nat) ∧ AtP A95 fun ad4 => (Addr.block (Addr.add ad4 (Int.toNat i2 * 3))) < (h_32).size ∧ ∃ (t18 : Int), ∃ (t19 : Int), ∃ (t20 : ByteArray), cellsH h_32 (Addr.add ad4 (Int.toNat i2 * 3)) 0 [(.int .u8 t18), (.int .i64 t19), (.string t20)] ∧ let h_33 : Heap := (h_32).push (.cells #[(.int .u8 t18), (.int .i64 t19), (.string t20)] 103); AgreeH (h_32).size h_32 h_33 ∧ ∃ ys2 : List Value, ReadL h_33 (some (Addr.mk (h_32).size 0 none)) ys2 ∧ ys2.length = 1 * 3 ∧ AppS h_33 A94 N94 C94 103 32 3 #[(.int .u8 0), (.int .i64 0), (.string (ByteArray.mk #[]))] ys2 1 fun apA2 apN2 apC2 h_34 => StoreH h_34 (Addr.add (Addr.mk (h_10).size 0 none) 9) [(.slice apA2 apN2 apC2)] fun h_35 => next_2 ((IntKind.wrap .i64 (i2 + 1))) h_35)
def J32_6  (R : Value → Heap → Prop) (h_ : Heap) (h_10 : Heap) (h_36 : Heap) : Prop :=
 ∃ (t21 : Int), ∃ (A96 : Option Addr), ∃ (N96 : Nat), ∃ (C96 : Nat), ∃ (A97 : Option Addr), ∃ (N97 : Nat), ∃ (C97 : Nat), ∃ (A98 : Option Addr), ∃ (N98 : Nat), ∃ (C98 : Nat), ∃ (A99 : Option Addr), ∃ (N99 : Nat), ∃ (C99 : Nat), ∃ (A100 : Option Addr), ∃ (N100 : Nat), ∃ (C100 : Nat), ∃ (A101 : Option Addr), ∃ (N101 : Nat), ∃ (C101 : Nat), ∃ (A102 : Option Addr), ∃ (N102 : Nat), ∃ (C102 : Nat), ∃ (A103 : Option Addr), ∃ (N103 : Nat), ∃ (C103 : Nat), ∃ (A104 : Option Addr), ∃ (N104 : Nat), ∃ (C104 : Nat), ∃ (A105 : Option Addr), ∃ (N105 : Nat), ∃ (C105 : Nat), cellsH h_36 (Addr.mk (h_10).size 0 none) 0 [(.int .i64 t21), (.slice A96 N96 C96), (.slice A97 N97 C97), (.slice A98 N98 C98), (.slice A99 N99 C99), (.slice A100 N100 C100), (.slice A101 N101 C101), (.slice A102 N102 C102), (.slice A103 N103 C103), (.slice A104 N104 C104), (.slice A105 N105 C105)] ∧ StoreH h_36 (Addr.mk (h_).size 0 none) [(.int .i64 t21), (.slice A96 N96 C96), (.slice A97 N97 C97), (.slice A98 N98 C98), (.slice A99 N99 C99), (.slice A100 N100 C100), (.slice A101 N101 C101), (.slice A102 N102 C102), (.slice A103 N103 C103), (.slice A104 N104 C104), (.slice A105 N105 C105)] fun h_37 => ∃ (t22 : Int), ∃ (A106 : Option Addr), ∃ (N106 : Nat), ∃ (C106 : Nat), ∃ (A107 : Option Addr), ∃ (N107 : Nat), ∃ (C107 : Nat), ∃ (A108 : Option Addr), ∃ (N108 : Nat), ∃ (C108 : Nat), ∃ (A109 : Option Addr), ∃ (N109 : Nat), ∃ (C109 : Nat), ∃ (A110 : Option Addr), ∃ (N110 : Nat), ∃ (C110 : Nat), ∃ (A111 : Option Addr), ∃ (N111 : Nat), ∃ (C111 : Nat), ∃ (A112 : Option Addr), ∃ (N112 : Nat), ∃ (C112 : Nat), ∃ (A113 : Option Addr), ∃ (N113 : Nat), ∃ (C113 : Nat), ∃ (A114 : Option Addr), ∃ (N114 : Nat), ∃ (C114 : Nat), ∃ (A115 : Option Addr), ∃ (N115 : Nat), ∃ (C115 : Nat), cellsH h_37 (Addr.mk (h_).size 0 none) 0 [(.int .i64 t22), (.slice A106 N106 C106), (.slice A107 N107 C107), (.slice A108 N108 C108), (.slice A109 N109 C109), (.slice A110 N110 C110), (.slice A111 N111 C111), (.slice A112 N112 C112), (.slice A113 N113 C113), (.slice A114 N114 C114), (.slice A115 N115 C115)] ∧ R (.tuple #[(.agg #[(.int .i64 t22), (.slice A106 N106 C106), (.slice A107 N107 C107), (.slice A108 N108 C108), (.slice A109 N109 C109), (.slice A110 N110 C110), (.slice A111 N111 C111), (.slice A112 N112 C112), (.slice A113 N113 C113), (.slice A114 N114 C114), (.slice A115 N115 C115)]), (.int .i64 0)]) h_37
def B32_8 (R : Value → Heap → Prop) (h : Heap) (h_ : Heap) (h_10 : Heap) (i2 : Int) (h_31 : Heap) (next_2 : Int → Heap → Prop) : Prop :=
 ∃ (A92 : Option Addr), ∃ (N92 : Nat), ∃ (C92 : Nat), cellH h_31 (Addr.add (Addr.mk (h).size 0 none) 9) = some (.slice A92 N92 C92) ∧ PIf ((i2 : Int) < ((N92 : Nat) : Int))
 (J32_7 h h_10 i2 next_2 h_31)
 (J32_6 R h_ h_10 h_31)
def J32_4  (R : Value → Heap → Prop) (h : Heap) (h_ : Heap) (h_10 : Heap) (t12 : Int) (good1 : Int) (h_22 : Heap) : Prop :=
 ∃ (A90 : Option Addr), ∃ (N90 : Nat), ∃ (C90 : Nat), cellH h_22 (Addr.add (Addr.mk (h_10).size 0 none) 2) = some (.slice A90 N90 C90) ∧ let h_23 : Heap := (h_22).push (.cells #[(.int .i64 (IntKind.wrap .i64 (2 * t12))), (.int .i64 good1), (.int .i64 1)] 80); ∃ ys : List Value, ReadL h_23 (some (Addr.mk (h_22).size 0 none)) ys ∧ ys.length = 1 * 3 ∧ AppS h_23 A90 N90 C90 80 24 3 #[(.int .i64 0), (.int .i64 0), (.int .i64 0)] ys 1 fun apA apN apC h_24 => StoreH h_24 (Addr.add (Addr.mk (h_10).size 0 none) 2) [(.slice apA apN apC)] fun h_25 => ∃ (A91 : Option Addr), ∃ (N91 : Nat), ∃ (C91 : Nat), cellH h_25 (Addr.add (Addr.mk (h_10).size 0 none) 7) = some (.slice A91 N91 C91) ∧ let h_26 : Heap := (h_25).push (.cells #[(.int .i64 good1)] 3); ∃ ys1 : List Value, ReadL h_26 (some (Addr.mk (h_25).size 0 none)) ys1 ∧ ys1.length = 1 * 1 ∧ AppS h_26 A91 N91 C91 3 8 1 #[(.int .i64 0)] ys1 1 fun apA1 apN1 apC1 h_27 => StoreH h_27 (Addr.add (Addr.mk (h_10).size 0 none) 7) [(.slice apA1 apN1 apC1)] fun h_28 => StoreH h_28 (Addr.add (Addr.mk (h_10).size 0 none) 5) [(.slice none 0 0)] fun h_29 => StoreH h_29 (Addr.add (Addr.mk (h_10).size 0 none) 9) [(.slice none 0 0)] fun h_30 => LoopT (σ := Int) (fun st_ h_st nx_st => B32_8 R h h_ h_10 (st_) h_st nx_st) (0) h_30
def B32_9 (P : Program) (R : Value → Heap → Prop) (h : Heap) (h_ : Heap) (h_10 : Heap) (t12 : Int) (good1 : Int) (i1 : Int) (h_18 : Heap) (next_1 : Int → Heap → Prop) : Prop :=
 ∃ (A87 : Option Addr), ∃ (N87 : Nat), ∃ (C87 : Nat), cellH h_18 (Addr.add (Addr.mk (h).size 0 none) 4) = some (.slice A87 N87 C87) ∧ PIf ((i1 : Int) < ((N87 : Nat) : Int))
 (J32_5 P h h_10 good1 i1 next_1 h_18)
 (J32_4 R h h_ h_10 t12 good1 h_18)
def J32_2  (P : Program) (R : Value → Heap → Prop) (h : Heap) (h_ : Heap) (h_10 : Heap) (t12 : Int) (good1 : Int) (h_17 : Heap) : Prop :=
 LoopT (σ := Int) (fun st_ h_st nx_st => B32_9 P R h h_ h_10 t12 good1 (st_) h_st nx_st) (0) h_17
def B32_10 (P : Program) (R : Value → Heap → Prop) (h : Heap) (h_ : Heap) (h_10 : Heap) (t12 : Int) (good : Int) (i : Int) (h_14 : Heap) (next_ : Int × Int → Heap → Prop) : Prop :=
 ∃ (A85 : Option Addr), ∃ (N85 : Nat), ∃ (C85 : Nat), cellH h_14 (Addr.add (Addr.mk (h).size 0 none) 5) = some (.slice A85 N85 C85) ∧ PIf ((i : Int) < ((N85 : Nat) : Int))
 (J32_3 P h h_10 good i next_ h_14)
 (J32_2 P R h h_ h_10 t12 (good) h_14)
def J32_1  (P : Program) (R : Value → Heap → Prop) (h : Heap) (h_ : Heap) (h_9 : Heap) : Prop :=
 ∃ (t9 : Int), ∃ (A65 : Option Addr), ∃ (N65 : Nat), ∃ (C65 : Nat), ∃ (A66 : Option Addr), ∃ (N66 : Nat), ∃ (C66 : Nat), ∃ (A67 : Option Addr), ∃ (N67 : Nat), ∃ (C67 : Nat), ∃ (A68 : Option Addr), ∃ (N68 : Nat), ∃ (C68 : Nat), ∃ (A69 : Option Addr), ∃ (N69 : Nat), ∃ (C69 : Nat), ∃ (A70 : Option Addr), ∃ (N70 : Nat), ∃ (C70 : Nat), ∃ (A71 : Option Addr), ∃ (N71 : Nat), ∃ (C71 : Nat), ∃ (A72 : Option Addr), ∃ (N72 : Nat), ∃ (C72 : Nat), ∃ (A73 : Option Addr), ∃ (N73 : Nat), ∃ (C73 : Nat), ∃ (A74 : Option Addr), ∃ (N74 : Nat), ∃ (C74 : Nat), cellsH h_9 (Addr.mk (h).size 0 none) 0 [(.int .i64 t9), (.slice A65 N65 C65), (.slice A66 N66 C66), (.slice A67 N67 C67), (.slice A68 N68 C68), (.slice A69 N69 C69), (.slice A70 N70 C70), (.slice A71 N71 C71), (.slice A72 N72 C72), (.slice A73 N73 C73), (.slice A74 N74 C74)] ∧ CallsH P 48 #[(.agg #[(.int .i64 t9), (.slice A65 N65 C65), (.slice A66 N66 C66), (.slice A67 N67 C67), (.slice A68 N68 C68), (.slice A69 N69 C69), (.slice A70 N70 C70), (.slice A71 N71 C71), (.slice A72 N72 C72), (.slice A73 N73 C73), (.slice A74 N74 C74)])] h_9 fun v1 h_10 =>
 ∃ (t10 : Int), ∃ (A75 : Option Addr), ∃ (N75 : Nat), ∃ (C75 : Nat), ∃ (A76 : Option Addr), ∃ (N76 : Nat), ∃ (C76 : Nat), ∃ (A77 : Option Addr), ∃ (N77 : Nat), ∃ (C77 : Nat), ∃ (A78 : Option Addr), ∃ (N78 : Nat), ∃ (C78 : Nat), ∃ (A79 : Option Addr), ∃ (N79 : Nat), ∃ (C79 : Nat), ∃ (A80 : Option Addr), ∃ (N80 : Nat), ∃ (C80 : Nat), ∃ (A81 : Option Addr), ∃ (N81 : Nat), ∃ (C81 : Nat), ∃ (A82 : Option Addr), ∃ (N82 : Nat), ∃ (C82 : Nat), ∃ (A83 : Option Addr), ∃ (N83 : Nat), ∃ (C83 : Nat), ∃ (A84 : Option Addr), ∃ (N84 : Nat), ∃ (C84 : Nat), v1 = (.agg #[(.int .i64 t10), (.slice A75 N75 C75), (.slice A76 N76 C76), (.slice A77 N77 C77), (.slice A78 N78 C78), (.slice A79 N79 C79), (.slice A80 N80 C80), (.slice A81 N81 C81), (.slice A82 N82 C82), (.slice A83 N83 C83), (.slice A84 N84 C84)]) ∧ let h_11 : Heap := (h_10).push (.cells #[(.int .i64 0), (.slice none 0 0), (.slice none 0 0), (.slice none 0 0), (.slice none 0 0), (.slice none 0 0), (.slice none 0 0), (.slice none 0 0), (.slice none 0 0), (.slice none 0 0), (.slice none 0 0)] 29); StoreH h_11 (Addr.mk (h_10).size 0 none) [(.int .i64 t10), (.slice A75 N75 C75), (.slice A76 N76 C76), (.slice A77 N77 C77), (.slice A78 N78 C78), (.slice A79 N79 C79), (.slice A80 N80 C80), (.slice A81 N81 C81), (.slice A82 N82 C82), (.slice A83 N83 C83), (.slice A84 N84 C84)] fun h_12 => ∃ (t11 : Int), cellH h_12 (Addr.add (Addr.mk (h_10).size 0 none) 0) = some (.int .i64 t11) ∧ StoreH h_12 (Addr.add (Addr.mk (h_10).size 0 none) 0) [(.int .i64 (IntKind.wrap .i64 (t11 + 1)))] fun h_13 => ∃ (t12 : Int), cellH h_13 (Addr.add (Addr.mk (h_10).size 0 none) 0) = some (.int .i64 t12) ∧ LoopT (σ := Int × Int) (fun st_ h_st nx_st => B32_10 P R h h_ h_10 t12 (st_.1) (st_.2) h_st nx_st) ((IntKind.wrap .i64 (2 * t12)), 0) h_13
def J32_0  (P : Program) (R : Value → Heap → Prop) (h : Heap) (h_ : Heap) (h_4 : Heap) : Prop :=
 ∃ (A20 : Option Addr), ∃ (N20 : Nat), ∃ (C20 : Nat), cellH h_4 (Addr.add (Addr.mk (h).size 0 none) 5) = some (.slice A20 N20 C20) ∧ ∃ (A21 : Option Addr), ∃ (N21 : Nat), ∃ (C21 : Nat), cellH h_4 (Addr.add (Addr.mk (h).size 0 none) 4) = some (.slice A21 N21 C21) ∧ ∃ (t4 : Int), cellH h_4 (Addr.add (Addr.mk (h).size 0 none) 0) = some (.int .i64 t4) ∧ PIf ((16384 : Int) < (IntKind.wrap .i64 ((IntKind.wrap .i64 (t4 + 1)) + (IntKind.wrap .i64 (((N20 : Nat) : Int) + ((N21 : Nat) : Int))))))
 (StoreH h_4 (Addr.mk (h_).size 0 none) [(.int .i64 0), (.slice none 0 0), (.slice none 0 0), (.slice none 0 0), (.slice none 0 0), (.slice none 0 0), (.slice none 0 0), (.slice none 0 0), (.slice none 0 0), (.slice none 0 0), (.slice none 0 0)] fun h_5 => ∃ (t5 : Int), ∃ (A22 : Option Addr), ∃ (N22 : Nat), ∃ (C22 : Nat), ∃ (A23 : Option Addr), ∃ (N23 : Nat), ∃ (C23 : Nat), ∃ (A24 : Option Addr), ∃ (N24 : Nat), ∃ (C24 : Nat), ∃ (A25 : Option Addr), ∃ (N25 : Nat), ∃ (C25 : Nat), ∃ (A26 : Option Addr), ∃ (N26 : Nat), ∃ (C26 : Nat), ∃ (A27 : Option Addr), ∃ (N27 : Nat), ∃ (C27 : Nat), ∃ (A28 : Option Addr), ∃ (N28 : Nat), ∃ (C28 : Nat), ∃ (A29 : Option Addr), ∃ (N29 : Nat), ∃ (C29 : Nat), ∃ (A30 : Option Addr), ∃ (N30 : Nat), ∃ (C30 : Nat), ∃ (A31 : Option Addr), ∃ (N31 : Nat), ∃ (C31 : Nat), cellsH h_5 (Addr.mk (h_).size 0 none) 0 [(.int .i64 t5), (.slice A22 N22 C22), (.slice A23 N23 C23), (.slice A24 N24 C24), (.slice A25 N25 C25), (.slice A26 N26 C26), (.slice A27 N27 C27), (.slice A28 N28 C28), (.slice A29 N29 C29), (.slice A30 N30 C30), (.slice A31 N31 C31)] ∧ R (.tuple #[(.agg #[(.int .i64 t5), (.slice A22 N22 C22), (.slice A23 N23 C23), (.slice A24 N24 C24), (.slice A25 N25 C25), (.slice A26 N26 C26), (.slice A27 N27 C27), (.slice A28 N28 C28), (.slice A29 N29 C29), (.slice A30 N30 C30), (.slice A31 N31 C31)]), (.int .i64 2)]) h_5)
 (∃ (A32 : Option Addr), ∃ (N32 : Nat), ∃ (C32 : Nat), cellH h_4 (Addr.add (Addr.mk (h).size 0 none) 2) = some (.slice A32 N32 C32) ∧ PIf ((16384 : Int) < (IntKind.wrap .i64 (((N32 : Nat) : Int) + 1)))
 (StoreH h_4 (Addr.mk (h_).size 0 none) [(.int .i64 0), (.slice none 0 0), (.slice none 0 0), (.slice none 0 0), (.slice none 0 0), (.slice none 0 0), (.slice none 0 0), (.slice none 0 0), (.slice none 0 0), (.slice none 0 0), (.slice none 0 0)] fun h_6 => ∃ (t6 : Int), ∃ (A33 : Option Addr), ∃ (N33 : Nat), ∃ (C33 : Nat), ∃ (A34 : Option Addr), ∃ (N34 : Nat), ∃ (C34 : Nat), ∃ (A35 : Option Addr), ∃ (N35 : Nat), ∃ (C35 : Nat), ∃ (A36 : Option Addr), ∃ (N36 : Nat), ∃ (C36 : Nat), ∃ (A37 : Option Addr), ∃ (N37 : Nat), ∃ (C37 : Nat), ∃ (A38 : Option Addr), ∃ (N38 : Nat), ∃ (C38 : Nat), ∃ (A39 : Option Addr), ∃ (N39 : Nat), ∃ (C39 : Nat), ∃ (A40 : Option Addr), ∃ (N40 : Nat), ∃ (C40 : Nat), ∃ (A41 : Option Addr), ∃ (N41 : Nat), ∃ (C41 : Nat), ∃ (A42 : Option Addr), ∃ (N42 : Nat), ∃ (C42 : Nat), cellsH h_6 (Addr.mk (h_).size 0 none) 0 [(.int .i64 t6), (.slice A33 N33 C33), (.slice A34 N34 C34), (.slice A35 N35 C35), (.slice A36 N36 C36), (.slice A37 N37 C37), (.slice A38 N38 C38), (.slice A39 N39 C39), (.slice A40 N40 C40), (.slice A41 N41 C41), (.slice A42 N42 C42)] ∧ R (.tuple #[(.agg #[(.int .i64 t6), (.slice A33 N33 C33), (.slice A34 N34 C34), (.slice A35 N35 C35), (.slice A36 N36 C36), (.slice A37 N37 C37), (.slice A38 N38 C38), (.slice A39 N39 C39), (.slice A40 N40 C40), (.slice A41 N41 C41), (.slice A42 N42 C42)]), (.int .i64 2)]) h_6)
 (∃ (A43 : Option Addr), ∃ (N43 : Nat), ∃ (C43 : Nat), cellH h_4 (Addr.add (Addr.mk (h).size 0 none) 8) = some (.slice A43 N43 C43) ∧ PIf ((16384 : Int) < (IntKind.wrap .i64 (((N43 : Nat) : Int) + (IntKind.wrap .i64 (((N20 : Nat) : Int) + ((N21 : Nat) : Int))))))
 (StoreH h_4 (Addr.mk (h_).size 0 none) [(.int .i64 0), (.slice none 0 0), (.slice none 0 0), (.slice none 0 0), (.slice none 0 0), (.slice none 0 0), (.slice none 0 0), (.slice none 0 0), (.slice none 0 0), (.slice none 0 0), (.slice none 0 0)] fun h_7 => ∃ (t7 : Int), ∃ (A44 : Option Addr), ∃ (N44 : Nat), ∃ (C44 : Nat), ∃ (A45 : Option Addr), ∃ (N45 : Nat), ∃ (C45 : Nat), ∃ (A46 : Option Addr), ∃ (N46 : Nat), ∃ (C46 : Nat), ∃ (A47 : Option Addr), ∃ (N47 : Nat), ∃ (C47 : Nat), ∃ (A48 : Option Addr), ∃ (N48 : Nat), ∃ (C48 : Nat), ∃ (A49 : Option Addr), ∃ (N49 : Nat), ∃ (C49 : Nat), ∃ (A50 : Option Addr), ∃ (N50 : Nat), ∃ (C50 : Nat), ∃ (A51 : Option Addr), ∃ (N51 : Nat), ∃ (C51 : Nat), ∃ (A52 : Option Addr), ∃ (N52 : Nat), ∃ (C52 : Nat), ∃ (A53 : Option Addr), ∃ (N53 : Nat), ∃ (C53 : Nat), cellsH h_7 (Addr.mk (h_).size 0 none) 0 [(.int .i64 t7), (.slice A44 N44 C44), (.slice A45 N45 C45), (.slice A46 N46 C46), (.slice A47 N47 C47), (.slice A48 N48 C48), (.slice A49 N49 C49), (.slice A50 N50 C50), (.slice A51 N51 C51), (.slice A52 N52 C52), (.slice A53 N53 C53)] ∧ R (.tuple #[(.agg #[(.int .i64 t7), (.slice A44 N44 C44), (.slice A45 N45 C45), (.slice A46 N46 C46), (.slice A47 N47 C47), (.slice A48 N48 C48), (.slice A49 N49 C49), (.slice A50 N50 C50), (.slice A51 N51 C51), (.slice A52 N52 C52), (.slice A53 N53 C53)]), (.int .i64 2)]) h_7)
 (∃ (A54 : Option Addr), ∃ (N54 : Nat), ∃ (C54 : Nat), cellH h_4 (Addr.add (Addr.mk (h).size 0 none) 7) = some (.slice A54 N54 C54) ∧ PIf ((16384 : Int) < (IntKind.wrap .i64 (((N54 : Nat) : Int) + 1)))
 (StoreH h_4 (Addr.mk (h_).size 0 none) [(.int .i64 0), (.slice none 0 0), (.slice none 0 0), (.slice none 0 0), (.slice none 0 0), (.slice none 0 0), (.slice none 0 0), (.slice none 0 0), (.slice none 0 0), (.slice none 0 0), (.slice none 0 0)] fun h_8 => ∃ (t8 : Int), ∃ (A55 : Option Addr), ∃ (N55 : Nat), ∃ (C55 : Nat), ∃ (A56 : Option Addr), ∃ (N56 : Nat), ∃ (C56 : Nat), ∃ (A57 : Option Addr), ∃ (N57 : Nat), ∃ (C57 : Nat), ∃ (A58 : Option Addr), ∃ (N58 : Nat), ∃ (C58 : Nat), ∃ (A59 : Option Addr), ∃ (N59 : Nat), ∃ (C59 : Nat), ∃ (A60 : Option Addr), ∃ (N60 : Nat), ∃ (C60 : Nat), ∃ (A61 : Option Addr), ∃ (N61 : Nat), ∃ (C61 : Nat), ∃ (A62 : Option Addr), ∃ (N62 : Nat), ∃ (C62 : Nat), ∃ (A63 : Option Addr), ∃ (N63 : Nat), ∃ (C63 : Nat), ∃ (A64 : Option Addr), ∃ (N64 : Nat), ∃ (C64 : Nat), cellsH h_8 (Addr.mk (h_).size 0 none) 0 [(.int .i64 t8), (.slice A55 N55 C55), (.slice A56 N56 C56), (.slice A57 N57 C57), (.slice A58 N58 C58), (.slice A59 N59 C59), (.slice A60 N60 C60), (.slice A61 N61 C61), (.slice A62 N62 C62), (.slice A63 N63 C63), (.slice A64 N64 C64)] ∧ R (.tuple #[(.agg #[(.int .i64 t8), (.slice A55 N55 C55), (.slice A56 N56 C56), (.slice A57 N57 C57), (.slice A58 N58 C58), (.slice A59 N59 C59), (.slice A60 N60 C60), (.slice A61 N61 C61), (.slice A62 N62 C62), (.slice A63 N63 C63), (.slice A64 N64 C64)]), (.int .i64 2)]) h_8)
 (J32_1 P R h h_ h_4))))
def VC32 (P : Program) (c : Int) (cA : Option Addr) (cN : Nat) (cC : Nat) (cA1 : Option Addr) (cN1 : Nat) (cC1 : Nat) (cA2 : Option Addr) (cN2 : Nat) (cC2 : Nat) (cA3 : Option Addr) (cN3 : Nat) (cC3 : Nat) (cA4 : Option Addr) (cN4 : Nat) (cC4 : Nat) (cA5 : Option Addr) (cN5 : Nat) (cC5 : Nat) (cA6 : Option Addr) (cN6 : Nat) (cC6 : Nat) (cA7 : Option Addr) (cN7 : Nat) (cC7 : Nat) (cA8 : Option Addr) (cN8 : Nat) (cC8 : Nat) (cA9 : Option Addr) (cN9 : Nat) (cC9 : Nat) (R : Value → Heap → Prop) (h : Heap) : Prop :=
 let h_ : Heap := (h).push (.cells (Value.cells (.agg #[(.int .i64 c), (.slice cA cN cC), (.slice cA1 cN1 cC1), (.slice cA2 cN2 cC2), (.slice cA3 cN3 cC3), (.slice cA4 cN4 cC4), (.slice cA5 cN5 cC5), (.slice cA6 cN6 cC6), (.slice cA7 cN7 cC7), (.slice cA8 cN8 cC8), (.slice cA9 cN9 cC9)])) 29); let h_1 : Heap := (h_).push (.cells #[(.int .i64 0), (.slice none 0 0), (.slice none 0 0), (.slice none 0 0), (.slice none 0 0), (.slice none 0 0), (.slice none 0 0), (.slice none 0 0), (.slice none 0 0), (.slice none 0 0), (.slice none 0 0)] 29); ∃ (t : Int), ∃ (A : Option Addr), ∃ (N : Nat), ∃ (C : Nat), ∃ (A1 : Option Addr), ∃ (N1 : Nat), ∃ (C1 : Nat), ∃ (A2 : Option Addr), ∃ (N2 : Nat), ∃ (C2 : Nat), ∃ (A3 : Option Addr), ∃ (N3 : Nat), ∃ (C3 : Nat), ∃ (A4 : Option Addr), ∃ (N4 : Nat), ∃ (C4 : Nat), ∃ (A5 : Option Addr), ∃ (N5 : Nat), ∃ (C5 : Nat), ∃ (A6 : Option Addr), ∃ (N6 : Nat), ∃ (C6 : Nat), ∃ (A7 : Option Addr), ∃ (N7 : Nat), ∃ (C7 : Nat), ∃ (A8 : Option Addr), ∃ (N8 : Nat), ∃ (C8 : Nat), ∃ (A9 : Option Addr), ∃ (N9 : Nat), ∃ (C9 : Nat), cellsH h_1 (Addr.mk (h).size 0 none) 0 [(.int .i64 t), (.slice A N C), (.slice A1 N1 C1), (.slice A2 N2 C2), (.slice A3 N3 C3), (.slice A4 N4 C4), (.slice A5 N5 C5), (.slice A6 N6 C6), (.slice A7 N7 C7), (.slice A8 N8 C8), (.slice A9 N9 C9)] ∧ CallsH P 51 #[(.agg #[(.int .i64 t), (.slice A N C), (.slice A1 N1 C1), (.slice A2 N2 C2), (.slice A3 N3 C3), (.slice A4 N4 C4), (.slice A5 N5 C5), (.slice A6 N6 C6), (.slice A7 N7 C7), (.slice A8 N8 C8), (.slice A9 N9 C9)])] h_1 fun v h_2 =>
 ∃ (t1 : Int), ∃ (t2 : Int), v = (.tuple #[(.int .i64 t1), (.int .i64 t2)]) ∧ PIf ((t2 : Int) = 0)
 (J32_0 P R h h_ h_2)
 (StoreH h_2 (Addr.mk (h_).size 0 none) [(.int .i64 0), (.slice none 0 0), (.slice none 0 0), (.slice none 0 0), (.slice none 0 0), (.slice none 0 0), (.slice none 0 0), (.slice none 0 0), (.slice none 0 0), (.slice none 0 0), (.slice none 0 0)] fun h_3 => ∃ (t3 : Int), ∃ (A10 : Option Addr), ∃ (N10 : Nat), ∃ (C10 : Nat), ∃ (A11 : Option Addr), ∃ (N11 : Nat), ∃ (C11 : Nat), ∃ (A12 : Option Addr), ∃ (N12 : Nat), ∃ (C12 : Nat), ∃ (A13 : Option Addr), ∃ (N13 : Nat), ∃ (C13 : Nat), ∃ (A14 : Option Addr), ∃ (N14 : Nat), ∃ (C14 : Nat), ∃ (A15 : Option Addr), ∃ (N15 : Nat), ∃ (C15 : Nat), ∃ (A16 : Option Addr), ∃ (N16 : Nat), ∃ (C16 : Nat), ∃ (A17 : Option Addr), ∃ (N17 : Nat), ∃ (C17 : Nat), ∃ (A18 : Option Addr), ∃ (N18 : Nat), ∃ (C18 : Nat), ∃ (A19 : Option Addr), ∃ (N19 : Nat), ∃ (C19 : Nat), cellsH h_3 (Addr.mk (h_).size 0 none) 0 [(.int .i64 t3), (.slice A10 N10 C10), (.slice A11 N11 C11), (.slice A12 N12 C12), (.slice A13 N13 C13), (.slice A14 N14 C14), (.slice A15 N15 C15), (.slice A16 N16 C16), (.slice A17 N17 C17), (.slice A18 N18 C18), (.slice A19 N19 C19)] ∧ R (.tuple #[(.agg #[(.int .i64 t3), (.slice A10 N10 C10), (.slice A11 N11 C11), (.slice A12 N12 C12), (.slice A13 N13 C13), (.slice A14 N14 C14), (.slice A15 N15 C15), (.slice A16 N16 C16), (.slice A17 N17 C17), (.slice A18 N18 C18), (.slice A19 N19 C19)]), (.int .i64 t2)]) h_3)
theorem vc32 (P : Program) (c : Int) (cA : Option Addr) (cN : Nat) (cC : Nat) (cA1 : Option Addr) (cN1 : Nat) (cC1 : Nat) (cA2 : Option Addr) (cN2 : Nat) (cC2 : Nat) (cA3 : Option Addr) (cN3 : Nat) (cC3 : Nat) (cA4 : Option Addr) (cN4 : Nat) (cC4 : Nat) (cA5 : Option Addr) (cN5 : Nat) (cC5 : Nat) (cA6 : Option Addr) (cN6 : Nat) (cC6 : Nat) (cA7 : Option Addr) (cN7 : Nat) (cC7 : Nat) (cA8 : Option Addr) (cN8 : Nat) (cC8 : Nat) (cA9 : Option Addr) (cN9 : Nat) (cC9 : Nat) (R : Value → Heap → Prop) (h : Heap) : fnC P ret32 code32 [(.agg #[(.int .i64 c), (.slice cA cN cC), (.slice cA1 cN1 cC1), (.slice cA2 cN2 cC2), (.slice cA3 cN3 cC3), (.slice cA4 cN4 cC4), (.slice cA5 cN5 cC5), (.slice cA6 cN6 cC6), (.slice cA7 cN7 cC7), (.slice cA8 cN8 cC8), (.slice cA9 cN9 cC9)])] h R = VC32 P c cA cN cC cA1 cN1 cC1 cA2 cN2 cC2 cA3 cN3 cC3 cA4 cN4 cC4 cA5 cN5 cC5 cA6 cN6 cC6 cA7 cN7 cC7 cA8 cN8 cC8 cA9 cN9 cC9 R h := by kernel_rfl
theorem run32 (c : Int) (cA : Option Addr) (cN : Nat) (cC : Nat) (cA1 : Option Addr) (cN1 : Nat) (cC1 : Nat) (cA2 : Option Addr) (cN2 : Nat) (cC2 : Nat) (cA3 : Option Addr) (cN3 : Nat) (cC3 : Nat) (cA4 : Option Addr) (cN4 : Nat) (cC4 : Nat) (cA5 : Option Addr) (cN5 : Nat) (cC5 : Nat) (cA6 : Option Addr) (cN6 : Nat) (cC6 : Nat) (cA7 : Option Addr) (cN7 : Nat) (cC7 : Nat) (cA8 : Option Addr) (cN8 : Nat) (cC8 : Nat) (cA9 : Option Addr) (cN9 : Nat) (cC9 : Nat) (R : Value → Heap → Prop) (h : Heap) (hv : VC32 Try.prog c cA cN cC cA1 cN1 cC1 cA2 cN2 cC2 cA3 cN3 cC3 cA4 cN4 cC4 cA5 cN5 cC5 cA6 cN6 cC6 cA7 cN7 cC7 cA8 cN8 cC8 cA9 cN9 cC9 R h) : CallsH Try.prog 32 #[(.agg #[(.int .i64 c), (.slice cA cN cC), (.slice cA1 cN1 cC1), (.slice cA2 cN2 cC2), (.slice cA3 cN3 cC3), (.slice cA4 cN4 cC4), (.slice cA5 cN5 cC5), (.slice cA6 cN6 cC6), (.slice cA7 cN7 cC7), (.slice cA8 cN8 cC8), (.slice cA9 cN9 cC9)])] h R := calls_of_fnC (Checked.mixed Try.checked) Try.func32 comp32 (Nat.le_of_ble_eq_true rfl) (by rw [vc32]; exact hv)

/-! 33: trestle/trestlebook.SameCircuit -/
def code33 : SCode := (.seq (.region .txt [⟨(some 2), .box 29 (.tmp 0), none⟩,
  ⟨(some 3), .box 29 (.tmp 1), none⟩,
  ⟨(some 4), .mv (.const (.bool false)), none⟩]) (.seq (.region .txt [⟨(some 7), .fldA 0 (.tmp 2), none⟩,
  ⟨(some 8), .ld (.int .i64) (.tmp 7), none⟩,
  ⟨(some 9), .fldA 0 (.tmp 3), none⟩,
  ⟨(some 10), .ld (.int .i64) (.tmp 9), none⟩,
  ⟨(some 11), .icmp .eql .i64 (.tmp 8) (.tmp 10), none⟩,
  ⟨(some 12), .mv (.tmp 11), none⟩,
  ⟨(some 13), .fldA 1 (.tmp 2), (some (12, true))⟩,
  ⟨(some 14), .ld (.slice) (.tmp 13), (some (12, true))⟩,
  ⟨(some 15), .fldA 1 (.tmp 3), (some (12, true))⟩,
  ⟨(some 16), .ld (.slice) (.tmp 15), (some (12, true))⟩,
  ⟨(some 17), .call 41 [(.tmp 14), (.tmp 16)] (.val (.one (.bool))), (some (12, true))⟩,
  ⟨(some 18), .pick (.tmp 12) (.tmp 17) (.const (.bool false)), none⟩,
  ⟨(some 19), .mv (.tmp 18), none⟩,
  ⟨(some 20), .fldA 2 (.tmp 2), (some (19, true))⟩,
  ⟨(some 21), .ld (.slice) (.tmp 20), (some (19, true))⟩,
  ⟨(some 22), .fldA 2 (.tmp 3), (some (19, true))⟩,
  ⟨(some 23), .ld (.slice) (.tmp 22), (some (19, true))⟩,
  ⟨(some 24), .call 69 [(.tmp 21), (.tmp 23)] (.val (.one (.bool))), (some (19, true))⟩,
  ⟨(some 25), .pick (.tmp 19) (.tmp 24) (.const (.bool false)), none⟩,
  ⟨(some 26), .mv (.tmp 25), none⟩,
  ⟨(some 27), .fldA 3 (.tmp 2), (some (26, true))⟩,
  ⟨(some 28), .ld (.slice) (.tmp 27), (some (26, true))⟩,
  ⟨(some 29), .fldA 3 (.tmp 3), (some (26, true))⟩,
  ⟨(some 30), .ld (.slice) (.tmp 29), (some (26, true))⟩,
  ⟨(some 31), .call 41 [(.tmp 28), (.tmp 30)] (.val (.one (.bool))), (some (26, true))⟩,
  ⟨(some 32), .pick (.tmp 26) (.tmp 31) (.const (.bool false)), none⟩,
  ⟨(some 33), .mv (.tmp 32), none⟩,
  ⟨(some 34), .fldA 4 (.tmp 2), (some (33, true))⟩,
  ⟨(some 35), .ld (.slice) (.tmp 34), (some (33, true))⟩,
  ⟨(some 36), .fldA 4 (.tmp 3), (some (33, true))⟩,
  ⟨(some 37), .ld (.slice) (.tmp 36), (some (33, true))⟩,
  ⟨(some 38), .call 41 [(.tmp 35), (.tmp 37)] (.val (.one (.bool))), (some (33, true))⟩,
  ⟨(some 39), .pick (.tmp 33) (.tmp 38) (.const (.bool false)), none⟩,
  ⟨(some 5), .mv (.tmp 39), none⟩]) (.seq (.region .txt [⟨(some 40), .fldA 5 (.tmp 2), none⟩,
  ⟨(some 41), .ld (.slice) (.tmp 40), none⟩,
  ⟨(some 42), .fldA 5 (.tmp 3), none⟩,
  ⟨(some 43), .ld (.slice) (.tmp 42), none⟩,
  ⟨(some 44), .call 41 [(.tmp 41), (.tmp 43)] (.val (.one (.bool))), none⟩,
  ⟨(some 45), .mv (.tmp 44), none⟩,
  ⟨(some 46), .fldA 6 (.tmp 2), (some (45, true))⟩,
  ⟨(some 47), .ld (.slice) (.tmp 46), (some (45, true))⟩,
  ⟨(some 48), .fldA 6 (.tmp 3), (some (45, true))⟩,
  ⟨(some 49), .ld (.slice) (.tmp 48), (some (45, true))⟩,
  ⟨(some 50), .call 70 [(.tmp 47), (.tmp 49)] (.val (.one (.bool))), (some (45, true))⟩,
  ⟨(some 51), .pick (.tmp 45) (.tmp 50) (.const (.bool false)), none⟩,
  ⟨(some 52), .mv (.tmp 51), none⟩,
  ⟨(some 53), .fldA 7 (.tmp 2), (some (52, true))⟩,
  ⟨(some 54), .ld (.slice) (.tmp 53), (some (52, true))⟩,
  ⟨(some 55), .fldA 7 (.tmp 3), (some (52, true))⟩,
  ⟨(some 56), .ld (.slice) (.tmp 55), (some (52, true))⟩,
  ⟨(some 57), .call 41 [(.tmp 54), (.tmp 56)] (.val (.one (.bool))), (some (52, true))⟩,
  ⟨(some 58), .pick (.tmp 52) (.tmp 57) (.const (.bool false)), none⟩,
  ⟨(some 59), .mv (.tmp 58), none⟩,
  ⟨(some 60), .fldA 8 (.tmp 2), (some (59, true))⟩,
  ⟨(some 61), .ld (.slice) (.tmp 60), (some (59, true))⟩,
  ⟨(some 62), .fldA 8 (.tmp 3), (some (59, true))⟩,
  ⟨(some 63), .ld (.slice) (.tmp 62), (some (59, true))⟩,
  ⟨(some 64), .call 71 [(.tmp 61), (.tmp 63)] (.val (.one (.bool))), (some (59, true))⟩,
  ⟨(some 65), .pick (.tmp 59) (.tmp 64) (.const (.bool false)), none⟩,
  ⟨(some 6), .mv (.tmp 65), none⟩]) (.seq (.region .txt [⟨(some 66), .mv (.tmp 5), none⟩,
  ⟨(some 67), .mv (.tmp 66), none⟩,
  ⟨(some 68), .mv (.tmp 6), (some (67, true))⟩,
  ⟨(some 69), .pick (.tmp 67) (.tmp 68) (.const (.bool false)), none⟩,
  ⟨(some 70), .mv (.tmp 69), none⟩,
  ⟨(some 71), .fldA 9 (.tmp 2), (some (70, true))⟩,
  ⟨(some 72), .ld (.slice) (.tmp 71), (some (70, true))⟩,
  ⟨(some 73), .fldA 9 (.tmp 3), (some (70, true))⟩,
  ⟨(some 74), .ld (.slice) (.tmp 73), (some (70, true))⟩,
  ⟨(some 75), .call 72 [(.tmp 72), (.tmp 74)] (.val (.one (.bool))), (some (70, true))⟩,
  ⟨(some 76), .pick (.tmp 70) (.tmp 75) (.const (.bool false)), none⟩,
  ⟨(some 77), .mv (.tmp 76), none⟩,
  ⟨(some 78), .fldA 10 (.tmp 2), (some (77, true))⟩,
  ⟨(some 79), .ld (.slice) (.tmp 78), (some (77, true))⟩,
  ⟨(some 80), .fldA 10 (.tmp 3), (some (77, true))⟩,
  ⟨(some 81), .ld (.slice) (.tmp 80), (some (77, true))⟩,
  ⟨(some 82), .call 73 [(.tmp 79), (.tmp 81)] (.val (.one (.bool))), (some (77, true))⟩,
  ⟨(some 83), .pick (.tmp 77) (.tmp 82) (.const (.bool false)), none⟩,
  ⟨(some 4), .mv (.tmp 83), none⟩]) .ret))))
def loops33 : List (List (Nat × Shp)) := []
def ret33 : List RV := [.tmp 4]
theorem comp33 : compF Try.prog Try.f33 loops33 = some (84, ret33, code33) := by kernel_rfl
def VC33 (P : Program) (a : Int) (aA : Option Addr) (aN : Nat) (aC : Nat) (aA1 : Option Addr) (aN1 : Nat) (aC1 : Nat) (aA2 : Option Addr) (aN2 : Nat) (aC2 : Nat) (aA3 : Option Addr) (aN3 : Nat) (aC3 : Nat) (aA4 : Option Addr) (aN4 : Nat) (aC4 : Nat) (aA5 : Option Addr) (aN5 : Nat) (aC5 : Nat) (aA6 : Option Addr) (aN6 : Nat) (aC6 : Nat) (aA7 : Option Addr) (aN7 : Nat) (aC7 : Nat) (aA8 : Option Addr) (aN8 : Nat) (aC8 : Nat) (aA9 : Option Addr) (aN9 : Nat) (aC9 : Nat) (b : Int) (bA : Option Addr) (bN : Nat) (bC : Nat) (bA1 : Option Addr) (bN1 : Nat) (bC1 : Nat) (bA2 : Option Addr) (bN2 : Nat) (bC2 : Nat) (bA3 : Option Addr) (bN3 : Nat) (bC3 : Nat) (bA4 : Option Addr) (bN4 : Nat) (bC4 : Nat) (bA5 : Option Addr) (bN5 : Nat) (bC5 : Nat) (bA6 : Option Addr) (bN6 : Nat) (bC6 : Nat) (bA7 : Option Addr) (bN7 : Nat) (bC7 : Nat) (bA8 : Option Addr) (bN8 : Nat) (bC8 : Nat) (bA9 : Option Addr) (bN9 : Nat) (bC9 : Nat) (R : Value → Heap → Prop) (h : Heap) : Prop :=
 let h_ : Heap := (h).push (.cells (Value.cells (.agg #[(.int .i64 a), (.slice aA aN aC), (.slice aA1 aN1 aC1), (.slice aA2 aN2 aC2), (.slice aA3 aN3 aC3), (.slice aA4 aN4 aC4), (.slice aA5 aN5 aC5), (.slice aA6 aN6 aC6), (.slice aA7 aN7 aC7), (.slice aA8 aN8 aC8), (.slice aA9 aN9 aC9)])) 29); let h_1 : Heap := (h_).push (.cells (Value.cells (.agg #[(.int .i64 b), (.slice bA bN bC), (.slice bA1 bN1 bC1), (.slice bA2 bN2 bC2), (.slice bA3 bN3 bC3), (.slice bA4 bN4 bC4), (.slice bA5 bN5 bC5), (.slice bA6 bN6 bC6), (.slice bA7 bN7 bC7), (.slice bA8 bN8 bC8), (.slice bA9 bN9 bC9)])) 29); ∃ (t : Int), cellH h_1 (Addr.add (Addr.mk (h).size 0 none) 0) = some (.int .i64 t) ∧ ∃ (t1 : Int), cellH h_1 (Addr.add (Addr.mk (h_).size 0 none) 0) = some (.int .i64 t1) ∧ PIf ((t : Int) = t1)
 (∃ (A : Option Addr), ∃ (N : Nat), ∃ (C : Nat), cellH h_1 (Addr.add (Addr.mk (h).size 0 none) 1) = some (.slice A N C) ∧ ∃ (A1 : Option Addr), ∃ (N1 : Nat), ∃ (C1 : Nat), cellH h_1 (Addr.add (Addr.mk (h_).size 0 none) 1) = some (.slice A1 N1 C1) ∧ CallsH P 41 #[(.slice A N C), (.slice A1 N1 C1)] h_1 fun v h_2 =>
 ∃ (t2 : Bool), v = (.bool t2) ∧ BIf t2 (∃ (A2 : Option Addr), ∃ (N2 : Nat), ∃ (C2 : Nat), cellH h_2 (Addr.add (Addr.mk (h).size 0 none) 2) = some (.slice A2 N2 C2) ∧ ∃ (A3 : Option Addr), ∃ (N3 : Nat), ∃ (C3 : Nat), cellH h_2 (Addr.add (Addr.mk (h_).size 0 none) 2) = some (.slice A3 N3 C3) ∧ CallsH P 69 #[(.slice A2 N2 C2), (.slice A3 N3 C3)] h_2 fun v1 h_3 =>
 ∃ (t3 : Bool), v1 = (.bool t3) ∧ BIf t3 (∃ (A4 : Option Addr), ∃ (N4 : Nat), ∃ (C4 : Nat), cellH h_3 (Addr.add (Addr.mk (h).size 0 none) 3) = some (.slice A4 N4 C4) ∧ ∃ (A5 : Option Addr), ∃ (N5 : Nat), ∃ (C5 : Nat), cellH h_3 (Addr.add (Addr.mk (h_).size 0 none) 3) = some (.slice A5 N5 C5) ∧ CallsH P 41 #[(.slice A4 N4 C4), (.slice A5 N5 C5)] h_3 fun v2 h_4 =>
 ∃ (t4 : Bool), v2 = (.bool t4) ∧ BIf t4 (∃ (A6 : Option Addr), ∃ (N6 : Nat), ∃ (C6 : Nat), cellH h_4 (Addr.add (Addr.mk (h).size 0 none) 4) = some (.slice A6 N6 C6) ∧ ∃ (A7 : Option Addr), ∃ (N7 : Nat), ∃ (C7 : Nat), cellH h_4 (Addr.add (Addr.mk (h_).size 0 none) 4) = some (.slice A7 N7 C7) ∧ CallsH P 41 #[(.slice A6 N6 C6), (.slice A7 N7 C7)] h_4 fun v3 h_5 =>
 ∃ (t5 : Bool), v3 = (.bool t5) ∧ ∃ (A8 : Option Addr), ∃ (N8 : Nat), ∃ (C8 : Nat), cellH h_5 (Addr.add (Addr.mk (h).size 0 none) 5) = some (.slice A8 N8 C8) ∧ ∃ (A9 : Option Addr), ∃ (N9 : Nat), ∃ (C9 : Nat), cellH h_5 (Addr.add (Addr.mk (h_).size 0 none) 5) = some (.slice A9 N9 C9) ∧ CallsH P 41 #[(.slice A8 N8 C8), (.slice A9 N9 C9)] h_5 fun v4 h_6 =>
 ∃ (t6 : Bool), v4 = (.bool t6) ∧ BIf t6 (∃ (A10 : Option Addr), ∃ (N10 : Nat), ∃ (C10 : Nat), cellH h_6 (Addr.add (Addr.mk (h).size 0 none) 6) = some (.slice A10 N10 C10) ∧ ∃ (A11 : Option Addr), ∃ (N11 : Nat), ∃ (C11 : Nat), cellH h_6 (Addr.add (Addr.mk (h_).size 0 none) 6) = some (.slice A11 N11 C11) ∧ CallsH P 70 #[(.slice A10 N10 C10), (.slice A11 N11 C11)] h_6 fun v5 h_7 =>
 ∃ (t7 : Bool), v5 = (.bool t7) ∧ BIf t7 (∃ (A12 : Option Addr), ∃ (N12 : Nat), ∃ (C12 : Nat), cellH h_7 (Addr.add (Addr.mk (h).size 0 none) 7) = some (.slice A12 N12 C12) ∧ ∃ (A13 : Option Addr), ∃ (N13 : Nat), ∃ (C13 : Nat), cellH h_7 (Addr.add (Addr.mk (h_).size 0 none) 7) = some (.slice A13 N13 C13) ∧ CallsH P 41 #[(.slice A12 N12 C12), (.slice A13 N13 C13)] h_7 fun v6 h_8 =>
 ∃ (t8 : Bool), v6 = (.bool t8) ∧ BIf t8 (∃ (A14 : Option Addr), ∃ (N14 : Nat), ∃ (C14 : Nat), cellH h_8 (Addr.add (Addr.mk (h).size 0 none) 8) = some (.slice A14 N14 C14) ∧ ∃ (A15 : Option Addr), ∃ (N15 : Nat), ∃ (C15 : Nat), cellH h_8 (Addr.add (Addr.mk (h_).size 0 none) 8) = some (.slice A15 N15 C15) ∧ CallsH P 71 #[(.slice A14 N14 C14), (.slice A15 N15 C15)] h_8 fun v7 h_9 =>
 ∃ (t9 : Bool), v7 = (.bool t9) ∧ BIf t5 (BIf t9 (∃ (A16 : Option Addr), ∃ (N16 : Nat), ∃ (C16 : Nat), cellH h_9 (Addr.add (Addr.mk (h).size 0 none) 9) = some (.slice A16 N16 C16) ∧ ∃ (A17 : Option Addr), ∃ (N17 : Nat), ∃ (C17 : Nat), cellH h_9 (Addr.add (Addr.mk (h_).size 0 none) 9) = some (.slice A17 N17 C17) ∧ CallsH P 72 #[(.slice A16 N16 C16), (.slice A17 N17 C17)] h_9 fun v8 h_10 =>
 ∃ (t10 : Bool), v8 = (.bool t10) ∧ BIf t10 (∃ (A18 : Option Addr), ∃ (N18 : Nat), ∃ (C18 : Nat), cellH h_10 (Addr.add (Addr.mk (h).size 0 none) 10) = some (.slice A18 N18 C18) ∧ ∃ (A19 : Option Addr), ∃ (N19 : Nat), ∃ (C19 : Nat), cellH h_10 (Addr.add (Addr.mk (h_).size 0 none) 10) = some (.slice A19 N19 C19) ∧ CallsH P 73 #[(.slice A18 N18 C18), (.slice A19 N19 C19)] h_10 fun v9 h_11 =>
 ∃ (t11 : Bool), v9 = (.bool t11) ∧ R (.bool t11) h_11) (R (.bool false) h_10)) (R (.bool false) h_9)) (R (.bool false) h_9)) (BIf t5 (R (.bool false) h_8) (R (.bool false) h_8))) (BIf t5 (R (.bool false) h_7) (R (.bool false) h_7))) (BIf t5 (R (.bool false) h_6) (R (.bool false) h_6))) (∃ (A20 : Option Addr), ∃ (N20 : Nat), ∃ (C20 : Nat), cellH h_4 (Addr.add (Addr.mk (h).size 0 none) 5) = some (.slice A20 N20 C20) ∧ ∃ (A21 : Option Addr), ∃ (N21 : Nat), ∃ (C21 : Nat), cellH h_4 (Addr.add (Addr.mk (h_).size 0 none) 5) = some (.slice A21 N21 C21) ∧ CallsH P 41 #[(.slice A20 N20 C20), (.slice A21 N21 C21)] h_4 fun v10 h_12 =>
 ∃ (t12 : Bool), v10 = (.bool t12) ∧ BIf t12 (∃ (A22 : Option Addr), ∃ (N22 : Nat), ∃ (C22 : Nat), cellH h_12 (Addr.add (Addr.mk (h).size 0 none) 6) = some (.slice A22 N22 C22) ∧ ∃ (A23 : Option Addr), ∃ (N23 : Nat), ∃ (C23 : Nat), cellH h_12 (Addr.add (Addr.mk (h_).size 0 none) 6) = some (.slice A23 N23 C23) ∧ CallsH P 70 #[(.slice A22 N22 C22), (.slice A23 N23 C23)] h_12 fun v11 h_13 =>
 ∃ (t13 : Bool), v11 = (.bool t13) ∧ BIf t13 (∃ (A24 : Option Addr), ∃ (N24 : Nat), ∃ (C24 : Nat), cellH h_13 (Addr.add (Addr.mk (h).size 0 none) 7) = some (.slice A24 N24 C24) ∧ ∃ (A25 : Option Addr), ∃ (N25 : Nat), ∃ (C25 : Nat), cellH h_13 (Addr.add (Addr.mk (h_).size 0 none) 7) = some (.slice A25 N25 C25) ∧ CallsH P 41 #[(.slice A24 N24 C24), (.slice A25 N25 C25)] h_13 fun v12 h_14 =>
 ∃ (t14 : Bool), v12 = (.bool t14) ∧ BIf t14 (∃ (A26 : Option Addr), ∃ (N26 : Nat), ∃ (C26 : Nat), cellH h_14 (Addr.add (Addr.mk (h).size 0 none) 8) = some (.slice A26 N26 C26) ∧ ∃ (A27 : Option Addr), ∃ (N27 : Nat), ∃ (C27 : Nat), cellH h_14 (Addr.add (Addr.mk (h_).size 0 none) 8) = some (.slice A27 N27 C27) ∧ CallsH P 71 #[(.slice A26 N26 C26), (.slice A27 N27 C27)] h_14 fun v13 h_15 =>
 ∃ (t15 : Bool), v13 = (.bool t15) ∧ R (.bool false) h_15) (R (.bool false) h_14)) (R (.bool false) h_13)) (R (.bool false) h_12))) (∃ (A28 : Option Addr), ∃ (N28 : Nat), ∃ (C28 : Nat), cellH h_3 (Addr.add (Addr.mk (h).size 0 none) 5) = some (.slice A28 N28 C28) ∧ ∃ (A29 : Option Addr), ∃ (N29 : Nat), ∃ (C29 : Nat), cellH h_3 (Addr.add (Addr.mk (h_).size 0 none) 5) = some (.slice A29 N29 C29) ∧ CallsH P 41 #[(.slice A28 N28 C28), (.slice A29 N29 C29)] h_3 fun v14 h_16 =>
 ∃ (t16 : Bool), v14 = (.bool t16) ∧ BIf t16 (∃ (A30 : Option Addr), ∃ (N30 : Nat), ∃ (C30 : Nat), cellH h_16 (Addr.add (Addr.mk (h).size 0 none) 6) = some (.slice A30 N30 C30) ∧ ∃ (A31 : Option Addr), ∃ (N31 : Nat), ∃ (C31 : Nat), cellH h_16 (Addr.add (Addr.mk (h_).size 0 none) 6) = some (.slice A31 N31 C31) ∧ CallsH P 70 #[(.slice A30 N30 C30), (.slice A31 N31 C31)] h_16 fun v15 h_17 =>
 ∃ (t17 : Bool), v15 = (.bool t17) ∧ BIf t17 (∃ (A32 : Option Addr), ∃ (N32 : Nat), ∃ (C32 : Nat), cellH h_17 (Addr.add (Addr.mk (h).size 0 none) 7) = some (.slice A32 N32 C32) ∧ ∃ (A33 : Option Addr), ∃ (N33 : Nat), ∃ (C33 : Nat), cellH h_17 (Addr.add (Addr.mk (h_).size 0 none) 7) = some (.slice A33 N33 C33) ∧ CallsH P 41 #[(.slice A32 N32 C32), (.slice A33 N33 C33)] h_17 fun v16 h_18 =>
 ∃ (t18 : Bool), v16 = (.bool t18) ∧ BIf t18 (∃ (A34 : Option Addr), ∃ (N34 : Nat), ∃ (C34 : Nat), cellH h_18 (Addr.add (Addr.mk (h).size 0 none) 8) = some (.slice A34 N34 C34) ∧ ∃ (A35 : Option Addr), ∃ (N35 : Nat), ∃ (C35 : Nat), cellH h_18 (Addr.add (Addr.mk (h_).size 0 none) 8) = some (.slice A35 N35 C35) ∧ CallsH P 71 #[(.slice A34 N34 C34), (.slice A35 N35 C35)] h_18 fun v17 h_19 =>
 ∃ (t19 : Bool), v17 = (.bool t19) ∧ R (.bool false) h_19) (R (.bool false) h_18)) (R (.bool false) h_17)) (R (.bool false) h_16))) (∃ (A36 : Option Addr), ∃ (N36 : Nat), ∃ (C36 : Nat), cellH h_2 (Addr.add (Addr.mk (h).size 0 none) 5) = some (.slice A36 N36 C36) ∧ ∃ (A37 : Option Addr), ∃ (N37 : Nat), ∃ (C37 : Nat), cellH h_2 (Addr.add (Addr.mk (h_).size 0 none) 5) = some (.slice A37 N37 C37) ∧ CallsH P 41 #[(.slice A36 N36 C36), (.slice A37 N37 C37)] h_2 fun v18 h_20 =>
 ∃ (t20 : Bool), v18 = (.bool t20) ∧ BIf t20 (∃ (A38 : Option Addr), ∃ (N38 : Nat), ∃ (C38 : Nat), cellH h_20 (Addr.add (Addr.mk (h).size 0 none) 6) = some (.slice A38 N38 C38) ∧ ∃ (A39 : Option Addr), ∃ (N39 : Nat), ∃ (C39 : Nat), cellH h_20 (Addr.add (Addr.mk (h_).size 0 none) 6) = some (.slice A39 N39 C39) ∧ CallsH P 70 #[(.slice A38 N38 C38), (.slice A39 N39 C39)] h_20 fun v19 h_21 =>
 ∃ (t21 : Bool), v19 = (.bool t21) ∧ BIf t21 (∃ (A40 : Option Addr), ∃ (N40 : Nat), ∃ (C40 : Nat), cellH h_21 (Addr.add (Addr.mk (h).size 0 none) 7) = some (.slice A40 N40 C40) ∧ ∃ (A41 : Option Addr), ∃ (N41 : Nat), ∃ (C41 : Nat), cellH h_21 (Addr.add (Addr.mk (h_).size 0 none) 7) = some (.slice A41 N41 C41) ∧ CallsH P 41 #[(.slice A40 N40 C40), (.slice A41 N41 C41)] h_21 fun v20 h_22 =>
 ∃ (t22 : Bool), v20 = (.bool t22) ∧ BIf t22 (∃ (A42 : Option Addr), ∃ (N42 : Nat), ∃ (C42 : Nat), cellH h_22 (Addr.add (Addr.mk (h).size 0 none) 8) = some (.slice A42 N42 C42) ∧ ∃ (A43 : Option Addr), ∃ (N43 : Nat), ∃ (C43 : Nat), cellH h_22 (Addr.add (Addr.mk (h_).size 0 none) 8) = some (.slice A43 N43 C43) ∧ CallsH P 71 #[(.slice A42 N42 C42), (.slice A43 N43 C43)] h_22 fun v21 h_23 =>
 ∃ (t23 : Bool), v21 = (.bool t23) ∧ R (.bool false) h_23) (R (.bool false) h_22)) (R (.bool false) h_21)) (R (.bool false) h_20)))
 (∃ (A44 : Option Addr), ∃ (N44 : Nat), ∃ (C44 : Nat), cellH h_1 (Addr.add (Addr.mk (h).size 0 none) 5) = some (.slice A44 N44 C44) ∧ ∃ (A45 : Option Addr), ∃ (N45 : Nat), ∃ (C45 : Nat), cellH h_1 (Addr.add (Addr.mk (h_).size 0 none) 5) = some (.slice A45 N45 C45) ∧ CallsH P 41 #[(.slice A44 N44 C44), (.slice A45 N45 C45)] h_1 fun v22 h_24 =>
 ∃ (t24 : Bool), v22 = (.bool t24) ∧ BIf t24 (∃ (A46 : Option Addr), ∃ (N46 : Nat), ∃ (C46 : Nat), cellH h_24 (Addr.add (Addr.mk (h).size 0 none) 6) = some (.slice A46 N46 C46) ∧ ∃ (A47 : Option Addr), ∃ (N47 : Nat), ∃ (C47 : Nat), cellH h_24 (Addr.add (Addr.mk (h_).size 0 none) 6) = some (.slice A47 N47 C47) ∧ CallsH P 70 #[(.slice A46 N46 C46), (.slice A47 N47 C47)] h_24 fun v23 h_25 =>
 ∃ (t25 : Bool), v23 = (.bool t25) ∧ BIf t25 (∃ (A48 : Option Addr), ∃ (N48 : Nat), ∃ (C48 : Nat), cellH h_25 (Addr.add (Addr.mk (h).size 0 none) 7) = some (.slice A48 N48 C48) ∧ ∃ (A49 : Option Addr), ∃ (N49 : Nat), ∃ (C49 : Nat), cellH h_25 (Addr.add (Addr.mk (h_).size 0 none) 7) = some (.slice A49 N49 C49) ∧ CallsH P 41 #[(.slice A48 N48 C48), (.slice A49 N49 C49)] h_25 fun v24 h_26 =>
 ∃ (t26 : Bool), v24 = (.bool t26) ∧ BIf t26 (∃ (A50 : Option Addr), ∃ (N50 : Nat), ∃ (C50 : Nat), cellH h_26 (Addr.add (Addr.mk (h).size 0 none) 8) = some (.slice A50 N50 C50) ∧ ∃ (A51 : Option Addr), ∃ (N51 : Nat), ∃ (C51 : Nat), cellH h_26 (Addr.add (Addr.mk (h_).size 0 none) 8) = some (.slice A51 N51 C51) ∧ CallsH P 71 #[(.slice A50 N50 C50), (.slice A51 N51 C51)] h_26 fun v25 h_27 =>
 ∃ (t27 : Bool), v25 = (.bool t27) ∧ R (.bool false) h_27) (R (.bool false) h_26)) (R (.bool false) h_25)) (R (.bool false) h_24))
theorem vc33 (P : Program) (a : Int) (aA : Option Addr) (aN : Nat) (aC : Nat) (aA1 : Option Addr) (aN1 : Nat) (aC1 : Nat) (aA2 : Option Addr) (aN2 : Nat) (aC2 : Nat) (aA3 : Option Addr) (aN3 : Nat) (aC3 : Nat) (aA4 : Option Addr) (aN4 : Nat) (aC4 : Nat) (aA5 : Option Addr) (aN5 : Nat) (aC5 : Nat) (aA6 : Option Addr) (aN6 : Nat) (aC6 : Nat) (aA7 : Option Addr) (aN7 : Nat) (aC7 : Nat) (aA8 : Option Addr) (aN8 : Nat) (aC8 : Nat) (aA9 : Option Addr) (aN9 : Nat) (aC9 : Nat) (b : Int) (bA : Option Addr) (bN : Nat) (bC : Nat) (bA1 : Option Addr) (bN1 : Nat) (bC1 : Nat) (bA2 : Option Addr) (bN2 : Nat) (bC2 : Nat) (bA3 : Option Addr) (bN3 : Nat) (bC3 : Nat) (bA4 : Option Addr) (bN4 : Nat) (bC4 : Nat) (bA5 : Option Addr) (bN5 : Nat) (bC5 : Nat) (bA6 : Option Addr) (bN6 : Nat) (bC6 : Nat) (bA7 : Option Addr) (bN7 : Nat) (bC7 : Nat) (bA8 : Option Addr) (bN8 : Nat) (bC8 : Nat) (bA9 : Option Addr) (bN9 : Nat) (bC9 : Nat) (R : Value → Heap → Prop) (h : Heap) : fnC P ret33 code33 [(.agg #[(.int .i64 a), (.slice aA aN aC), (.slice aA1 aN1 aC1), (.slice aA2 aN2 aC2), (.slice aA3 aN3 aC3), (.slice aA4 aN4 aC4), (.slice aA5 aN5 aC5), (.slice aA6 aN6 aC6), (.slice aA7 aN7 aC7), (.slice aA8 aN8 aC8), (.slice aA9 aN9 aC9)]), (.agg #[(.int .i64 b), (.slice bA bN bC), (.slice bA1 bN1 bC1), (.slice bA2 bN2 bC2), (.slice bA3 bN3 bC3), (.slice bA4 bN4 bC4), (.slice bA5 bN5 bC5), (.slice bA6 bN6 bC6), (.slice bA7 bN7 bC7), (.slice bA8 bN8 bC8), (.slice bA9 bN9 bC9)])] h R = VC33 P a aA aN aC aA1 aN1 aC1 aA2 aN2 aC2 aA3 aN3 aC3 aA4 aN4 aC4 aA5 aN5 aC5 aA6 aN6 aC6 aA7 aN7 aC7 aA8 aN8 aC8 aA9 aN9 aC9 b bA bN bC bA1 bN1 bC1 bA2 bN2 bC2 bA3 bN3 bC3 bA4 bN4 bC4 bA5 bN5 bC5 bA6 bN6 bC6 bA7 bN7 bC7 bA8 bN8 bC8 bA9 bN9 bC9 R h := by kernel_rfl
theorem run33 (a : Int) (aA : Option Addr) (aN : Nat) (aC : Nat) (aA1 : Option Addr) (aN1 : Nat) (aC1 : Nat) (aA2 : Option Addr) (aN2 : Nat) (aC2 : Nat) (aA3 : Option Addr) (aN3 : Nat) (aC3 : Nat) (aA4 : Option Addr) (aN4 : Nat) (aC4 : Nat) (aA5 : Option Addr) (aN5 : Nat) (aC5 : Nat) (aA6 : Option Addr) (aN6 : Nat) (aC6 : Nat) (aA7 : Option Addr) (aN7 : Nat) (aC7 : Nat) (aA8 : Option Addr) (aN8 : Nat) (aC8 : Nat) (aA9 : Option Addr) (aN9 : Nat) (aC9 : Nat) (b : Int) (bA : Option Addr) (bN : Nat) (bC : Nat) (bA1 : Option Addr) (bN1 : Nat) (bC1 : Nat) (bA2 : Option Addr) (bN2 : Nat) (bC2 : Nat) (bA3 : Option Addr) (bN3 : Nat) (bC3 : Nat) (bA4 : Option Addr) (bN4 : Nat) (bC4 : Nat) (bA5 : Option Addr) (bN5 : Nat) (bC5 : Nat) (bA6 : Option Addr) (bN6 : Nat) (bC6 : Nat) (bA7 : Option Addr) (bN7 : Nat) (bC7 : Nat) (bA8 : Option Addr) (bN8 : Nat) (bC8 : Nat) (bA9 : Option Addr) (bN9 : Nat) (bC9 : Nat) (R : Value → Heap → Prop) (h : Heap) (hv : VC33 Try.prog a aA aN aC aA1 aN1 aC1 aA2 aN2 aC2 aA3 aN3 aC3 aA4 aN4 aC4 aA5 aN5 aC5 aA6 aN6 aC6 aA7 aN7 aC7 aA8 aN8 aC8 aA9 aN9 aC9 b bA bN bC bA1 bN1 bC1 bA2 bN2 bC2 bA3 bN3 bC3 bA4 bN4 bC4 bA5 bN5 bC5 bA6 bN6 bC6 bA7 bN7 bC7 bA8 bN8 bC8 bA9 bN9 bC9 R h) : CallsH Try.prog 33 #[(.agg #[(.int .i64 a), (.slice aA aN aC), (.slice aA1 aN1 aC1), (.slice aA2 aN2 aC2), (.slice aA3 aN3 aC3), (.slice aA4 aN4 aC4), (.slice aA5 aN5 aC5), (.slice aA6 aN6 aC6), (.slice aA7 aN7 aC7), (.slice aA8 aN8 aC8), (.slice aA9 aN9 aC9)]), (.agg #[(.int .i64 b), (.slice bA bN bC), (.slice bA1 bN1 bC1), (.slice bA2 bN2 bC2), (.slice bA3 bN3 bC3), (.slice bA4 bN4 bC4), (.slice bA5 bN5 bC5), (.slice bA6 bN6 bC6), (.slice bA7 bN7 bC7), (.slice bA8 bN8 bC8), (.slice bA9 bN9 bC9)])] h R := calls_of_fnC (Checked.mixed Try.checked) Try.func33 comp33 (Nat.le_of_ble_eq_true rfl) (by rw [vc33]; exact hv)

/-! 34: trestle/trestlebook.SpoilCircuit -/
def code34 : SCode := (.seq (.region .txt [⟨(some 2), .box 29 (.tmp 0), none⟩]) (.seq (.region .txt [⟨(some 9), .fldA 1 (.tmp 2), none⟩,
  ⟨(some 10), .ld (.slice) (.tmp 9), none⟩,
  ⟨(some 11), .mv (.tmp 1), none⟩,
  ⟨(some 12), .call 43 [(.tmp 10), (.tmp 11)] (.tup []), none⟩]) (.seq (.region .txt [⟨(some 13), .fldA 3 (.tmp 2), none⟩,
  ⟨(some 14), .ld (.slice) (.tmp 13), none⟩,
  ⟨(some 15), .mv (.tmp 1), none⟩,
  ⟨(some 16), .call 43 [(.tmp 14), (.tmp 15)] (.tup []), none⟩]) (.seq (.region .txt [⟨(some 17), .fldA 4 (.tmp 2), none⟩,
  ⟨(some 18), .ld (.slice) (.tmp 17), none⟩,
  ⟨(some 19), .mv (.tmp 1), none⟩,
  ⟨(some 20), .call 43 [(.tmp 18), (.tmp 19)] (.tup []), none⟩]) (.seq (.region .txt [⟨(some 21), .fldA 5 (.tmp 2), none⟩,
  ⟨(some 22), .ld (.slice) (.tmp 21), none⟩,
  ⟨(some 23), .mv (.tmp 1), none⟩,
  ⟨(some 24), .call 43 [(.tmp 22), (.tmp 23)] (.tup []), none⟩]) (.seq (.region .txt [⟨(some 25), .fldA 7 (.tmp 2), none⟩,
  ⟨(some 26), .ld (.slice) (.tmp 25), none⟩,
  ⟨(some 27), .mv (.tmp 1), none⟩,
  ⟨(some 28), .call 43 [(.tmp 26), (.tmp 27)] (.tup []), none⟩]) (.seq (.seq (.region .txt [⟨(some 4), .mv (.const (.int .i64 0)), none⟩]) (.block 0 (.loop [(4, .int .i64)] [29, 30, 31, 32, 33, 36, 37, 38, 39, 40, 41, 42, 34, 35, 4] (.seq (.seq (.region .txt [⟨(some 29), .mv (.tmp 4), none⟩,
  ⟨(some 30), .fldA 6 (.tmp 2), none⟩,
  ⟨(some 31), .ld (.slice) (.tmp 30), none⟩,
  ⟨(some 32), .len (.tmp 31), none⟩,
  ⟨(some 33), .icmp .lss .i64 (.tmp 29) (.tmp 32), none⟩]) (.cond (.tmp 33) .skip (.exit 0))) (.seq (.block 1 (.region .txt [⟨(some 36), .fldA 6 (.tmp 2), none⟩,
  ⟨(some 37), .ld (.slice) (.tmp 36), none⟩,
  ⟨(some 38), .mv (.tmp 4), none⟩,
  ⟨(some 39), .idxA 1 (.tmp 37) (.tmp 38), none⟩,
  ⟨(some 40), .ld (.slice) (.tmp 39), none⟩,
  ⟨(some 41), .mv (.tmp 1), none⟩,
  ⟨(some 42), .call 43 [(.tmp 40), (.tmp 41)] (.tup []), none⟩])) (.region .txt [⟨(some 34), .mv (.tmp 4), none⟩,
  ⟨(some 35), .arith .add .i64 (.tmp 34) (.const (.int .i64 1)), none⟩,
  ⟨(some 4), .mv (.tmp 35), none⟩])))))) (.seq (.seq (.region .txt [⟨(some 5), .mv (.const (.int .i64 0)), none⟩]) (.block 2 (.loop [(5, .int .i64)] [43, 44, 45, 46, 47, 50, 51, 52, 53, 54, 55, 48, 49, 5] (.seq (.seq (.region .txt [⟨(some 43), .mv (.tmp 5), none⟩,
  ⟨(some 44), .fldA 2 (.tmp 2), none⟩,
  ⟨(some 45), .ld (.slice) (.tmp 44), none⟩,
  ⟨(some 46), .len (.tmp 45), none⟩,
  ⟨(some 47), .icmp .lss .i64 (.tmp 43) (.tmp 46), none⟩]) (.cond (.tmp 47) .skip (.exit 2))) (.seq (.block 3 (.region .txt [⟨(some 50), .fldA 2 (.tmp 2), none⟩,
  ⟨(some 51), .ld (.slice) (.tmp 50), none⟩,
  ⟨(some 52), .mv (.tmp 5), none⟩,
  ⟨(some 53), .mv (.tmp 1), none⟩,
  ⟨(some 54), .mkAgg #[(.int .i64 0), (.int .i64 0), (.int .i64 0)] [(0, 1, (.tmp 53))], none⟩,
  ⟨(some 55), .idxA 3 (.tmp 51) (.tmp 52), none⟩,
  ⟨none, .st 3 (.tmp 55) (.tmp 54), none⟩])) (.region .txt [⟨(some 48), .mv (.tmp 5), none⟩,
  ⟨(some 49), .arith .add .i64 (.tmp 48) (.const (.int .i64 1)), none⟩,
  ⟨(some 5), .mv (.tmp 49), none⟩])))))) (.seq (.seq (.region .txt [⟨(some 6), .mv (.const (.int .i64 0)), none⟩]) (.block 4 (.loop [(6, .int .i64)] [56, 57, 58, 59, 60, 63, 64, 65, 66, 67, 68, 61, 62, 6] (.seq (.seq (.region .txt [⟨(some 56), .mv (.tmp 6), none⟩,
  ⟨(some 57), .fldA 8 (.tmp 2), none⟩,
  ⟨(some 58), .ld (.slice) (.tmp 57), none⟩,
  ⟨(some 59), .len (.tmp 58), none⟩,
  ⟨(some 60), .icmp .lss .i64 (.tmp 56) (.tmp 59), none⟩]) (.cond (.tmp 60) .skip (.exit 4))) (.seq (.block 5 (.region .txt [⟨(some 63), .fldA 8 (.tmp 2), none⟩,
  ⟨(some 64), .ld (.slice) (.tmp 63), none⟩,
  ⟨(some 65), .mv (.tmp 6), none⟩,
  ⟨(some 66), .mv (.tmp 1), none⟩,
  ⟨(some 67), .mkAgg #[(.int .i64 0), (.int .i64 0), (.int .i64 0)] [(0, 1, (.tmp 66))], none⟩,
  ⟨(some 68), .idxA 3 (.tmp 64) (.tmp 65), none⟩,
  ⟨none, .st 3 (.tmp 68) (.tmp 67), none⟩])) (.region .txt [⟨(some 61), .mv (.tmp 6), none⟩,
  ⟨(some 62), .arith .add .i64 (.tmp 61) (.const (.int .i64 1)), none⟩,
  ⟨(some 6), .mv (.tmp 62), none⟩])))))) (.seq (.seq (.region .txt [⟨(some 7), .mv (.const (.int .i64 0)), none⟩]) (.block 6 (.loop [(7, .int .i64)] [69, 70, 71, 72, 73, 76, 77, 78, 79, 80, 74, 75, 7] (.seq (.seq (.region .txt [⟨(some 69), .mv (.tmp 7), none⟩,
  ⟨(some 70), .fldA 9 (.tmp 2), none⟩,
  ⟨(some 71), .ld (.slice) (.tmp 70), none⟩,
  ⟨(some 72), .len (.tmp 71), none⟩,
  ⟨(some 73), .icmp .lss .i64 (.tmp 69) (.tmp 72), none⟩]) (.cond (.tmp 73) .skip (.exit 6))) (.seq (.block 7 (.region .txt [⟨(some 76), .fldA 9 (.tmp 2), none⟩,
  ⟨(some 77), .ld (.slice) (.tmp 76), none⟩,
  ⟨(some 78), .mv (.tmp 7), none⟩,
  ⟨(some 79), .mkAgg #[(.int .u8 0), (.int .i64 0), (.string (ByteArray.mk #[]))] [(2, 1, (.const (.string (ByteArray.mk #[115, 112, 111, 105, 108, 116]))))], none⟩,
  ⟨(some 80), .idxA 3 (.tmp 77) (.tmp 78), none⟩,
  ⟨none, .st 3 (.tmp 80) (.tmp 79), none⟩])) (.region .txt [⟨(some 74), .mv (.tmp 7), none⟩,
  ⟨(some 75), .arith .add .i64 (.tmp 74) (.const (.int .i64 1)), none⟩,
  ⟨(some 7), .mv (.tmp 75), none⟩])))))) (.seq (.region .txt [⟨(some 8), .mv (.const (.int .i64 0)), none⟩]) (.block 8 (.loop [(8, .int .i64)] [81, 82, 83, 84, 85, 88, 89, 90, 91, 86, 87, 8] (.seq (.seq (.region .txt [⟨(some 81), .mv (.tmp 8), none⟩,
  ⟨(some 82), .fldA 10 (.tmp 2), none⟩,
  ⟨(some 83), .ld (.slice) (.tmp 82), none⟩,
  ⟨(some 84), .len (.tmp 83), none⟩,
  ⟨(some 85), .icmp .lss .i64 (.tmp 81) (.tmp 84), none⟩]) (.cond (.tmp 85) .skip (.exit 8))) (.seq (.block 9 (.region .txt [⟨(some 88), .fldA 10 (.tmp 2), none⟩,
  ⟨(some 89), .ld (.slice) (.tmp 88), none⟩,
  ⟨(some 90), .mv (.tmp 8), none⟩,
  ⟨(some 91), .idxA 1 (.tmp 89) (.tmp 90), none⟩,
  ⟨none, .st 1 (.tmp 91) (.const (.string (ByteArray.mk #[115, 112, 111, 105, 108, 116]))), none⟩])) (.region .txt [⟨(some 86), .mv (.tmp 8), none⟩,
  ⟨(some 87), .arith .add .i64 (.tmp 86) (.const (.int .i64 1)), none⟩,
  ⟨(some 8), .mv (.tmp 87), none⟩]))))))))))))))))
def loops34 : List (List (Nat × Shp)) := [[(4, .int .i64)], [(5, .int .i64)], [(6, .int .i64)], [(7, .int .i64)], [(8, .int .i64)]]
def ret34 : List RV := []
theorem comp34 : compF Try.prog Try.f34 loops34 = some (92, ret34, code34) := by kernel_rfl
def J34_1  (P : Program) (h : Heap) (mark : Int) (i : Int) (next_ : (Int → Heap → Prop)) (h_7 : Heap) : Prop :=
 ∃ (A6 : Option Addr), ∃ (N6 : Nat), ∃ (C6 : Nat), cellH h_7 (Addr.add (Addr.mk (h).size 0 none) 6) = some (.slice A6 N6 C6) ∧ 0 ≤ (i : Int) ∧ (i : Int) < (N6 : Nat) ∧ AtP A6 fun ad => ∃ (A7 : Option Addr), ∃ (N7 : Nat), ∃ (C7 : Nat), cellH h_7 (Addr.add ad (Int.toNat i * 1)) = some (.slice A7 N7 C7) ∧ CallsH P 43 #[(.slice A7 N7 C7), (.int .i64 mark)] h_7 fun v5 h_8 =>
 v5 = (.tuple #[]) ∧ next_ ((IntKind.wrap .i64 (i + 1))) h_8
def J34_3  (h : Heap) (mark : Int) (i1 : Int) (next_1 : (Int → Heap → Prop)) (h_11 : Heap) : Prop :=
 ∃ (A9 : Option Addr), ∃ (N9 : Nat), ∃ (C9 : Nat), cellH h_11 (Addr.add (Addr.mk (h).size 0 none) 2) = some (.slice A9 N9 C9) ∧ 0 ≤ (i1 : Int) ∧ (i1 : Int) < (N9 : Nat) ∧ AtP A9 fun ad1 => StoreH h_11 (Addr.add ad1 (Int.toNat i1 * 3)) [(.int .i64 mark), (.int .i64 0), (.int .i64 0)] fun h_12 => next_1 ((IntKind.wrap .i64 (i1 + 1))) h_12
def J34_5  (h : Heap) (mark : Int) (i2 : Int) (next_2 : (Int → Heap → Prop)) (h_15 : Heap) : Prop :=
 ∃ (A11 : Option Addr), ∃ (N11 : Nat), ∃ (C11 : Nat), cellH h_15 (Addr.add (Addr.mk (h).size 0 none) 8) = some (.slice A11 N11 C11) ∧ 0 ≤ (i2 : Int) ∧ (i2 : Int) < (N11 : Nat) ∧ AtP A11 fun ad2 => StoreH h_15 (Addr.add ad2 (Int.toNat i2 * 3)) [(.int .i64 mark), (.int .i64 0), (.int .i64 0)] fun h_16 => next_2 ((IntKind.wrap .i64 (i2 + 1))) h_16
def J34_7  (h : Heap) (i3 : Int) (next_3 : (Int → Heap → Prop)) (h_19 : Heap) : Prop :=
 ∃ (A13 : Option Addr), ∃ (N13 : Nat), ∃ (C13 : Nat), cellH h_19 (Addr.add (Addr.mk (h).size 0 none) 9) = some (.slice A13 N13 C13) ∧ 0 ≤ (i3 : Int) ∧ (i3 : Int) < (N13 : Nat) ∧ AtP A13 fun ad3 => StoreH h_19 (Addr.add ad3 (Int.toNat i3 * 3)) [(.int .u8 0), (.int .i64 0), (.string (ByteArray.mk #[115, 112, 111, 105, 108, 116]))] fun h_20 => next_3 ((IntKind.wrap .i64 (i3 + 1))) h_20
def J34_8  (h : Heap) (i4 : Int) (next_4 : (Int → Heap → Prop)) (h_23 : Heap) : Prop :=
 ∃ (A15 : Option Addr), ∃ (N15 : Nat), ∃ (C15 : Nat), cellH h_23 (Addr.add (Addr.mk (h).size 0 none) 10) = some (.slice A15 N15 C15) ∧ 0 ≤ (i4 : Int) ∧ (i4 : Int) < (N15 : Nat) ∧ AtP A15 fun ad4 => StoreH h_23 (Addr.add ad4 (Int.toNat i4 * 1)) [(.string (ByteArray.mk #[115, 112, 111, 105, 108, 116]))] fun h_24 => next_4 ((IntKind.wrap .i64 (i4 + 1))) h_24
def B34_9 (R : Value → Heap → Prop) (h : Heap) (i4 : Int) (h_22 : Heap) (next_4 : Int → Heap → Prop) : Prop :=
 ∃ (A14 : Option Addr), ∃ (N14 : Nat), ∃ (C14 : Nat), cellH h_22 (Addr.add (Addr.mk (h).size 0 none) 10) = some (.slice A14 N14 C14) ∧ PIf ((i4 : Int) < ((N14 : Nat) : Int))
 (J34_8 h i4 next_4 h_22)
 (R (.tuple #[]) h_22)
def J34_6  (R : Value → Heap → Prop) (h : Heap) (h_21 : Heap) : Prop :=
 LoopT (σ := Int) (fun st_ h_st nx_st => B34_9 R h (st_) h_st nx_st) (0) h_21
def B34_10 (R : Value → Heap → Prop) (h : Heap) (i3 : Int) (h_18 : Heap) (next_3 : Int → Heap → Prop) : Prop :=
 ∃ (A12 : Option Addr), ∃ (N12 : Nat), ∃ (C12 : Nat), cellH h_18 (Addr.add (Addr.mk (h).size 0 none) 9) = some (.slice A12 N12 C12) ∧ PIf ((i3 : Int) < ((N12 : Nat) : Int))
 (J34_7 h i3 next_3 h_18)
 (J34_6 R h h_18)
def J34_4  (R : Value → Heap → Prop) (h : Heap) (h_17 : Heap) : Prop :=
 LoopT (σ := Int) (fun st_ h_st nx_st => B34_10 R h (st_) h_st nx_st) (0) h_17
def B34_11 (R : Value → Heap → Prop) (h : Heap) (mark : Int) (i2 : Int) (h_14 : Heap) (next_2 : Int → Heap → Prop) : Prop :=
 ∃ (A10 : Option Addr), ∃ (N10 : Nat), ∃ (C10 : Nat), cellH h_14 (Addr.add (Addr.mk (h).size 0 none) 8) = some (.slice A10 N10 C10) ∧ PIf ((i2 : Int) < ((N10 : Nat) : Int))
 (J34_5 h mark i2 next_2 h_14)
 (J34_4 R h h_14)
def J34_2  (R : Value → Heap → Prop) (h : Heap) (mark : Int) (h_13 : Heap) : Prop :=
 LoopT (σ := Int) (fun st_ h_st nx_st => B34_11 R h mark (st_) h_st nx_st) (0) h_13
def B34_12 (R : Value → Heap → Prop) (h : Heap) (mark : Int) (i1 : Int) (h_10 : Heap) (next_1 : Int → Heap → Prop) : Prop :=
 ∃ (A8 : Option Addr), ∃ (N8 : Nat), ∃ (C8 : Nat), cellH h_10 (Addr.add (Addr.mk (h).size 0 none) 2) = some (.slice A8 N8 C8) ∧ PIf ((i1 : Int) < ((N8 : Nat) : Int))
 (J34_3 h mark i1 next_1 h_10)
 (J34_2 R h mark h_10)
def J34_0  (R : Value → Heap → Prop) (h : Heap) (mark : Int) (h_9 : Heap) : Prop :=
 LoopT (σ := Int) (fun st_ h_st nx_st => B34_12 R h mark (st_) h_st nx_st) (0) h_9
def B34_13 (P : Program) (R : Value → Heap → Prop) (h : Heap) (mark : Int) (i : Int) (h_6 : Heap) (next_ : Int → Heap → Prop) : Prop :=
 ∃ (A5 : Option Addr), ∃ (N5 : Nat), ∃ (C5 : Nat), cellH h_6 (Addr.add (Addr.mk (h).size 0 none) 6) = some (.slice A5 N5 C5) ∧ PIf ((i : Int) < ((N5 : Nat) : Int))
 (J34_1 P h mark i next_ h_6)
 (J34_0 R h mark h_6)
def VC34 (P : Program) (c : Int) (cA : Option Addr) (cN : Nat) (cC : Nat) (cA1 : Option Addr) (cN1 : Nat) (cC1 : Nat) (cA2 : Option Addr) (cN2 : Nat) (cC2 : Nat) (cA3 : Option Addr) (cN3 : Nat) (cC3 : Nat) (cA4 : Option Addr) (cN4 : Nat) (cC4 : Nat) (cA5 : Option Addr) (cN5 : Nat) (cC5 : Nat) (cA6 : Option Addr) (cN6 : Nat) (cC6 : Nat) (cA7 : Option Addr) (cN7 : Nat) (cC7 : Nat) (cA8 : Option Addr) (cN8 : Nat) (cC8 : Nat) (cA9 : Option Addr) (cN9 : Nat) (cC9 : Nat) (mark : Int) (R : Value → Heap → Prop) (h : Heap) : Prop :=
 let h_ : Heap := (h).push (.cells (Value.cells (.agg #[(.int .i64 c), (.slice cA cN cC), (.slice cA1 cN1 cC1), (.slice cA2 cN2 cC2), (.slice cA3 cN3 cC3), (.slice cA4 cN4 cC4), (.slice cA5 cN5 cC5), (.slice cA6 cN6 cC6), (.slice cA7 cN7 cC7), (.slice cA8 cN8 cC8), (.slice cA9 cN9 cC9)])) 29); ∃ (A : Option Addr), ∃ (N : Nat), ∃ (C : Nat), cellH h_ (Addr.add (Addr.mk (h).size 0 none) 1) = some (.slice A N C) ∧ CallsH P 43 #[(.slice A N C), (.int .i64 mark)] h_ fun v h_1 =>
 v = (.tuple #[]) ∧ ∃ (A1 : Option Addr), ∃ (N1 : Nat), ∃ (C1 : Nat), cellH h_1 (Addr.add (Addr.mk (h).size 0 none) 3) = some (.slice A1 N1 C1) ∧ CallsH P 43 #[(.slice A1 N1 C1), (.int .i64 mark)] h_1 fun v1 h_2 =>
 v1 = (.tuple #[]) ∧ ∃ (A2 : Option Addr), ∃ (N2 : Nat), ∃ (C2 : Nat), cellH h_2 (Addr.add (Addr.mk (h).size 0 none) 4) = some (.slice A2 N2 C2) ∧ CallsH P 43 #[(.slice A2 N2 C2), (.int .i64 mark)] h_2 fun v2 h_3 =>
 v2 = (.tuple #[]) ∧ ∃ (A3 : Option Addr), ∃ (N3 : Nat), ∃ (C3 : Nat), cellH h_3 (Addr.add (Addr.mk (h).size 0 none) 5) = some (.slice A3 N3 C3) ∧ CallsH P 43 #[(.slice A3 N3 C3), (.int .i64 mark)] h_3 fun v3 h_4 =>
 v3 = (.tuple #[]) ∧ ∃ (A4 : Option Addr), ∃ (N4 : Nat), ∃ (C4 : Nat), cellH h_4 (Addr.add (Addr.mk (h).size 0 none) 7) = some (.slice A4 N4 C4) ∧ CallsH P 43 #[(.slice A4 N4 C4), (.int .i64 mark)] h_4 fun v4 h_5 =>
 v4 = (.tuple #[]) ∧ LoopT (σ := Int) (fun st_ h_st nx_st => B34_13 P R h mark (st_) h_st nx_st) (0) h_5
theorem vc34 (P : Program) (c : Int) (cA : Option Addr) (cN : Nat) (cC : Nat) (cA1 : Option Addr) (cN1 : Nat) (cC1 : Nat) (cA2 : Option Addr) (cN2 : Nat) (cC2 : Nat) (cA3 : Option Addr) (cN3 : Nat) (cC3 : Nat) (cA4 : Option Addr) (cN4 : Nat) (cC4 : Nat) (cA5 : Option Addr) (cN5 : Nat) (cC5 : Nat) (cA6 : Option Addr) (cN6 : Nat) (cC6 : Nat) (cA7 : Option Addr) (cN7 : Nat) (cC7 : Nat) (cA8 : Option Addr) (cN8 : Nat) (cC8 : Nat) (cA9 : Option Addr) (cN9 : Nat) (cC9 : Nat) (mark : Int) (R : Value → Heap → Prop) (h : Heap) : fnC P ret34 code34 [(.agg #[(.int .i64 c), (.slice cA cN cC), (.slice cA1 cN1 cC1), (.slice cA2 cN2 cC2), (.slice cA3 cN3 cC3), (.slice cA4 cN4 cC4), (.slice cA5 cN5 cC5), (.slice cA6 cN6 cC6), (.slice cA7 cN7 cC7), (.slice cA8 cN8 cC8), (.slice cA9 cN9 cC9)]), (.int .i64 mark)] h R = VC34 P c cA cN cC cA1 cN1 cC1 cA2 cN2 cC2 cA3 cN3 cC3 cA4 cN4 cC4 cA5 cN5 cC5 cA6 cN6 cC6 cA7 cN7 cC7 cA8 cN8 cC8 cA9 cN9 cC9 mark R h := by kernel_rfl
theorem run34 (c : Int) (cA : Option Addr) (cN : Nat) (cC : Nat) (cA1 : Option Addr) (cN1 : Nat) (cC1 : Nat) (cA2 : Option Addr) (cN2 : Nat) (cC2 : Nat) (cA3 : Option Addr) (cN3 : Nat) (cC3 : Nat) (cA4 : Option Addr) (cN4 : Nat) (cC4 : Nat) (cA5 : Option Addr) (cN5 : Nat) (cC5 : Nat) (cA6 : Option Addr) (cN6 : Nat) (cC6 : Nat) (cA7 : Option Addr) (cN7 : Nat) (cC7 : Nat) (cA8 : Option Addr) (cN8 : Nat) (cC8 : Nat) (cA9 : Option Addr) (cN9 : Nat) (cC9 : Nat) (mark : Int) (R : Value → Heap → Prop) (h : Heap) (hv : VC34 Try.prog c cA cN cC cA1 cN1 cC1 cA2 cN2 cC2 cA3 cN3 cC3 cA4 cN4 cC4 cA5 cN5 cC5 cA6 cN6 cC6 cA7 cN7 cC7 cA8 cN8 cC8 cA9 cN9 cC9 mark R h) : CallsH Try.prog 34 #[(.agg #[(.int .i64 c), (.slice cA cN cC), (.slice cA1 cN1 cC1), (.slice cA2 cN2 cC2), (.slice cA3 cN3 cC3), (.slice cA4 cN4 cC4), (.slice cA5 cN5 cC5), (.slice cA6 cN6 cC6), (.slice cA7 cN7 cC7), (.slice cA8 cN8 cC8), (.slice cA9 cN9 cC9)]), (.int .i64 mark)] h R := calls_of_fnC (Checked.mixed Try.checked) Try.func34 comp34 (Nat.le_of_ble_eq_true rfl) (by rw [vc34]; exact hv)

/-! 35: trestle/trestlelaw25.works -/
def code35 : SCode := (.seq (.region .txt [⟨(some 0), .mv (.const (.bool false)), none⟩]) (.seq (.region .txt [⟨(some 4), .lit 3 1 #[(.int .i64 0)] [(0, 1, (.const (.int .i64 2)))], none⟩,
  ⟨(some 5), .mkAgg #[(.int .i64 0), (.int .i64 0), (.int .i64 0)] [(0, 1, (.const (.int .i64 4))), (1, 1, (.const (.int .i64 2)))], none⟩,
  ⟨(some 6), .lit 80 1 #[(.int .i64 0), (.int .i64 0), (.int .i64 0)] [(0, 3, (.tmp 5))], none⟩,
  ⟨(some 7), .lit 3 1 #[(.int .i64 0)] [(0, 1, (.const (.int .i64 4)))], none⟩,
  ⟨(some 8), .lit 3 1 #[(.int .i64 0)] [(0, 1, (.const (.int .i64 3)))], none⟩,
  ⟨(some 9), .mkAgg #[(.int .i64 0), (.slice none 0 0), (.slice none 0 0), (.slice none 0 0), (.slice none 0 0), (.slice none 0 0), (.slice none 0 0), (.slice none 0 0), (.slice none 0 0), (.slice none 0 0), (.slice none 0 0)] [(0, 1, (.const (.int .i64 2))), (1, 1, (.tmp 4)), (2, 1, (.tmp 6)), (4, 1, (.tmp 7)), (5, 1, (.tmp 8))], none⟩,
  ⟨(some 1), .alloc 29 (.agg #[(.int .i64 0), (.slice none 0 0), (.slice none 0 0), (.slice none 0 0), (.slice none 0 0), (.slice none 0 0), (.slice none 0 0), (.slice none 0 0), (.slice none 0 0), (.slice none 0 0), (.slice none 0 0)]), none⟩,
  ⟨none, .st 11 (.tmp 1) (.tmp 9), none⟩]) (.seq (.region .txt [⟨(some 11), .ldn [.int .i64, .slice, .slice, .slice, .slice, .slice, .slice, .slice, .slice, .slice, .slice] (.tmp 1), none⟩,
  ⟨(some 12), .call 31 [(.tmp 11)] (.tup [.agg [.int .i64, .slice, .slice, .slice, .slice, .slice, .slice, .slice, .slice, .slice, .slice], .one (.int .i64)]), none⟩,
  ⟨(some 10), .mv (.tmp 12), none⟩,
  ⟨(some 13), .extr (.tmp 10) 0, none⟩,
  ⟨(some 14), .extr (.tmp 10) 1, none⟩,
  ⟨(some 2), .alloc 29 (.agg #[(.int .i64 0), (.slice none 0 0), (.slice none 0 0), (.slice none 0 0), (.slice none 0 0), (.slice none 0 0), (.slice none 0 0), (.slice none 0 0), (.slice none 0 0), (.slice none 0 0), (.slice none 0 0)]), none⟩,
  ⟨none, .st 11 (.tmp 2) (.tmp 13), none⟩,
  ⟨(some 3), .mv (.tmp 14), none⟩]) (.seq (.region .txt [⟨(some 15), .mv (.tmp 3), none⟩,
  ⟨(some 16), .icmp .eql .i64 (.tmp 15) (.const (.int .i64 0)), none⟩,
  ⟨(some 17), .mv (.tmp 16), none⟩,
  ⟨(some 18), .fldA 0 (.tmp 2), (some (17, true))⟩,
  ⟨(some 19), .ld (.int .i64) (.tmp 18), (some (17, true))⟩,
  ⟨(some 20), .icmp .eql .i64 (.tmp 19) (.const (.int .i64 5)), (some (17, true))⟩,
  ⟨(some 21), .pick (.tmp 17) (.tmp 20) (.const (.bool false)), none⟩,
  ⟨(some 22), .mv (.tmp 21), none⟩,
  ⟨(some 23), .fldA 2 (.tmp 2), (some (22, true))⟩,
  ⟨(some 24), .ld (.slice) (.tmp 23), (some (22, true))⟩,
  ⟨(some 25), .len (.tmp 24), (some (22, true))⟩,
  ⟨(some 26), .icmp .eql .i64 (.tmp 25) (.const (.int .i64 2)), (some (22, true))⟩,
  ⟨(some 27), .pick (.tmp 22) (.tmp 26) (.const (.bool false)), none⟩,
  ⟨(some 28), .mv (.tmp 27), none⟩,
  ⟨(some 29), .fldA 2 (.tmp 2), (some (28, true))⟩,
  ⟨(some 30), .ld (.slice) (.tmp 29), (some (28, true))⟩,
  ⟨(some 31), .idxA 3 (.tmp 30) (.const (.int .i64 1)), (some (28, true))⟩,
  ⟨(some 32), .ldn [.int .i64, .int .i64, .int .i64] (.tmp 31), (some (28, true))⟩,
  ⟨(some 33), .mkAgg #[(.int .i64 0), (.int .i64 0), (.int .i64 0)] [(0, 1, (.const (.int .i64 6))), (1, 1, (.const (.int .i64 8))), (2, 1, (.const (.int .i64 1)))], (some (28, true))⟩,
  ⟨(some 34), .eqagg false [.int .i64, .int .i64, .int .i64] (.tmp 32) (.tmp 33), (some (28, true))⟩,
  ⟨(some 35), .pick (.tmp 28) (.tmp 34) (.const (.bool false)), none⟩,
  ⟨(some 36), .mv (.tmp 35), none⟩,
  ⟨(some 37), .fldA 4 (.tmp 2), (some (36, true))⟩,
  ⟨(some 38), .ld (.slice) (.tmp 37), (some (36, true))⟩,
  ⟨(some 39), .len (.tmp 38), (some (36, true))⟩,
  ⟨(some 40), .icmp .eql .i64 (.tmp 39) (.const (.int .i64 1)), (some (36, true))⟩,
  ⟨(some 41), .pick (.tmp 36) (.tmp 40) (.const (.bool false)), none⟩,
  ⟨(some 42), .mv (.tmp 41), none⟩,
  ⟨(some 43), .fldA 4 (.tmp 2), (some (42, true))⟩,
  ⟨(some 44), .ld (.slice) (.tmp 43), (some (42, true))⟩,
  ⟨(some 45), .idxA 1 (.tmp 44) (.const (.int .i64 0)), (some (42, true))⟩,
  ⟨(some 46), .ld (.int .i64) (.tmp 45), (some (42, true))⟩,
  ⟨(some 47), .icmp .eql .i64 (.tmp 46) (.const (.int .i64 10)), (some (42, true))⟩,
  ⟨(some 48), .pick (.tmp 42) (.tmp 47) (.const (.bool false)), none⟩,
  ⟨(some 49), .mv (.tmp 48), none⟩,
  ⟨(some 50), .fldA 5 (.tmp 2), (some (49, true))⟩,
  ⟨(some 51), .ld (.slice) (.tmp 50), (some (49, true))⟩,
  ⟨(some 52), .len (.tmp 51), (some (49, true))⟩,
  ⟨(some 53), .icmp .eql .i64 (.tmp 52) (.const (.int .i64 0)), (some (49, true))⟩,
  ⟨(some 54), .pick (.tmp 49) (.tmp 53) (.const (.bool false)), none⟩,
  ⟨(some 0), .mv (.tmp 54), none⟩]) .ret))))
def loops35 : List (List (Nat × Shp)) := []
def ret35 : List RV := [.tmp 0]
theorem comp35 : compF Try.prog Try.f35 loops35 = some (55, ret35, code35) := by kernel_rfl
def VC35 (P : Program) (R : Value → Heap → Prop) (h : Heap) : Prop :=
 let h_ : Heap := (h).push (.cells #[(.int .i64 2)] 3); let h_1 : Heap := (h_).push (.cells #[(.int .i64 4), (.int .i64 2), (.int .i64 0)] 80); let h_2 : Heap := (h_1).push (.cells #[(.int .i64 4)] 3); let h_3 : Heap := (h_2).push (.cells #[(.int .i64 3)] 3); let h_4 : Heap := (h_3).push (.cells #[(.int .i64 0), (.slice none 0 0), (.slice none 0 0), (.slice none 0 0), (.slice none 0 0), (.slice none 0 0), (.slice none 0 0), (.slice none 0 0), (.slice none 0 0), (.slice none 0 0), (.slice none 0 0)] 29); StoreH h_4 (Addr.mk (h_3).size 0 none) [(.int .i64 2), (.slice (some (Addr.mk (h).size 0 none)) 1 1), (.slice (some (Addr.mk (h_).size 0 none)) 1 1), (.slice none 0 0), (.slice (some (Addr.mk (h_1).size 0 none)) 1 1), (.slice (some (Addr.mk (h_2).size 0 none)) 1 1), (.slice none 0 0), (.slice none 0 0), (.slice none 0 0), (.slice none 0 0), (.slice none 0 0)] fun h_5 => ∃ (t : Int), ∃ (A : Option Addr), ∃ (N : Nat), ∃ (C : Nat), ∃ (A1 : Option Addr), ∃ (N1 : Nat), ∃ (C1 : Nat), ∃ (A2 : Option Addr), ∃ (N2 : Nat), ∃ (C2 : Nat), ∃ (A3 : Option Addr), ∃ (N3 : Nat), ∃ (C3 : Nat), ∃ (A4 : Option Addr), ∃ (N4 : Nat), ∃ (C4 : Nat), ∃ (A5 : Option Addr), ∃ (N5 : Nat), ∃ (C5 : Nat), ∃ (A6 : Option Addr), ∃ (N6 : Nat), ∃ (C6 : Nat), ∃ (A7 : Option Addr), ∃ (N7 : Nat), ∃ (C7 : Nat), ∃ (A8 : Option Addr), ∃ (N8 : Nat), ∃ (C8 : Nat), ∃ (A9 : Option Addr), ∃ (N9 : Nat), ∃ (C9 : Nat), cellsH h_5 (Addr.mk (h_3).size 0 none) 0 [(.int .i64 t), (.slice A N C), (.slice A1 N1 C1), (.slice A2 N2 C2), (.slice A3 N3 C3), (.slice A4 N4 C4), (.slice A5 N5 C5), (.slice A6 N6 C6), (.slice A7 N7 C7), (.slice A8 N8 C8), (.slice A9 N9 C9)] ∧ CallsH P 31 #[(.agg #[(.int .i64 t), (.slice A N C), (.slice A1 N1 C1), (.slice A2 N2 C2), (.slice A3 N3 C3), (.slice A4 N4 C4), (.slice A5 N5 C5), (.slice A6 N6 C6), (.slice A7 N7 C7), (.slice A8 N8 C8), (.slice A9 N9 C9)])] h_5 fun v h_6 =>
 ∃ (t1 : Int), ∃ (A10 : Option Addr), ∃ (N10 : Nat), ∃ (C10 : Nat), ∃ (A11 : Option Addr), ∃ (N11 : Nat), ∃ (C11 : Nat), ∃ (A12 : Option Addr), ∃ (N12 : Nat), ∃ (C12 : Nat), ∃ (A13 : Option Addr), ∃ (N13 : Nat), ∃ (C13 : Nat), ∃ (A14 : Option Addr), ∃ (N14 : Nat), ∃ (C14 : Nat), ∃ (A15 : Option Addr), ∃ (N15 : Nat), ∃ (C15 : Nat), ∃ (A16 : Option Addr), ∃ (N16 : Nat), ∃ (C16 : Nat), ∃ (A17 : Option Addr), ∃ (N17 : Nat), ∃ (C17 : Nat), ∃ (A18 : Option Addr), ∃ (N18 : Nat), ∃ (C18 : Nat), ∃ (A19 : Option Addr), ∃ (N19 : Nat), ∃ (C19 : Nat), ∃ (t2 : Int), v = (.tuple #[(.agg #[(.int .i64 t1), (.slice A10 N10 C10), (.slice A11 N11 C11), (.slice A12 N12 C12), (.slice A13 N13 C13), (.slice A14 N14 C14), (.slice A15 N15 C15), (.slice A16 N16 C16), (.slice A17 N17 C17), (.slice A18 N18 C18), (.slice A19 N19 C19)]), (.int .i64 t2)]) ∧ let h_7 : Heap := (h_6).push (.cells #[(.int .i64 0), (.slice none 0 0), (.slice none 0 0), (.slice none 0 0), (.slice none 0 0), (.slice none 0 0), (.slice none 0 0), (.slice none 0 0), (.slice none 0 0), (.slice none 0 0), (.slice none 0 0)] 29); StoreH h_7 (Addr.mk (h_6).size 0 none) [(.int .i64 t1), (.slice A10 N10 C10), (.slice A11 N11 C11), (.slice A12 N12 C12), (.slice A13 N13 C13), (.slice A14 N14 C14), (.slice A15 N15 C15), (.slice A16 N16 C16), (.slice A17 N17 C17), (.slice A18 N18 C18), (.slice A19 N19 C19)] fun h_8 => PIf ((t2 : Int) = 0)
 (∃ (t3 : Int), cellH h_8 (Addr.add (Addr.mk (h_6).size 0 none) 0) = some (.int .i64 t3) ∧ PIf ((t3 : Int) = 5)
 (∃ (A20 : Option Addr), ∃ (N20 : Nat), ∃ (C20 : Nat), cellH h_8 (Addr.add (Addr.mk (h_6).size 0 none) 2) = some (.slice A20 N20 C20) ∧ PIf ((((N20 : Nat) : Int) : Int) = 2)
 (∃ (A21 : Option Addr), ∃ (N21 : Nat), ∃ (C21 : Nat), cellH h_8 (Addr.add (Addr.mk (h_6).size 0 none) 2) = some (.slice A21 N21 C21) ∧ 0 ≤ (1 : Int) ∧ (1 : Int) < (N21 : Nat) ∧ AtP A21 fun ad => ∃ (t4 : Int), ∃ (t5 : Int), ∃ (t6 : Int), cellsH h_8 (Addr.add ad (Int.toNat 1 * 3)) 0 [(.int .i64 t4), (.int .i64 t5), (.int .i64 t6)] ∧ PIf ((#[(.int .i64 t4), (.int .i64 t5), (.int .i64 t6)] : Array Value) = #[(.int .i64 6), (.int .i64 8), (.int .i64 1)])
 (∃ (A22 : Option Addr), ∃ (N22 : Nat), ∃ (C22 : Nat), cellH h_8 (Addr.add (Addr.mk (h_6).size 0 none) 4) = some (.slice A22 N22 C22) ∧ PIf ((((N22 : Nat) : Int) : Int) = 1)
 (∃ (A23 : Option Addr), ∃ (N23 : Nat), ∃ (C23 : Nat), cellH h_8 (Addr.add (Addr.mk (h_6).size 0 none) 4) = some (.slice A23 N23 C23) ∧ 0 ≤ (0 : Int) ∧ (0 : Int) < (N23 : Nat) ∧ AtP A23 fun ad1 => ∃ (t7 : Int), cellH h_8 (Addr.add ad1 (Int.toNat 0 * 1)) = some (.int .i64 t7) ∧ PIf ((t7 : Int) = 10)
 (∃ (A24 : Option Addr), ∃ (N24 : Nat), ∃ (C24 : Nat), cellH h_8 (Addr.add (Addr.mk (h_6).size 0 none) 5) = some (.slice A24 N24 C24) ∧ PIf ((((N24 : Nat) : Int) : Int) = 0)
 (R (.bool true) h_8)
 (R (.bool false) h_8))
 (R (.bool false) h_8))
 (R (.bool false) h_8))
 (R (.bool false) h_8))
 (R (.bool false) h_8))
 (R (.bool false) h_8))
 (R (.bool false) h_8)
theorem vc35 (P : Program) (R : Value → Heap → Prop) (h : Heap) : fnC P ret35 code35 [] h R = VC35 P R h := by kernel_rfl
theorem run35 (R : Value → Heap → Prop) (h : Heap) (hv : VC35 Try.prog R h) : CallsH Try.prog 35 #[] h R := calls_of_fnC (Checked.mixed Try.checked) Try.func35 comp35 (Nat.le_of_ble_eq_true rfl) (by rw [vc35]; exact hv)

/-! 36: trestle/trestlebook.LendInts -/
def code36 : SCode := (.seq (.region .txt [⟨(some 2), .mv (.const (.slice none 0 0)), none⟩]) (.seq (.region .txt [⟨(some 3), .mv (.tmp 0), none⟩,
  ⟨(some 4), .call 74 [(.tmp 3)] (.val (.one (.slice))), none⟩,
  ⟨(some 5), .lit 3 1 #[(.int .i64 0)] [(0, 1, (.const (.int .i64 (-77))))], none⟩,
  ⟨(some 6), .app 3 8 1 #[(.int .i64 0)] (.tmp 4) (.tmp 5), none⟩,
  ⟨(some 7), .mv (.tmp 0), none⟩,
  ⟨(some 8), .len (.tmp 7), none⟩,
  ⟨(some 9), .slc 1 (.tmp 6) none (some (.tmp 8)), none⟩,
  ⟨(some 2), .mv (.tmp 9), none⟩]) .ret))
def loops36 : List (List (Nat × Shp)) := []
def ret36 : List RV := [.tmp 2]
theorem comp36 : compF Try.prog Try.f36 loops36 = some (10, ret36, code36) := by kernel_rfl
def VC36 (P : Program) (lA : Option Addr) (lN : Nat) (lC : Nat) (R : Value → Heap → Prop) (h : Heap) : Prop :=
 CallsH P 74 #[(.slice lA lN lC)] h fun v h_ =>
 ∃ (A : Option Addr), ∃ (N : Nat), ∃ (C : Nat), v = (.slice A N C) ∧ let h_1 : Heap := (h_).push (.cells #[(.int .i64 (-77))] 3); ∃ ys : List Value, ReadL h_1 (some (Addr.mk (h_).size 0 none)) ys ∧ ys.length = 1 * 1 ∧ AppS h_1 A N C 3 8 1 #[(.int .i64 0)] ys 1 fun apA apN apC h_2 => 0 ≤ (0 : Int) ∧ (0 : Int) ≤ ((lN : Nat) : Int) ∧ (((lN : Nat) : Int) : Int) ≤ (apC : Nat) ∧ R (.slice (cutA 1 apA apC (Int.toNat 0)) (Int.toNat ((lN : Nat) : Int) - Int.toNat 0) (apC - Int.toNat 0)) h_2
theorem vc36 (P : Program) (lA : Option Addr) (lN : Nat) (lC : Nat) (R : Value → Heap → Prop) (h : Heap) : fnC P ret36 code36 [(.slice lA lN lC)] h R = VC36 P lA lN lC R h := by kernel_rfl
theorem run36 (lA : Option Addr) (lN : Nat) (lC : Nat) (R : Value → Heap → Prop) (h : Heap) (hv : VC36 Try.prog lA lN lC R h) : CallsH Try.prog 36 #[(.slice lA lN lC)] h R := calls_of_fnC (Checked.mixed Try.checked) Try.func36 comp36 (Nat.le_of_ble_eq_true rfl) (by rw [vc36]; exact hv)

/-! 41: trestle/trestlebook.SameInts -/
def code41 : SCode := (.seq (.region .txt [⟨(some 4), .mv (.const (.bool false)), none⟩]) (.seq (.seq (.region .txt [⟨(some 6), .mv (.tmp 0), none⟩,
  ⟨(some 7), .len (.tmp 6), none⟩,
  ⟨(some 8), .mv (.tmp 1), none⟩,
  ⟨(some 9), .len (.tmp 8), none⟩,
  ⟨(some 10), .icmp .neq .i64 (.tmp 7) (.tmp 9), none⟩]) (.cond (.tmp 10) (.seq (.region .txt [⟨(some 4), .mv (.const (.bool false)), none⟩]) .ret) .skip)) (.seq (.seq (.region .txt [⟨(some 5), .mv (.const (.int .i64 0)), none⟩]) (.block 0 (.loop [(5, .int .i64)] [11, 12, 13, 14, 17, 18, 19, 20, 21, 22, 23, 24, 25, 4, 15, 16, 5] (.seq (.seq (.region .txt [⟨(some 11), .mv (.tmp 5), none⟩,
  ⟨(some 12), .mv (.tmp 0), none⟩,
  ⟨(some 13), .len (.tmp 12), none⟩,
  ⟨(some 14), .icmp .lss .i64 (.tmp 11) (.tmp 13), none⟩]) (.cond (.tmp 14) .skip (.exit 0))) (.seq (.block 1 (.seq (.region .txt [⟨(some 17), .mv (.tmp 0), none⟩,
  ⟨(some 18), .mv (.tmp 5), none⟩,
  ⟨(some 19), .idxA 1 (.tmp 17) (.tmp 18), none⟩,
  ⟨(some 20), .ld (.int .i64) (.tmp 19), none⟩,
  ⟨(some 21), .mv (.tmp 1), none⟩,
  ⟨(some 22), .mv (.tmp 5), none⟩,
  ⟨(some 23), .idxA 1 (.tmp 21) (.tmp 22), none⟩,
  ⟨(some 24), .ld (.int .i64) (.tmp 23), none⟩,
  ⟨(some 25), .icmp .neq .i64 (.tmp 20) (.tmp 24), none⟩]) (.cond (.tmp 25) (.seq (.region .txt [⟨(some 4), .mv (.const (.bool false)), none⟩]) .ret) .skip))) (.region .txt [⟨(some 15), .mv (.tmp 5), none⟩,
  ⟨(some 16), .arith .add .i64 (.tmp 15) (.const (.int .i64 1)), none⟩,
  ⟨(some 5), .mv (.tmp 16), none⟩])))))) (.seq (.region .txt [⟨(some 4), .mv (.const (.bool true)), none⟩]) .ret))))
def loops41 : List (List (Nat × Shp)) := [[(5, .int .i64)]]
def ret41 : List RV := [.tmp 4]
theorem comp41 : compF Try.prog Try.f41 loops41 = some (26, ret41, code41) := by kernel_rfl
def J41_2  (R : Value → Heap → Prop) (aA : (Option Addr)) (aN : Nat) (bA : (Option Addr)) (bN : Nat) (i : Int) (next_ : (Int → Heap → Prop)) (h_2 : Heap) : Prop :=
 0 ≤ (i : Int) ∧ (i : Int) < (aN : Nat) ∧ AtP aA fun ad => ∃ (t : Int), cellH h_2 (Addr.add ad (Int.toNat i * 1)) = some (.int .i64 t) ∧ 0 ≤ (i : Int) ∧ (i : Int) < (bN : Nat) ∧ AtP bA fun ad1 => ∃ (t1 : Int), cellH h_2 (Addr.add ad1 (Int.toNat i * 1)) = some (.int .i64 t1) ∧ PIf ((t : Int) = t1)
 (next_ ((IntKind.wrap .i64 (i + 1))) h_2)
 (R (.bool false) h_2)
def J41_1  (R : Value → Heap → Prop) (h_3 : Heap) : Prop :=
 R (.bool true) h_3
def B41_3 (R : Value → Heap → Prop) (aA : (Option Addr)) (aN : Nat) (bA : (Option Addr)) (bN : Nat) (i : Int) (h_1 : Heap) (next_ : Int → Heap → Prop) : Prop :=
 PIf ((i : Int) < ((aN : Nat) : Int))
 (J41_2 R aA aN bA bN i next_ h_1)
 (J41_1 R h_1)
def J41_0  (R : Value → Heap → Prop) (aA : (Option Addr)) (aN : Nat) (bA : (Option Addr)) (bN : Nat) (h_ : Heap) : Prop :=
 LoopT (σ := Int) (fun st_ h_st nx_st => B41_3 R aA aN bA bN (st_) h_st nx_st) (0) h_
def VC41 (P : Program) (aA : Option Addr) (aN : Nat) (aC : Nat) (bA : Option Addr) (bN : Nat) (bC : Nat) (R : Value → Heap → Prop) (h : Heap) : Prop :=
 PIf ((((aN : Nat) : Int) : Int) = ((bN : Nat) : Int))
 (J41_0 R aA aN bA bN h)
 (R (.bool false) h)
theorem vc41 (P : Program) (aA : Option Addr) (aN : Nat) (aC : Nat) (bA : Option Addr) (bN : Nat) (bC : Nat) (R : Value → Heap → Prop) (h : Heap) : fnC P ret41 code41 [(.slice aA aN aC), (.slice bA bN bC)] h R = VC41 P aA aN aC bA bN bC R h := by kernel_rfl
theorem run41 (aA : Option Addr) (aN : Nat) (aC : Nat) (bA : Option Addr) (bN : Nat) (bC : Nat) (R : Value → Heap → Prop) (h : Heap) (hv : VC41 Try.prog aA aN aC bA bN bC R h) : CallsH Try.prog 41 #[(.slice aA aN aC), (.slice bA bN bC)] h R := calls_of_fnC (Checked.mixed Try.checked) Try.func41 comp41 (Nat.le_of_ble_eq_true rfl) (by rw [vc41]; exact hv)

/-! 43: trestle/trestlebook.SpoilInts -/
def code43 : SCode := (.seq (.seq (.region .txt [⟨(some 4), .mv (.const (.int .i64 0)), none⟩]) (.block 0 (.loop [(4, .int .i64)] [5, 6, 7, 8, 11, 12, 13, 14, 9, 10, 4] (.seq (.seq (.region .txt [⟨(some 5), .mv (.tmp 4), none⟩,
  ⟨(some 6), .mv (.tmp 0), none⟩,
  ⟨(some 7), .len (.tmp 6), none⟩,
  ⟨(some 8), .icmp .lss .i64 (.tmp 5) (.tmp 7), none⟩]) (.cond (.tmp 8) .skip (.exit 0))) (.seq (.block 1 (.region .txt [⟨(some 11), .mv (.tmp 0), none⟩,
  ⟨(some 12), .mv (.tmp 4), none⟩,
  ⟨(some 13), .mv (.tmp 1), none⟩,
  ⟨(some 14), .idxA 1 (.tmp 11) (.tmp 12), none⟩,
  ⟨none, .st 1 (.tmp 14) (.tmp 13), none⟩])) (.region .txt [⟨(some 9), .mv (.tmp 4), none⟩,
  ⟨(some 10), .arith .add .i64 (.tmp 9) (.const (.int .i64 1)), none⟩,
  ⟨(some 4), .mv (.tmp 10), none⟩])))))) (.seq (.region .txt [⟨(some 15), .mv (.tmp 0), none⟩,
  ⟨(some 16), .len (.tmp 15), none⟩,
  ⟨(some 17), .mv (.tmp 0), none⟩,
  ⟨(some 18), .cap (.tmp 17), none⟩,
  ⟨(some 19), .icmp .lss .i64 (.tmp 16) (.tmp 18), none⟩]) (.cond (.tmp 19) (.region .txt [⟨(some 20), .mv (.tmp 0), none⟩,
  ⟨(some 21), .mv (.tmp 0), none⟩,
  ⟨(some 22), .len (.tmp 21), none⟩,
  ⟨(some 23), .arith .add .i64 (.tmp 22) (.const (.int .i64 1)), none⟩,
  ⟨(some 24), .slc 1 (.tmp 20) none (some (.tmp 23)), none⟩,
  ⟨(some 25), .mv (.tmp 0), none⟩,
  ⟨(some 26), .len (.tmp 25), none⟩,
  ⟨(some 27), .mv (.tmp 1), none⟩,
  ⟨(some 28), .idxA 1 (.tmp 24) (.tmp 26), none⟩,
  ⟨none, .st 1 (.tmp 28) (.tmp 27), none⟩]) .skip)))
def loops43 : List (List (Nat × Shp)) := [[(4, .int .i64)]]
def ret43 : List RV := []
theorem comp43 : compF Try.prog Try.f43 loops43 = some (29, ret43, code43) := by kernel_rfl
def J43_0  (R : Value → Heap → Prop) (lA : (Option Addr)) (lN : Nat) (lC : Nat) (mark : Int) (h_2 : Heap) : Prop :=
 PIf ((((lN : Nat) : Int) : Int) < ((lC : Nat) : Int))
 (0 ≤ (0 : Int) ∧ (0 : Int) ≤ (IntKind.wrap .i64 (((lN : Nat) : Int) + 1)) ∧ ((IntKind.wrap .i64 (((lN : Nat) : Int) + 1)) : Int) ≤ (lC : Nat) ∧ 0 ≤ (((lN : Nat) : Int) : Int) ∧ (((lN : Nat) : Int) : Int) < ((Int.toNat (IntKind.wrap .i64 (((lN : Nat) : Int) + 1)) - Int.toNat 0) : Nat) ∧ AtP (cutA 1 lA lC (Int.toNat 0)) fun ad1 => StoreH h_2 (Addr.add ad1 (Int.toNat ((lN : Nat) : Int) * 1)) [(.int .i64 mark)] fun h_3 => R (.tuple #[]) h_3)
 (R (.tuple #[]) h_2)
def B43_1 (R : Value → Heap → Prop) (lA : (Option Addr)) (lN : Nat) (lC : Nat) (mark : Int) (i : Int) (h_ : Heap) (next_ : Int → Heap → Prop) : Prop :=
 PIf ((i : Int) < ((lN : Nat) : Int))
 (0 ≤ (i : Int) ∧ (i : Int) < (lN : Nat) ∧ AtP lA fun ad => StoreH h_ (Addr.add ad (Int.toNat i * 1)) [(.int .i64 mark)] fun h_1 => next_ ((IntKind.wrap .i64 (i + 1))) h_1)
 (J43_0 R lA lN lC mark h_)
def VC43 (P : Program) (lA : Option Addr) (lN : Nat) (lC : Nat) (mark : Int) (R : Value → Heap → Prop) (h : Heap) : Prop :=
 LoopT (σ := Int) (fun st_ h_st nx_st => B43_1 R lA lN lC mark (st_) h_st nx_st) (0) h
theorem vc43 (P : Program) (lA : Option Addr) (lN : Nat) (lC : Nat) (mark : Int) (R : Value → Heap → Prop) (h : Heap) : fnC P ret43 code43 [(.slice lA lN lC), (.int .i64 mark)] h R = VC43 P lA lN lC mark R h := by kernel_rfl
theorem run43 (lA : Option Addr) (lN : Nat) (lC : Nat) (mark : Int) (R : Value → Heap → Prop) (h : Heap) (hv : VC43 Try.prog lA lN lC mark R h) : CallsH Try.prog 43 #[(.slice lA lN lC), (.int .i64 mark)] h R := calls_of_fnC (Checked.mixed Try.checked) Try.func43 comp43 (Nat.le_of_ble_eq_true rfl) (by rw [vc43]; exact hv)

/-! 44: trestle/trestlebook.KeptInts -/
def code44 : SCode := (.seq (.region .txt [⟨(some 4), .mv (.const (.bool false)), none⟩]) (.seq (.region .txt [⟨(some 5), .mv (.tmp 0), none⟩,
  ⟨(some 6), .mv (.tmp 1), none⟩,
  ⟨(some 7), .call 41 [(.tmp 5), (.tmp 6)] (.val (.one (.bool))), none⟩,
  ⟨(some 8), .mv (.tmp 7), none⟩,
  ⟨(some 9), .mv (.tmp 0), (some (8, true))⟩,
  ⟨(some 10), .mv (.tmp 1), (some (8, true))⟩,
  ⟨(some 11), .len (.tmp 10), (some (8, true))⟩,
  ⟨(some 12), .arith .add .i64 (.tmp 11) (.const (.int .i64 1)), (some (8, true))⟩,
  ⟨(some 13), .slc 1 (.tmp 9) none (some (.tmp 12)), (some (8, true))⟩,
  ⟨(some 14), .mv (.tmp 1), (some (8, true))⟩,
  ⟨(some 15), .len (.tmp 14), (some (8, true))⟩,
  ⟨(some 16), .idxA 1 (.tmp 13) (.tmp 15), (some (8, true))⟩,
  ⟨(some 17), .ld (.int .i64) (.tmp 16), (some (8, true))⟩,
  ⟨(some 18), .icmp .eql .i64 (.tmp 17) (.const (.int .i64 (-77))), (some (8, true))⟩,
  ⟨(some 19), .pick (.tmp 8) (.tmp 18) (.const (.bool false)), none⟩,
  ⟨(some 4), .mv (.tmp 19), none⟩]) .ret))
def loops44 : List (List (Nat × Shp)) := []
def ret44 : List RV := [.tmp 4]
theorem comp44 : compF Try.prog Try.f44 loops44 = some (20, ret44, code44) := by kernel_rfl
def VC44 (P : Program) (lA : Option Addr) (lN : Nat) (lC : Nat) (wasA : Option Addr) (wasN : Nat) (wasC : Nat) (R : Value → Heap → Prop) (h : Heap) : Prop :=
 CallsH P 41 #[(.slice lA lN lC), (.slice wasA wasN wasC)] h fun v h_ =>
 ∃ (t : Bool), v = (.bool t) ∧ BIf t (0 ≤ (0 : Int) ∧ (0 : Int) ≤ (IntKind.wrap .i64 (((wasN : Nat) : Int) + 1)) ∧ ((IntKind.wrap .i64 (((wasN : Nat) : Int) + 1)) : Int) ≤ (lC : Nat) ∧ 0 ≤ (((wasN : Nat) : Int) : Int) ∧ (((wasN : Nat) : Int) : Int) < ((Int.toNat (IntKind.wrap .i64 (((wasN : Nat) : Int) + 1)) - Int.toNat 0) : Nat) ∧ AtP (cutA 1 lA lC (Int.toNat 0)) fun ad => ∃ (t1 : Int), cellH h_ (Addr.add ad (Int.toNat ((wasN : Nat) : Int) * 1)) = some (.int .i64 t1) ∧ PIf ((t1 : Int) = (-77))
 (R (.bool true) h_)
 (R (.bool false) h_)) (R (.bool false) h_)
theorem vc44 (P : Program) (lA : Option Addr) (lN : Nat) (lC : Nat) (wasA : Option Addr) (wasN : Nat) (wasC : Nat) (R : Value → Heap → Prop) (h : Heap) : fnC P ret44 code44 [(.slice lA lN lC), (.slice wasA wasN wasC)] h R = VC44 P lA lN lC wasA wasN wasC R h := by kernel_rfl
theorem run44 (lA : Option Addr) (lN : Nat) (lC : Nat) (wasA : Option Addr) (wasN : Nat) (wasC : Nat) (R : Value → Heap → Prop) (h : Heap) (hv : VC44 Try.prog lA lN lC wasA wasN wasC R h) : CallsH Try.prog 44 #[(.slice lA lN lC), (.slice wasA wasN wasC)] h R := calls_of_fnC (Checked.mixed Try.checked) Try.func44 comp44 (Nat.le_of_ble_eq_true rfl) (by rw [vc44]; exact hv)

/-! 48: trestle/trestlebook.CopyCircuit -/
def code48 : SCode := (.seq (.region .txt [⟨(some 1), .box 29 (.tmp 0), none⟩,
  ⟨(some 2), .alloc 29 (.agg #[(.int .i64 0), (.slice none 0 0), (.slice none 0 0), (.slice none 0 0), (.slice none 0 0), (.slice none 0 0), (.slice none 0 0), (.slice none 0 0), (.slice none 0 0), (.slice none 0 0), (.slice none 0 0)]), none⟩]) (.seq (.region .flt [⟨(some 5), .fldA 1 (.tmp 1), none⟩,
  ⟨(some 6), .ld (.slice) (.tmp 5), none⟩,
  ⟨(some 7), .call 74 [(.tmp 6)] (.val (.one (.slice))), none⟩,
  ⟨(some 8), .lit 80 0 #[(.int .i64 0), (.int .i64 0), (.int .i64 0)] [], none⟩,
  ⟨(some 9), .fldA 2 (.tmp 1), none⟩,
  ⟨(some 10), .ld (.slice) (.tmp 9), none⟩,
  ⟨(some 11), .app 80 24 3 #[(.int .i64 0), (.int .i64 0), (.int .i64 0)] (.tmp 8) (.tmp 10), none⟩,
  ⟨(some 12), .fldA 3 (.tmp 1), none⟩,
  ⟨(some 13), .ld (.slice) (.tmp 12), none⟩,
  ⟨(some 14), .call 74 [(.tmp 13)] (.val (.one (.slice))), none⟩,
  ⟨(some 15), .fldA 4 (.tmp 1), none⟩,
  ⟨(some 16), .ld (.slice) (.tmp 15), none⟩,
  ⟨(some 17), .call 74 [(.tmp 16)] (.val (.one (.slice))), none⟩,
  ⟨(some 18), .fldA 5 (.tmp 1), none⟩,
  ⟨(some 19), .ld (.slice) (.tmp 18), none⟩,
  ⟨(some 20), .call 74 [(.tmp 19)] (.val (.one (.slice))), none⟩,
  ⟨(some 21), .fldA 6 (.tmp 1), none⟩,
  ⟨(some 22), .ld (.slice) (.tmp 21), none⟩,
  ⟨(some 23), .call 85 [(.tmp 22)] (.val (.one (.slice))), none⟩,
  ⟨(some 24), .fldA 7 (.tmp 1), none⟩,
  ⟨(some 25), .ld (.slice) (.tmp 24), none⟩,
  ⟨(some 26), .call 74 [(.tmp 25)] (.val (.one (.slice))), none⟩,
  ⟨(some 27), .lit 82 0 #[(.int .i64 0), (.int .i64 0), (.int .i64 0)] [], none⟩,
  ⟨(some 28), .fldA 8 (.tmp 1), none⟩,
  ⟨(some 29), .ld (.slice) (.tmp 28), none⟩,
  ⟨(some 30), .app 82 24 3 #[(.int .i64 0), (.int .i64 0), (.int .i64 0)] (.tmp 27) (.tmp 29), none⟩,
  ⟨(some 31), .lit 103 0 #[(.int .u8 0), (.int .i64 0), (.string (ByteArray.mk #[]))] [], none⟩,
  ⟨(some 32), .fldA 9 (.tmp 1), none⟩,
  ⟨(some 33), .ld (.slice) (.tmp 32), none⟩,
  ⟨(some 34), .app 103 32 3 #[(.int .u8 0), (.int .i64 0), (.string (ByteArray.mk #[]))] (.tmp 31) (.tmp 33), none⟩,
  ⟨(some 35), .lit 9 0 #[(.string (ByteArray.mk #[]))] [], none⟩,
  ⟨(some 36), .fldA 10 (.tmp 1), none⟩,
  ⟨(some 37), .ld (.slice) (.tmp 36), none⟩,
  ⟨(some 38), .app 9 16 1 #[(.string (ByteArray.mk #[]))] (.tmp 35) (.tmp 37), none⟩,
  ⟨(some 3), .fldA 0 (.tmp 1), none⟩,
  ⟨(some 4), .ld (.int .i64) (.tmp 3), none⟩,
  ⟨(some 39), .mkAgg #[(.int .i64 0), (.slice none 0 0), (.slice none 0 0), (.slice none 0 0), (.slice none 0 0), (.slice none 0 0), (.slice none 0 0), (.slice none 0 0), (.slice none 0 0), (.slice none 0 0), (.slice none 0 0)] [(0, 1, (.tmp 4)), (1, 1, (.tmp 7)), (2, 1, (.tmp 11)), (3, 1, (.tmp 14)), (4, 1, (.tmp 17)), (5, 1, (.tmp 20)), (6, 1, (.tmp 23)), (7, 1, (.tmp 26)), (8, 1, (.tmp 30)), (9, 1, (.tmp 34)), (10, 1, (.tmp 38))], none⟩,
  ⟨none, .st 11 (.tmp 2) (.tmp 39), none⟩]) .ret))
def loops48 : List (List (Nat × Shp)) := []
def ret48 : List RV := [.cellN 2 [.int .i64, .slice, .slice, .slice, .slice, .slice, .slice, .slice, .slice, .slice, .slice]]
theorem comp48 : compF Try.prog Try.f48 loops48 = some (40, ret48, code48) := by kernel_rfl
def VC48 (P : Program) (c : Int) (cA : Option Addr) (cN : Nat) (cC : Nat) (cA1 : Option Addr) (cN1 : Nat) (cC1 : Nat) (cA2 : Option Addr) (cN2 : Nat) (cC2 : Nat) (cA3 : Option Addr) (cN3 : Nat) (cC3 : Nat) (cA4 : Option Addr) (cN4 : Nat) (cC4 : Nat) (cA5 : Option Addr) (cN5 : Nat) (cC5 : Nat) (cA6 : Option Addr) (cN6 : Nat) (cC6 : Nat) (cA7 : Option Addr) (cN7 : Nat) (cC7 : Nat) (cA8 : Option Addr) (cN8 : Nat) (cC8 : Nat) (cA9 : Option Addr) (cN9 : Nat) (cC9 : Nat) (R : Value → Heap → Prop) (h : Heap) : Prop :=
 let h_ : Heap := (h).push (.cells (Value.cells (.agg #[(.int .i64 c), (.slice cA cN cC), (.slice cA1 cN1 cC1), (.slice cA2 cN2 cC2), (.slice cA3 cN3 cC3), (.slice cA4 cN4 cC4), (.slice cA5 cN5 cC5), (.slice cA6 cN6 cC6), (.slice cA7 cN7 cC7), (.slice cA8 cN8 cC8), (.slice cA9 cN9 cC9)])) 29); let h_1 : Heap := (h_).push (.cells #[(.int .i64 0), (.slice none 0 0), (.slice none 0 0), (.slice none 0 0), (.slice none 0 0), (.slice none 0 0), (.slice none 0 0), (.slice none 0 0), (.slice none 0 0), (.slice none 0 0), (.slice none 0 0)] 29); (Addr.block (Addr.add (Addr.mk (h).size 0 none) 1)) < (h_1).size ∧ ∃ (A : Option Addr), ∃ (N : Nat), ∃ (C : Nat), cellH h_1 (Addr.add (Addr.mk (h).size 0 none) 1) = some (.slice A N C) ∧ ∀ (U : Nat → Prop) (h_2 : Heap), GrowH none' h_1 U h_2 → CallsH P 74 #[(.slice A N C)] h_2 fun v h_3 =>
 ∃ (A1 : Option Addr), ∃ (N1 : Nat), ∃ (C1 : Nat), v = (.slice A1 N1 C1) ∧ Keeps (h_1).size U h_2 h_3 ∧ ∀ (U1 : Nat → Prop) (h_4 : Heap) (b : Nat), GrowH U h_3 U1 h_4 → U1 b → (h_4)[b]? = some (Obj.cells #[] 80) → (Addr.block (Addr.add (Addr.mk (h).size 0 none) 2)) < (h_1).size ∧ ∃ (A2 : Option Addr), ∃ (N2 : Nat), ∃ (C2 : Nat), cellH h_4 (Addr.add (Addr.mk (h).size 0 none) 2) = some (.slice A2 N2 C2) ∧ ∀ (U2 : Nat → Prop) (h_5 : Heap), GrowH (minus U1 b) h_4 U2 h_5 → ∃ ys : List Value, ReadL h_5 A2 ys ∧ ys.length = N2 * 3 ∧ AppS h_5 (some (Addr.mk b 0 none)) 0 0 80 24 3 #[(.int .i64 0), (.int .i64 0), (.int .i64 0)] ys N2 fun apA apN apC h_6 => Keeps (h_1).size U2 h_5 h_6 ∧ (Addr.block (Addr.add (Addr.mk (h).size 0 none) 3)) < (h_1).size ∧ ∃ (A3 : Option Addr), ∃ (N3 : Nat), ∃ (C3 : Nat), cellH h_6 (Addr.add (Addr.mk (h).size 0 none) 3) = some (.slice A3 N3 C3) ∧ ∀ (U3 : Nat → Prop) (h_7 : Heap), GrowH U2 h_6 U3 h_7 → CallsH P 74 #[(.slice A3 N3 C3)] h_7 fun v1 h_8 =>
 ∃ (A4 : Option Addr), ∃ (N4 : Nat), ∃ (C4 : Nat), v1 = (.slice A4 N4 C4) ∧ Keeps (h_1).size U3 h_7 h_8 ∧ (Addr.block (Addr.add (Addr.mk (h).size 0 none) 4)) < (h_1).size ∧ ∃ (A5 : Option Addr), ∃ (N5 : Nat), ∃ (C5 : Nat), cellH h_8 (Addr.add (Addr.mk (h).size 0 none) 4) = some (.slice A5 N5 C5) ∧ ∀ (U4 : Nat → Prop) (h_9 : Heap), GrowH U3 h_8 U4 h_9 → CallsH P 74 #[(.slice A5 N5 C5)] h_9 fun v2 h_10 =>
 ∃ (A6 : Option Addr), ∃ (N6 : Nat), ∃ (C6 : Nat), v2 = (.slice A6 N6 C6) ∧ Keeps (h_1).size U4 h_9 h_10 ∧ (Addr.block (Addr.add (Addr.mk (h).size 0 none) 5)) < (h_1).size ∧ ∃ (A7 : Option Addr), ∃ (N7 : Nat), ∃ (C7 : Nat), cellH h_10 (Addr.add (Addr.mk (h).size 0 none) 5) = some (.slice A7 N7 C7) ∧ ∀ (U5 : Nat → Prop) (h_11 : Heap), GrowH U4 h_10 U5 h_11 → CallsH P 74 #[(.slice A7 N7 C7)] h_11 fun v3 h_12 =>
 ∃ (A8 : Option Addr), ∃ (N8 : Nat), ∃ (C8 : Nat), v3 = (.slice A8 N8 C8) ∧ Keeps (h_1).size U5 h_11 h_12 ∧ (Addr.block (Addr.add (Addr.mk (h).size 0 none) 6)) < (h_1).size ∧ ∃ (A9 : Option Addr), ∃ (N9 : Nat), ∃ (C9 : Nat), cellH h_12 (Addr.add (Addr.mk (h).size 0 none) 6) = some (.slice A9 N9 C9) ∧ ∀ (U6 : Nat → Prop) (h_13 : Heap), GrowH U5 h_12 U6 h_13 → CallsH P 85 #[(.slice A9 N9 C9)] h_13 fun v4 h_14 =>
 ∃ (A10 : Option Addr), ∃ (N10 : Nat), ∃ (C10 : Nat), v4 = (.slice A10 N10 C10) ∧ Keeps (h_1).size U6 h_13 h_14 ∧ (Addr.block (Addr.add (Addr.mk (h).size 0 none) 7)) < (h_1).size ∧ ∃ (A11 : Option Addr), ∃ (N11 : Nat), ∃ (C11 : Nat), cellH h_14 (Addr.add (Addr.mk (h).size 0 none) 7) = some (.slice A11 N11 C11) ∧ ∀ (U7 : Nat → Prop) (h_15 : Heap), GrowH U6 h_14 U7 h_15 → CallsH P 74 #[(.slice A11 N11 C11)] h_15 fun v5 h_16 =>
 ∃ (A12 : Option Addr), ∃ (N12 : Nat), ∃ (C12 : Nat), v5 = (.slice A12 N12 C12) ∧ Keeps (h_1).size U7 h_15 h_16 ∧ ∀ (U8 : Nat → Prop) (h_17 : Heap) (b1 : Nat), GrowH U7 h_16 U8 h_17 → U8 b1 → (h_17)[b1]? = some (Obj.cells #[] 82) → (Addr.block (Addr.add (Addr.mk (h).size 0 none) 8)) < (h_1).size ∧ ∃ (A13 : Option Addr), ∃ (N13 : Nat), ∃ (C13 : Nat), cellH h_17 (Addr.add (Addr.mk (h).size 0 none) 8) = some (.slice A13 N13 C13) ∧ ∀ (U9 : Nat → Prop) (h_18 : Heap), GrowH (minus U8 b1) h_17 U9 h_18 → ∃ ys1 : List Value, ReadL h_18 A13 ys1 ∧ ys1.length = N13 * 3 ∧ AppS h_18 (some (Addr.mk b1 0 none)) 0 0 82 24 3 #[(.int .i64 0), (.int .i64 0), (.int .i64 0)] ys1 N13 fun apA1 apN1 apC1 h_19 => Keeps (h_1).size U9 h_18 h_19 ∧ ∀ (U10 : Nat → Prop) (h_20 : Heap) (b2 : Nat), GrowH U9 h_19 U10 h_20 → U10 b2 → (h_20)[b2]? = some (Obj.cells #[] 103) → (Addr.block (Addr.add (Addr.mk (h).size 0 none) 9)) < (h_1).size ∧ ∃ (A14 : Option Addr), ∃ (N14 : Nat), ∃ (C14 : Nat), cellH h_20 (Addr.add (Addr.mk (h).size 0 none) 9) = some (.slice A14 N14 C14) ∧ ∀ (U11 : Nat → Prop) (h_21 : Heap), GrowH (minus U10 b2) h_20 U11 h_21 → ∃ ys2 : List Value, ReadL h_21 A14 ys2 ∧ ys2.length = N14 * 3 ∧ AppS h_21 (some (Addr.mk b2 0 none)) 0 0 103 32 3 #[(.int .u8 0), (.int .i64 0), (.string (ByteArray.mk #[]))] ys2 N14 fun apA2 apN2 apC2 h_22 => Keeps (h_1).size U11 h_21 h_22 ∧ ∀ (U12 : Nat → Prop) (h_23 : Heap) (b3 : Nat), GrowH U11 h_22 U12 h_23 → U12 b3 → (h_23)[b3]? = some (Obj.cells #[] 9) → (Addr.block (Addr.add (Addr.mk (h).size 0 none) 10)) < (h_1).size ∧ ∃ (A15 : Option Addr), ∃ (N15 : Nat), ∃ (C15 : Nat), cellH h_23 (Addr.add (Addr.mk (h).size 0 none) 10) = some (.slice A15 N15 C15) ∧ ∀ (U13 : Nat → Prop) (h_24 : Heap), GrowH (minus U12 b3) h_23 U13 h_24 → ∃ ys3 : List Value, ReadL h_24 A15 ys3 ∧ ys3.length = N15 * 1 ∧ AppS h_24 (some (Addr.mk b3 0 none)) 0 0 9 16 1 #[(.string (ByteArray.mk #[]))] ys3 N15 fun apA3 apN3 apC3 h_25 => Keeps (h_1).size U13 h_24 h_25 ∧ (Addr.block (Addr.add (Addr.mk (h).size 0 none) 0)) < (h_1).size ∧ ∃ (t : Int), cellH h_25 (Addr.add (Addr.mk (h).size 0 none) 0) = some (.int .i64 t) ∧ ∀ (U14 : Nat → Prop) (h_26 : Heap), GrowH U13 h_25 U14 h_26 → StoreH h_26 (Addr.mk (h_).size 0 none) [(.int .i64 t), (.slice A1 N1 C1), (.slice apA apN apC), (.slice A4 N4 C4), (.slice A6 N6 C6), (.slice A8 N8 C8), (.slice A10 N10 C10), (.slice A12 N12 C12), (.slice apA1 apN1 apC1), (.slice apA2 apN2 apC2), (.slice apA3 apN3 apC3)] fun h_27 => (h_26).size ≤ (h_27).size ∧ ∃ (t1 : Int), ∃ (A16 : Option Addr), ∃ (N16 : Nat), ∃ (C16 : Nat), ∃ (A17 : Option Addr), ∃ (N17 : Nat), ∃ (C17 : Nat), ∃ (A18 : Option Addr), ∃ (N18 : Nat), ∃ (C18 : Nat), ∃ (A19 : Option Addr), ∃ (N19 : Nat), ∃ (C19 : Nat), ∃ (A20 : Option Addr), ∃ (N20 : Nat), ∃ (C20 : Nat), ∃ (A21 : Option Addr), ∃ (N21 : Nat), ∃ (C21 : Nat), ∃ (A22 : Option Addr), ∃ (N22 : Nat), ∃ (C22 : Nat), ∃ (A23 : Option Addr), ∃ (N23 : Nat), ∃ (C23 : Nat), ∃ (A24 : Option Addr), ∃ (N24 : Nat), ∃ (C24 : Nat), ∃ (A25 : Option Addr), ∃ (N25 : Nat), ∃ (C25 : Nat), cellsH h_27 (Addr.mk (h_).size 0 none) 0 [(.int .i64 t1), (.slice A16 N16 C16), (.slice A17 N17 C17), (.slice A18 N18 C18), (.slice A19 N19 C19), (.slice A20 N20 C20), (.slice A21 N21 C21), (.slice A22 N22 C22), (.slice A23 N23 C23), (.slice A24 N24 C24), (.slice A25 N25 C25)] ∧ R (.agg #[(.int .i64 t1), (.slice A16 N16 C16), (.slice A17 N17 C17), (.slice A18 N18 C18), (.slice A19 N19 C19), (.slice A20 N20 C20), (.slice A21 N21 C21), (.slice A22 N22 C22), (.slice A23 N23 C23), (.slice A24 N24 C24), (.slice A25 N25 C25)]) h_27
theorem vc48 (P : Program) (c : Int) (cA : Option Addr) (cN : Nat) (cC : Nat) (cA1 : Option Addr) (cN1 : Nat) (cC1 : Nat) (cA2 : Option Addr) (cN2 : Nat) (cC2 : Nat) (cA3 : Option Addr) (cN3 : Nat) (cC3 : Nat) (cA4 : Option Addr) (cN4 : Nat) (cC4 : Nat) (cA5 : Option Addr) (cN5 : Nat) (cC5 : Nat) (cA6 : Option Addr) (cN6 : Nat) (cC6 : Nat) (cA7 : Option Addr) (cN7 : Nat) (cC7 : Nat) (cA8 : Option Addr) (cN8 : Nat) (cC8 : Nat) (cA9 : Option Addr) (cN9 : Nat) (cC9 : Nat) (R : Value → Heap → Prop) (h : Heap) : fnC P ret48 code48 [(.agg #[(.int .i64 c), (.slice cA cN cC), (.slice cA1 cN1 cC1), (.slice cA2 cN2 cC2), (.slice cA3 cN3 cC3), (.slice cA4 cN4 cC4), (.slice cA5 cN5 cC5), (.slice cA6 cN6 cC6), (.slice cA7 cN7 cC7), (.slice cA8 cN8 cC8), (.slice cA9 cN9 cC9)])] h R = VC48 P c cA cN cC cA1 cN1 cC1 cA2 cN2 cC2 cA3 cN3 cC3 cA4 cN4 cC4 cA5 cN5 cC5 cA6 cN6 cC6 cA7 cN7 cC7 cA8 cN8 cC8 cA9 cN9 cC9 R h := by kernel_rfl
theorem run48 (c : Int) (cA : Option Addr) (cN : Nat) (cC : Nat) (cA1 : Option Addr) (cN1 : Nat) (cC1 : Nat) (cA2 : Option Addr) (cN2 : Nat) (cC2 : Nat) (cA3 : Option Addr) (cN3 : Nat) (cC3 : Nat) (cA4 : Option Addr) (cN4 : Nat) (cC4 : Nat) (cA5 : Option Addr) (cN5 : Nat) (cC5 : Nat) (cA6 : Option Addr) (cN6 : Nat) (cC6 : Nat) (cA7 : Option Addr) (cN7 : Nat) (cC7 : Nat) (cA8 : Option Addr) (cN8 : Nat) (cC8 : Nat) (cA9 : Option Addr) (cN9 : Nat) (cC9 : Nat) (R : Value → Heap → Prop) (h : Heap) (hv : VC48 Try.prog c cA cN cC cA1 cN1 cC1 cA2 cN2 cC2 cA3 cN3 cC3 cA4 cN4 cC4 cA5 cN5 cC5 cA6 cN6 cC6 cA7 cN7 cC7 cA8 cN8 cC8 cA9 cN9 cC9 R h) : CallsH Try.prog 48 #[(.agg #[(.int .i64 c), (.slice cA cN cC), (.slice cA1 cN1 cC1), (.slice cA2 cN2 cC2), (.slice cA3 cN3 cC3), (.slice cA4 cN4 cC4), (.slice cA5 cN5 cC5), (.slice cA6 cN6 cC6), (.slice cA7 cN7 cC7), (.slice cA8 cN8 cC8), (.slice cA9 cN9 cC9)])] h R := calls_of_fnC (Checked.mixed Try.checked) Try.func48 comp48 (Nat.le_of_ble_eq_true rfl) (by rw [vc48]; exact hv)

/-! 64: trestle/fold.copied -/
def code64 : SCode := (.seq (.region .txt [⟨(some 1), .box 29 (.tmp 0), none⟩,
  ⟨(some 2), .mv (.const (.pointer none)), none⟩]) (.seq (.region .txt [⟨(some 4), .ldn [.int .i64, .slice, .slice, .slice, .slice, .slice, .slice, .slice, .slice, .slice, .slice] (.tmp 1), none⟩,
  ⟨(some 5), .call 105 [(.tmp 4)] (.val (.agg [.int .i64, .slice, .slice, .slice, .slice, .slice, .slice, .slice, .slice, .slice, .slice])), none⟩,
  ⟨(some 6), .mkAgg #[(.int .i64 0), (.slice none 0 0), (.slice none 0 0), (.slice none 0 0), (.slice none 0 0), (.slice none 0 0), (.slice none 0 0), (.slice none 0 0), (.slice none 0 0), (.slice none 0 0), (.slice none 0 0)] [(0, 11, (.tmp 5))], none⟩,
  ⟨(some 7), .box 99 (.tmp 6), none⟩,
  ⟨(some 3), .mv (.tmp 7), none⟩]) (.seq (.region .txt [⟨(some 8), .mv (.tmp 3), none⟩,
  ⟨(some 9), .fldA 4 (.tmp 1), none⟩,
  ⟨(some 10), .ld (.slice) (.tmp 9), none⟩,
  ⟨(some 11), .len (.tmp 10), none⟩,
  ⟨(some 12), .mkS 3 8 1 #[(.int .i64 0)] (.tmp 11) (.tmp 11), none⟩,
  ⟨(some 13), .nilck (.tmp 8), none⟩,
  ⟨(some 14), .fldA 0 (.tmp 13), none⟩,
  ⟨(some 15), .fldA 4 (.tmp 14), none⟩,
  ⟨none, .st 1 (.tmp 15) (.tmp 12), none⟩]) (.seq (.region .txt [⟨(some 16), .mv (.tmp 3), none⟩,
  ⟨(some 17), .nilck (.tmp 16), none⟩,
  ⟨(some 18), .fldA 0 (.tmp 17), none⟩,
  ⟨(some 19), .fldA 4 (.tmp 18), none⟩,
  ⟨(some 20), .ld (.slice) (.tmp 19), none⟩,
  ⟨(some 21), .fldA 4 (.tmp 1), none⟩,
  ⟨(some 22), .ld (.slice) (.tmp 21), none⟩,
  ⟨(some 23), .cpy 1 (.tmp 20) (.tmp 22), none⟩]) (.seq (.region .txt [⟨(some 24), .mv (.tmp 3), none⟩,
  ⟨(some 2), .mv (.tmp 24), none⟩]) .ret)))))
def loops64 : List (List (Nat × Shp)) := []
def ret64 : List RV := [.tmp 2]
theorem comp64 : compF Try.prog Try.f64 loops64 = some (25, ret64, code64) := by kernel_rfl
def VC64 (P : Program) (c : Int) (cA : Option Addr) (cN : Nat) (cC : Nat) (cA1 : Option Addr) (cN1 : Nat) (cC1 : Nat) (cA2 : Option Addr) (cN2 : Nat) (cC2 : Nat) (cA3 : Option Addr) (cN3 : Nat) (cC3 : Nat) (cA4 : Option Addr) (cN4 : Nat) (cC4 : Nat) (cA5 : Option Addr) (cN5 : Nat) (cC5 : Nat) (cA6 : Option Addr) (cN6 : Nat) (cC6 : Nat) (cA7 : Option Addr) (cN7 : Nat) (cC7 : Nat) (cA8 : Option Addr) (cN8 : Nat) (cC8 : Nat) (cA9 : Option Addr) (cN9 : Nat) (cC9 : Nat) (R : Value → Heap → Prop) (h : Heap) : Prop :=
 let h_ : Heap := (h).push (.cells (Value.cells (.agg #[(.int .i64 c), (.slice cA cN cC), (.slice cA1 cN1 cC1), (.slice cA2 cN2 cC2), (.slice cA3 cN3 cC3), (.slice cA4 cN4 cC4), (.slice cA5 cN5 cC5), (.slice cA6 cN6 cC6), (.slice cA7 cN7 cC7), (.slice cA8 cN8 cC8), (.slice cA9 cN9 cC9)])) 29); ∃ (t : Int), ∃ (A : Option Addr), ∃ (N : Nat), ∃ (C : Nat), ∃ (A1 : Option Addr), ∃ (N1 : Nat), ∃ (C1 : Nat), ∃ (A2 : Option Addr), ∃ (N2 : Nat), ∃ (C2 : Nat), ∃ (A3 : Option Addr), ∃ (N3 : Nat), ∃ (C3 : Nat), ∃ (A4 : Option Addr), ∃ (N4 : Nat), ∃ (C4 : Nat), ∃ (A5 : Option Addr), ∃ (N5 : Nat), ∃ (C5 : Nat), ∃ (A6 : Option Addr), ∃ (N6 : Nat), ∃ (C6 : Nat), ∃ (A7 : Option Addr), ∃ (N7 : Nat), ∃ (C7 : Nat), ∃ (A8 : Option Addr), ∃ (N8 : Nat), ∃ (C8 : Nat), ∃ (A9 : Option Addr), ∃ (N9 : Nat), ∃ (C9 : Nat), cellsH h_ (Addr.mk (h).size 0 none) 0 [(.int .i64 t), (.slice A N C), (.slice A1 N1 C1), (.slice A2 N2 C2), (.slice A3 N3 C3), (.slice A4 N4 C4), (.slice A5 N5 C5), (.slice A6 N6 C6), (.slice A7 N7 C7), (.slice A8 N8 C8), (.slice A9 N9 C9)] ∧ CallsH P 105 #[(.agg #[(.int .i64 t), (.slice A N C), (.slice A1 N1 C1), (.slice A2 N2 C2), (.slice A3 N3 C3), (.slice A4 N4 C4), (.slice A5 N5 C5), (.slice A6 N6 C6), (.slice A7 N7 C7), (.slice A8 N8 C8), (.slice A9 N9 C9)])] h_ fun v h_1 =>
 ∃ (t1 : Int), ∃ (A10 : Option Addr), ∃ (N10 : Nat), ∃ (C10 : Nat), ∃ (A11 : Option Addr), ∃ (N11 : Nat), ∃ (C11 : Nat), ∃ (A12 : Option Addr), ∃ (N12 : Nat), ∃ (C12 : Nat), ∃ (A13 : Option Addr), ∃ (N13 : Nat), ∃ (C13 : Nat), ∃ (A14 : Option Addr), ∃ (N14 : Nat), ∃ (C14 : Nat), ∃ (A15 : Option Addr), ∃ (N15 : Nat), ∃ (C15 : Nat), ∃ (A16 : Option Addr), ∃ (N16 : Nat), ∃ (C16 : Nat), ∃ (A17 : Option Addr), ∃ (N17 : Nat), ∃ (C17 : Nat), ∃ (A18 : Option Addr), ∃ (N18 : Nat), ∃ (C18 : Nat), ∃ (A19 : Option Addr), ∃ (N19 : Nat), ∃ (C19 : Nat), v = (.agg #[(.int .i64 t1), (.slice A10 N10 C10), (.slice A11 N11 C11), (.slice A12 N12 C12), (.slice A13 N13 C13), (.slice A14 N14 C14), (.slice A15 N15 C15), (.slice A16 N16 C16), (.slice A17 N17 C17), (.slice A18 N18 C18), (.slice A19 N19 C19)]) ∧ let h_2 : Heap := (h_1).push (.cells (Value.cells (.agg #[(.int .i64 t1), (.slice A10 N10 C10), (.slice A11 N11 C11), (.slice A12 N12 C12), (.slice A13 N13 C13), (.slice A14 N14 C14), (.slice A15 N15 C15), (.slice A16 N16 C16), (.slice A17 N17 C17), (.slice A18 N18 C18), (.slice A19 N19 C19)])) 99); ∃ (A20 : Option Addr), ∃ (N20 : Nat), ∃ (C20 : Nat), cellH h_2 (Addr.add (Addr.mk (h).size 0 none) 4) = some (.slice A20 N20 C20) ∧ 0 ≤ (((N20 : Nat) : Int) : Int) ∧ (((N20 : Nat) : Int) : Int) ≤ ((N20 : Nat) : Int) ∧ (8 : Int) * ((N20 : Nat) : Int) ≤ 281474976710656 ∧ let h_3 : Heap := (h_2).push (.cells (zeroRow #[(.int .i64 0)] (Int.toNat ((N20 : Nat) : Int) * 1)).toArray 3); StoreH h_3 (Addr.add (Addr.add (Addr.mk (h_1).size 0 none) 0) 4) [(.slice (some (Addr.mk (h_2).size 0 none)) (Int.toNat ((N20 : Nat) : Int)) (Int.toNat ((N20 : Nat) : Int)))] fun h_4 => ∃ (A21 : Option Addr), ∃ (N21 : Nat), ∃ (C21 : Nat), cellH h_4 (Addr.add (Addr.add (Addr.mk (h_1).size 0 none) 0) 4) = some (.slice A21 N21 C21) ∧ ∃ (A22 : Option Addr), ∃ (N22 : Nat), ∃ (C22 : Nat), cellH h_4 (Addr.add (Addr.mk (h).size 0 none) 4) = some (.slice A22 N22 C22) ∧ ∃ ys : List Value, ReadL h_4 A22 ys ∧ ys.length = (min N22 N21) * 1 ∧ CpyH h_4 A21 ys fun h_5 => R (.pointer (some (Addr.mk (h_1).size 0 none))) h_5
theorem vc64 (P : Program) (c : Int) (cA : Option Addr) (cN : Nat) (cC : Nat) (cA1 : Option Addr) (cN1 : Nat) (cC1 : Nat) (cA2 : Option Addr) (cN2 : Nat) (cC2 : Nat) (cA3 : Option Addr) (cN3 : Nat) (cC3 : Nat) (cA4 : Option Addr) (cN4 : Nat) (cC4 : Nat) (cA5 : Option Addr) (cN5 : Nat) (cC5 : Nat) (cA6 : Option Addr) (cN6 : Nat) (cC6 : Nat) (cA7 : Option Addr) (cN7 : Nat) (cC7 : Nat) (cA8 : Option Addr) (cN8 : Nat) (cC8 : Nat) (cA9 : Option Addr) (cN9 : Nat) (cC9 : Nat) (R : Value → Heap → Prop) (h : Heap) : fnC P ret64 code64 [(.agg #[(.int .i64 c), (.slice cA cN cC), (.slice cA1 cN1 cC1), (.slice cA2 cN2 cC2), (.slice cA3 cN3 cC3), (.slice cA4 cN4 cC4), (.slice cA5 cN5 cC5), (.slice cA6 cN6 cC6), (.slice cA7 cN7 cC7), (.slice cA8 cN8 cC8), (.slice cA9 cN9 cC9)])] h R = VC64 P c cA cN cC cA1 cN1 cC1 cA2 cN2 cC2 cA3 cN3 cC3 cA4 cN4 cC4 cA5 cN5 cC5 cA6 cN6 cC6 cA7 cN7 cC7 cA8 cN8 cC8 cA9 cN9 cC9 R h := by kernel_rfl
theorem run64 (c : Int) (cA : Option Addr) (cN : Nat) (cC : Nat) (cA1 : Option Addr) (cN1 : Nat) (cC1 : Nat) (cA2 : Option Addr) (cN2 : Nat) (cC2 : Nat) (cA3 : Option Addr) (cN3 : Nat) (cC3 : Nat) (cA4 : Option Addr) (cN4 : Nat) (cC4 : Nat) (cA5 : Option Addr) (cN5 : Nat) (cC5 : Nat) (cA6 : Option Addr) (cN6 : Nat) (cC6 : Nat) (cA7 : Option Addr) (cN7 : Nat) (cC7 : Nat) (cA8 : Option Addr) (cN8 : Nat) (cC8 : Nat) (cA9 : Option Addr) (cN9 : Nat) (cC9 : Nat) (R : Value → Heap → Prop) (h : Heap) (hv : VC64 Try.prog c cA cN cC cA1 cN1 cC1 cA2 cN2 cC2 cA3 cN3 cC3 cA4 cN4 cC4 cA5 cN5 cC5 cA6 cN6 cC6 cA7 cN7 cC7 cA8 cN8 cC8 cA9 cN9 cC9 R h) : CallsH Try.prog 64 #[(.agg #[(.int .i64 c), (.slice cA cN cC), (.slice cA1 cN1 cC1), (.slice cA2 cN2 cC2), (.slice cA3 cN3 cC3), (.slice cA4 cN4 cC4), (.slice cA5 cN5 cC5), (.slice cA6 cN6 cC6), (.slice cA7 cN7 cC7), (.slice cA8 cN8 cC8), (.slice cA9 cN9 cC9)])] h R := calls_of_fnC (Checked.mixed Try.checked) Try.func64 comp64 (Nat.le_of_ble_eq_true rfl) (by rw [vc64]; exact hv)

/-! 65: (*trestle/fold.folder).and -/
def code65 : SCode := (.seq (.region .txt [⟨(some 6), .mv (.const (.int .i64 0)), none⟩]) (.seq (.region .txt [⟨(some 7), .mv (.tmp 0), none⟩,
  ⟨(some 8), .nilck (.tmp 7), none⟩,
  ⟨(some 9), .fldA 0 (.tmp 8), none⟩,
  ⟨(some 10), .fldA 0 (.tmp 9), none⟩,
  ⟨(some 11), .ld (.int .i64) (.tmp 10), none⟩,
  ⟨(some 12), .arith .add .i64 (.tmp 11) (.const (.int .i64 1)), none⟩,
  ⟨(some 13), .nilck (.tmp 7), none⟩,
  ⟨(some 14), .fldA 0 (.tmp 13), none⟩,
  ⟨(some 15), .fldA 0 (.tmp 14), none⟩,
  ⟨none, .st 1 (.tmp 15) (.tmp 12), none⟩]) (.seq (.region .ext [⟨(some 16), .mv (.tmp 0), none⟩,
  ⟨(some 17), .mv (.tmp 0), none⟩,
  ⟨(some 18), .nilck (.tmp 17), none⟩,
  ⟨(some 19), .fldA 0 (.tmp 18), none⟩,
  ⟨(some 20), .fldA 8 (.tmp 19), none⟩,
  ⟨(some 21), .ld (.slice) (.tmp 20), none⟩,
  ⟨(some 22), .mv (.tmp 0), none⟩,
  ⟨(some 23), .nilck (.tmp 22), none⟩,
  ⟨(some 24), .fldA 0 (.tmp 23), none⟩,
  ⟨(some 25), .fldA 0 (.tmp 24), none⟩,
  ⟨(some 26), .ld (.int .i64) (.tmp 25), none⟩,
  ⟨(some 27), .arith .mul .i64 (.const (.int .i64 2)) (.tmp 26), none⟩,
  ⟨(some 28), .mv (.tmp 1), none⟩,
  ⟨(some 29), .mv (.tmp 2), none⟩,
  ⟨(some 30), .mnx true .i64 (.tmp 28) [(.tmp 29)], none⟩,
  ⟨(some 31), .mv (.tmp 1), none⟩,
  ⟨(some 32), .mv (.tmp 2), none⟩,
  ⟨(some 33), .mnx false .i64 (.tmp 31) [(.tmp 32)], none⟩,
  ⟨(some 34), .mkAgg #[(.int .i64 0), (.int .i64 0), (.int .i64 0)] [(0, 1, (.tmp 27)), (1, 1, (.tmp 30)), (2, 1, (.tmp 33))], none⟩,
  ⟨(some 35), .lit 82 1 #[(.int .i64 0), (.int .i64 0), (.int .i64 0)] [(0, 3, (.tmp 34))], none⟩,
  ⟨(some 36), .app 82 24 3 #[(.int .i64 0), (.int .i64 0), (.int .i64 0)] (.tmp 21) (.tmp 35), none⟩,
  ⟨(some 37), .nilck (.tmp 16), none⟩,
  ⟨(some 38), .fldA 0 (.tmp 37), none⟩,
  ⟨(some 39), .fldA 8 (.tmp 38), none⟩,
  ⟨none, .st 1 (.tmp 39) (.tmp 36), none⟩]) (.seq (.region .txt [⟨(some 40), .mv (.tmp 0), none⟩,
  ⟨(some 41), .nilck (.tmp 40), none⟩,
  ⟨(some 42), .fldA 0 (.tmp 41), none⟩,
  ⟨(some 43), .fldA 0 (.tmp 42), none⟩,
  ⟨(some 44), .ld (.int .i64) (.tmp 43), none⟩,
  ⟨(some 45), .arith .mul .i64 (.const (.int .i64 2)) (.tmp 44), none⟩,
  ⟨(some 6), .mv (.tmp 45), none⟩]) .ret))))
def loops65 : List (List (Nat × Shp)) := []
def ret65 : List RV := [.tmp 6]
theorem comp65 : compF Try.prog Try.f65 loops65 = some (46, ret65, code65) := by kernel_rfl
def VC65 (P : Program) (f : Option Addr) (x : Int) (y : Int) (R : Value → Heap → Prop) (h : Heap) : Prop :=
 AtP f fun ad => ∃ (t : Int), cellH h (Addr.add (Addr.add ad 0) 0) = some (.int .i64 t) ∧ AtP f fun ad1 => StoreH h (Addr.add (Addr.add ad1 0) 0) [(.int .i64 (IntKind.wrap .i64 (t + 1)))] fun h_ => AtP f fun ad2 => (Addr.block (Addr.add (Addr.add ad2 0) 8)) < (h_).size ∧ ∃ (A : Option Addr), ∃ (N : Nat), ∃ (C : Nat), cellH h_ (Addr.add (Addr.add ad2 0) 8) = some (.slice A N C) ∧ AtP f fun ad3 => (Addr.block (Addr.add (Addr.add ad3 0) 0)) < (h_).size ∧ ∃ (t1 : Int), cellH h_ (Addr.add (Addr.add ad3 0) 0) = some (.int .i64 t1) ∧ let h_1 : Heap := (h_).push (.cells #[(.int .i64 (IntKind.wrap .i64 (2 * t1))), (.int .i64 (max (x : Int) y)), (.int .i64 (min (x : Int) y))] 82); AgreeH (h_).size h_ h_1 ∧ ∃ ys : List Value, ReadL h_1 (some (Addr.mk (h_).size 0 none)) ys ∧ ys.length = 1 * 3 ∧ AppS h_1 A N C 82 24 3 #[(.int .i64 0), (.int .i64 0), (.int .i64 0)] ys 1 fun apA apN apC h_2 => AtP f fun ad4 => StoreH h_2 (Addr.add (Addr.add ad4 0) 8) [(.slice apA apN apC)] fun h_3 => AtP f fun ad5 => ∃ (t2 : Int), cellH h_3 (Addr.add (Addr.add ad5 0) 0) = some (.int .i64 t2) ∧ R (.int .i64 (IntKind.wrap .i64 (2 * t2))) h_3
theorem vc65 (P : Program) (f : Option Addr) (x : Int) (y : Int) (R : Value → Heap → Prop) (h : Heap) : fnC P ret65 code65 [(.pointer f), (.int .i64 x), (.int .i64 y)] h R = VC65 P f x y R h := by kernel_rfl
theorem run65 (f : Option Addr) (x : Int) (y : Int) (R : Value → Heap → Prop) (h : Heap) (hv : VC65 Try.prog f x y R h) : CallsH Try.prog 65 #[(.pointer f), (.int .i64 x), (.int .i64 y)] h R := calls_of_fnC (Checked.mixed Try.checked) Try.func65 comp65 (Nat.le_of_ble_eq_true rfl) (by rw [vc65]; exact hv)

/-! 66: slices.DeleteFunc[[]trestle/api.Symbol,trestle/api.Symbol] -/
def code66 : SCode := (.seq (.region .txt [⟨(some 4), .mv (.const (.slice none 0 0)), none⟩]) (.seq (.region .txt [⟨(some 8), .mv (.tmp 0), none⟩,
  ⟨(some 9), .mv (.tmp 1), none⟩,
  ⟨(some 10), .call 106 [(.tmp 8), (.tmp 9)] (.val (.one (.int .i64))), none⟩,
  ⟨(some 5), .mv (.tmp 10), none⟩]) (.seq (.seq (.region .txt [⟨(some 11), .mv (.tmp 5), none⟩,
  ⟨(some 12), .icmp .eql .i64 (.tmp 11) (.const (.int .i64 (-1))), none⟩]) (.cond (.tmp 12) (.seq (.region .txt [⟨(some 13), .mv (.tmp 0), none⟩,
  ⟨(some 4), .mv (.tmp 13), none⟩]) .ret) .skip)) (.seq (.seq (.region .txt [⟨(some 14), .mv (.tmp 5), none⟩,
  ⟨(some 15), .arith .add .i64 (.tmp 14) (.const (.int .i64 1)), none⟩,
  ⟨(some 6), .mv (.tmp 15), none⟩]) (.block 0 (.loop [(5, .int .i64), (6, .int .i64)] [16, 17, 18, 19, 22, 23, 24, 25, 7, 26, 27, 28, 29, 30, 31, 32, 33, 34, 35, 5, 20, 21, 6] (.seq (.seq (.region .txt [⟨(some 16), .mv (.tmp 6), none⟩,
  ⟨(some 17), .mv (.tmp 0), none⟩,
  ⟨(some 18), .len (.tmp 17), none⟩,
  ⟨(some 19), .icmp .lss .i64 (.tmp 16) (.tmp 18), none⟩]) (.cond (.tmp 19) .skip (.exit 0))) (.seq (.block 1 (.seq (.region .txt [⟨(some 22), .mv (.tmp 0), none⟩,
  ⟨(some 23), .mv (.tmp 6), none⟩,
  ⟨(some 24), .idxA 3 (.tmp 22) (.tmp 23), none⟩,
  ⟨(some 25), .ldn [.int .u8, .int .i64, .str] (.tmp 24), none⟩,
  ⟨(some 7), .alloc 103 (.agg #[(.int .u8 0), (.int .i64 0), (.string (ByteArray.mk #[]))]), none⟩,
  ⟨none, .st 3 (.tmp 7) (.tmp 25), none⟩]) (.seq (.region .txt [⟨(some 26), .mv (.tmp 1), none⟩,
  ⟨(some 27), .ldn [.int .u8, .int .i64, .str] (.tmp 7), none⟩,
  ⟨(some 28), .callv (.tmp 26) [(.tmp 27)] (.val (.one (.bool))), none⟩,
  ⟨(some 29), .not (.tmp 28), none⟩]) (.cond (.tmp 29) (.seq (.region .txt [⟨(some 30), .mv (.tmp 0), none⟩,
  ⟨(some 31), .mv (.tmp 5), none⟩,
  ⟨(some 32), .ldn [.int .u8, .int .i64, .str] (.tmp 7), none⟩,
  ⟨(some 33), .idxA 3 (.tmp 30) (.tmp 31), none⟩,
  ⟨none, .st 3 (.tmp 33) (.tmp 32), none⟩]) (.region .txt [⟨(some 34), .mv (.tmp 5), none⟩,
  ⟨(some 35), .arith .add .i64 (.tmp 34) (.const (.int .i64 1)), none⟩,
  ⟨(some 5), .mv (.tmp 35), none⟩])) .skip)))) (.region .txt [⟨(some 20), .mv (.tmp 6), none⟩,
  ⟨(some 21), .arith .add .i64 (.tmp 20) (.const (.int .i64 1)), none⟩,
  ⟨(some 6), .mv (.tmp 21), none⟩])))))) (.seq (.region .txt [⟨(some 36), .mv (.tmp 0), none⟩,
  ⟨(some 37), .mv (.tmp 5), none⟩,
  ⟨(some 38), .slc 3 (.tmp 36) (some (.tmp 37)) none, none⟩,
  ⟨none, .clr 3 #[(.int .u8 0), (.int .i64 0), (.string (ByteArray.mk #[]))] (.tmp 38), none⟩]) (.seq (.region .txt [⟨(some 39), .mv (.tmp 0), none⟩,
  ⟨(some 40), .mv (.tmp 5), none⟩,
  ⟨(some 41), .slc 3 (.tmp 39) none (some (.tmp 40)), none⟩,
  ⟨(some 4), .mv (.tmp 41), none⟩]) .ret))))))
def loops66 : List (List (Nat × Shp)) := [[(5, .int .i64), (6, .int .i64)]]
def ret66 : List RV := [.tmp 4]
theorem comp66 : compF Try.prog Try.f66 loops66 = some (42, ret66, code66) := by kernel_rfl
def J66_2  (P : Program) (sA : (Option Addr)) (sN : Nat) (del : Value) (i : Int) (j : Int) (next_ : (Int × Int → Heap → Prop)) (h_3 : Heap) : Prop :=
 0 ≤ (j : Int) ∧ (j : Int) < (sN : Nat) ∧ AtP sA fun ad => ∃ (t1 : Int), ∃ (t2 : Int), ∃ (t3 : ByteArray), cellsH h_3 (Addr.add ad (Int.toNat j * 3)) 0 [(.int .u8 t1), (.int .i64 t2), (.string t3)] ∧ let h_4 : Heap := (h_3).push (.cells #[(.int .u8 0), (.int .i64 0), (.string (ByteArray.mk #[]))] 103); StoreH h_4 (Addr.mk (h_3).size 0 none) [(.int .u8 t1), (.int .i64 t2), (.string t3)] fun h_5 => ∃ (t4 : Int), ∃ (t5 : Int), ∃ (t6 : ByteArray), cellsH h_5 (Addr.mk (h_3).size 0 none) 0 [(.int .u8 t4), (.int .i64 t5), (.string t6)] ∧ CallV P del [(.agg #[(.int .u8 t4), (.int .i64 t5), (.string t6)])] h_5 fun v1 h_6 =>
 ∃ (t7 : Bool), v1 = (.bool t7) ∧ BIf (!t7) (∃ (t8 : Int), ∃ (t9 : Int), ∃ (t10 : ByteArray), cellsH h_6 (Addr.mk (h_3).size 0 none) 0 [(.int .u8 t8), (.int .i64 t9), (.string t10)] ∧ 0 ≤ (i : Int) ∧ (i : Int) < (sN : Nat) ∧ AtP sA fun ad1 => StoreH h_6 (Addr.add ad1 (Int.toNat i * 3)) [(.int .u8 t8), (.int .i64 t9), (.string t10)] fun h_7 => next_ ((IntKind.wrap .i64 (i + 1)), (IntKind.wrap .i64 (j + 1))) h_7) (next_ (i, (IntKind.wrap .i64 (j + 1))) h_6)
def J66_1  (R : Value → Heap → Prop) (sA : (Option Addr)) (sN : Nat) (sC : Nat) (i1 : Int) (h_8 : Heap) : Prop :=
 0 ≤ (i1 : Int) ∧ (i1 : Int) ≤ ((sN : Nat) : Int) ∧ (((sN : Nat) : Int) : Int) ≤ (sC : Nat) ∧ CpyH h_8 (cutA 3 sA sC (Int.toNat i1)) (zeroRow #[(.int .u8 0), (.int .i64 0), (.string (ByteArray.mk #[]))] ((Int.toNat ((sN : Nat) : Int) - Int.toNat i1) * 3)) fun h_9 => 0 ≤ (0 : Int) ∧ (0 : Int) ≤ i1 ∧ (i1 : Int) ≤ (sC : Nat) ∧ R (.slice (cutA 3 sA sC (Int.toNat 0)) (Int.toNat i1 - Int.toNat 0) (sC - Int.toNat 0)) h_9
def B66_3 (P : Program) (R : Value → Heap → Prop) (sA : (Option Addr)) (sN : Nat) (sC : Nat) (del : Value) (i : Int) (j : Int) (h_2 : Heap) (next_ : Int × Int → Heap → Prop) : Prop :=
 PIf ((j : Int) < ((sN : Nat) : Int))
 (J66_2 P sA sN del i j next_ h_2)
 (J66_1 R sA sN sC (i) h_2)
def J66_0  (P : Program) (R : Value → Heap → Prop) (sA : (Option Addr)) (sN : Nat) (sC : Nat) (del : Value) (t : Int) (h_1 : Heap) : Prop :=
 LoopT (σ := Int × Int) (fun st_ h_st nx_st => B66_3 P R sA sN sC del (st_.1) (st_.2) h_st nx_st) (t, (IntKind.wrap .i64 (t + 1))) h_1
def VC66 (P : Program) (sA : Option Addr) (sN : Nat) (sC : Nat) (del : Value) (R : Value → Heap → Prop) (h : Heap) : Prop :=
 CallsH P 106 #[(.slice sA sN sC), del] h fun v h_ =>
 ∃ (t : Int), v = (.int .i64 t) ∧ PIf ((t : Int) = (-1))
 (R (.slice sA sN sC) h_)
 (J66_0 P R sA sN sC del t h_)
theorem vc66 (P : Program) (sA : Option Addr) (sN : Nat) (sC : Nat) (del : Value) (R : Value → Heap → Prop) (h : Heap) : fnC P ret66 code66 [(.slice sA sN sC), del] h R = VC66 P sA sN sC del R h := by kernel_rfl
theorem run66 (sA : Option Addr) (sN : Nat) (sC : Nat) (del : Value) (R : Value → Heap → Prop) (h : Heap) (hv : VC66 Try.prog sA sN sC del R h) : CallsH Try.prog 66 #[(.slice sA sN sC), del] h R := calls_of_fnC (Checked.mixed Try.checked) Try.func66 comp66 (Nat.le_of_ble_eq_true rfl) (by rw [vc66]; exact hv)

/-! 67: trestle/fold.Fold$1 -/
def code67 : SCode := (.seq (.region .txt [⟨(some 1), .box 103 (.tmp 0), none⟩,
  ⟨(some 2), .mv (.const (.bool false)), none⟩]) (.seq (.region .txt [⟨(some 3), .fldA 0 (.tmp 1), none⟩,
  ⟨(some 4), .ld (.int .u8) (.tmp 3), none⟩,
  ⟨(some 5), .icmp .eql .u8 (.tmp 4) (.const (.int .u8 99)), none⟩,
  ⟨(some 2), .mv (.tmp 5), none⟩]) .ret))
def loops67 : List (List (Nat × Shp)) := []
def ret67 : List RV := [.tmp 2]
theorem comp67 : compF Try.prog Try.f67 loops67 = some (6, ret67, code67) := by kernel_rfl
def VC67 (P : Program) (s : Int) (s1 : Int) (s2 : ByteArray) (R : Value → Heap → Prop) (h : Heap) : Prop :=
 let h_ : Heap := (h).push (.cells (Value.cells (.agg #[(.int .u8 s), (.int .i64 s1), (.string s2)])) 103); ∃ (t : Int), cellH h_ (Addr.add (Addr.mk (h).size 0 none) 0) = some (.int .u8 t) ∧ PIf ((t : Int) = 99)
 (R (.bool true) h_)
 (R (.bool false) h_)
theorem vc67 (P : Program) (s : Int) (s1 : Int) (s2 : ByteArray) (R : Value → Heap → Prop) (h : Heap) : fnC P ret67 code67 [(.agg #[(.int .u8 s), (.int .i64 s1), (.string s2)])] h R = VC67 P s s1 s2 R h := by kernel_rfl
theorem run67 (s : Int) (s1 : Int) (s2 : ByteArray) (R : Value → Heap → Prop) (h : Heap) (hv : VC67 Try.prog s s1 s2 R h) : CallsH Try.prog 67 #[(.agg #[(.int .u8 s), (.int .i64 s1), (.string s2)])] h R := calls_of_fnC (Checked.mixed Try.checked) Try.func67 comp67 (Nat.le_of_ble_eq_true rfl) (by rw [vc67]; exact hv)

/-! 68: trestle/trestleref25.Gate -/
def code68 : SCode := (.seq (.region .txt [⟨(some 6), .mv (.const (.int .i64 0)), none⟩]) (.seq (.region .txt [⟨(some 7), .mv (.tmp 0), none⟩,
  ⟨(some 8), .nilck (.tmp 7), none⟩,
  ⟨(some 9), .fldA 0 (.tmp 8), none⟩,
  ⟨(some 10), .ld (.int .i64) (.tmp 9), none⟩,
  ⟨(some 11), .arith .add .i64 (.tmp 10) (.const (.int .i64 1)), none⟩,
  ⟨(some 12), .nilck (.tmp 7), none⟩,
  ⟨(some 13), .fldA 0 (.tmp 12), none⟩,
  ⟨none, .st 1 (.tmp 13) (.tmp 11), none⟩]) (.seq (.region .ext [⟨(some 14), .mv (.tmp 0), none⟩,
  ⟨(some 15), .mv (.tmp 0), none⟩,
  ⟨(some 16), .nilck (.tmp 15), none⟩,
  ⟨(some 17), .fldA 8 (.tmp 16), none⟩,
  ⟨(some 18), .ld (.slice) (.tmp 17), none⟩,
  ⟨(some 19), .mv (.tmp 0), none⟩,
  ⟨(some 20), .nilck (.tmp 19), none⟩,
  ⟨(some 21), .fldA 0 (.tmp 20), none⟩,
  ⟨(some 22), .ld (.int .i64) (.tmp 21), none⟩,
  ⟨(some 23), .arith .mul .i64 (.const (.int .i64 2)) (.tmp 22), none⟩,
  ⟨(some 24), .mv (.tmp 1), none⟩,
  ⟨(some 25), .mv (.tmp 2), none⟩,
  ⟨(some 26), .mnx true .i64 (.tmp 24) [(.tmp 25)], none⟩,
  ⟨(some 27), .mv (.tmp 1), none⟩,
  ⟨(some 28), .mv (.tmp 2), none⟩,
  ⟨(some 29), .mnx false .i64 (.tmp 27) [(.tmp 28)], none⟩,
  ⟨(some 30), .mkAgg #[(.int .i64 0), (.int .i64 0), (.int .i64 0)] [(0, 1, (.tmp 23)), (1, 1, (.tmp 26)), (2, 1, (.tmp 29))], none⟩,
  ⟨(some 31), .lit 82 1 #[(.int .i64 0), (.int .i64 0), (.int .i64 0)] [(0, 3, (.tmp 30))], none⟩,
  ⟨(some 32), .app 82 24 3 #[(.int .i64 0), (.int .i64 0), (.int .i64 0)] (.tmp 18) (.tmp 31), none⟩,
  ⟨(some 33), .nilck (.tmp 14), none⟩,
  ⟨(some 34), .fldA 8 (.tmp 33), none⟩,
  ⟨none, .st 1 (.tmp 34) (.tmp 32), none⟩]) (.seq (.region .txt [⟨(some 35), .mv (.tmp 0), none⟩,
  ⟨(some 36), .nilck (.tmp 35), none⟩,
  ⟨(some 37), .fldA 0 (.tmp 36), none⟩,
  ⟨(some 38), .ld (.int .i64) (.tmp 37), none⟩,
  ⟨(some 39), .arith .mul .i64 (.const (.int .i64 2)) (.tmp 38), none⟩,
  ⟨(some 6), .mv (.tmp 39), none⟩]) .ret))))
def loops68 : List (List (Nat × Shp)) := []
def ret68 : List RV := [.tmp 6]
theorem comp68 : compF Try.prog Try.f68 loops68 = some (40, ret68, code68) := by kernel_rfl
def VC68 (P : Program) (c : Option Addr) (x : Int) (y : Int) (R : Value → Heap → Prop) (h : Heap) : Prop :=
 AtP c fun ad => ∃ (t : Int), cellH h (Addr.add ad 0) = some (.int .i64 t) ∧ AtP c fun ad1 => StoreH h (Addr.add ad1 0) [(.int .i64 (IntKind.wrap .i64 (t + 1)))] fun h_ => AtP c fun ad2 => (Addr.block (Addr.add ad2 8)) < (h_).size ∧ ∃ (A : Option Addr), ∃ (N : Nat), ∃ (C : Nat), cellH h_ (Addr.add ad2 8) = some (.slice A N C) ∧ AtP c fun ad3 => (Addr.block (Addr.add ad3 0)) < (h_).size ∧ ∃ (t1 : Int), cellH h_ (Addr.add ad3 0) = some (.int .i64 t1) ∧ let h_1 : Heap := (h_).push (.cells #[(.int .i64 (IntKind.wrap .i64 (2 * t1))), (.int .i64 (max (x : Int) y)), (.int .i64 (min (x : Int) y))] 82); AgreeH (h_).size h_ h_1 ∧ ∃ ys : List Value, ReadL h_1 (some (Addr.mk (h_).size 0 none)) ys ∧ ys.length = 1 * 3 ∧ AppS h_1 A N C 82 24 3 #[(.int .i64 0), (.int .i64 0), (.int .i64 0)] ys 1 fun apA apN apC h_2 => AtP c fun ad4 => StoreH h_2 (Addr.add ad4 8) [(.slice apA apN apC)] fun h_3 => AtP c fun ad5 => ∃ (t2 : Int), cellH h_3 (Addr.add ad5 0) = some (.int .i64 t2) ∧ R (.int .i64 (IntKind.wrap .i64 (2 * t2))) h_3
theorem vc68 (P : Program) (c : Option Addr) (x : Int) (y : Int) (R : Value → Heap → Prop) (h : Heap) : fnC P ret68 code68 [(.pointer c), (.int .i64 x), (.int .i64 y)] h R = VC68 P c x y R h := by kernel_rfl
theorem run68 (c : Option Addr) (x : Int) (y : Int) (R : Value → Heap → Prop) (h : Heap) (hv : VC68 Try.prog c x y R h) : CallsH Try.prog 68 #[(.pointer c), (.int .i64 x), (.int .i64 y)] h R := calls_of_fnC (Checked.mixed Try.checked) Try.func68 comp68 (Nat.le_of_ble_eq_true rfl) (by rw [vc68]; exact hv)

/-! 69: trestle/trestlebook.sameLatches -/
def code69 : SCode := (.seq (.region .txt [⟨(some 4), .mv (.const (.bool false)), none⟩]) (.seq (.seq (.region .txt [⟨(some 6), .mv (.tmp 0), none⟩,
  ⟨(some 7), .len (.tmp 6), none⟩,
  ⟨(some 8), .mv (.tmp 1), none⟩,
  ⟨(some 9), .len (.tmp 8), none⟩,
  ⟨(some 10), .icmp .neq .i64 (.tmp 7) (.tmp 9), none⟩]) (.cond (.tmp 10) (.seq (.region .txt [⟨(some 4), .mv (.const (.bool false)), none⟩]) .ret) .skip)) (.seq (.seq (.region .txt [⟨(some 5), .mv (.const (.int .i64 0)), none⟩]) (.block 0 (.loop [(5, .int .i64)] [11, 12, 13, 14, 17, 18, 19, 20, 21, 22, 23, 24, 25, 4, 15, 16, 5] (.seq (.seq (.region .txt [⟨(some 11), .mv (.tmp 5), none⟩,
  ⟨(some 12), .mv (.tmp 0), none⟩,
  ⟨(some 13), .len (.tmp 12), none⟩,
  ⟨(some 14), .icmp .lss .i64 (.tmp 11) (.tmp 13), none⟩]) (.cond (.tmp 14) .skip (.exit 0))) (.seq (.block 1 (.seq (.region .txt [⟨(some 17), .mv (.tmp 0), none⟩,
  ⟨(some 18), .mv (.tmp 5), none⟩,
  ⟨(some 19), .idxA 3 (.tmp 17) (.tmp 18), none⟩,
  ⟨(some 20), .ldn [.int .i64, .int .i64, .int .i64] (.tmp 19), none⟩,
  ⟨(some 21), .mv (.tmp 1), none⟩,
  ⟨(some 22), .mv (.tmp 5), none⟩,
  ⟨(some 23), .idxA 3 (.tmp 21) (.tmp 22), none⟩,
  ⟨(some 24), .ldn [.int .i64, .int .i64, .int .i64] (.tmp 23), none⟩,
  ⟨(some 25), .eqagg true [.int .i64, .int .i64, .int .i64] (.tmp 20) (.tmp 24), none⟩]) (.cond (.tmp 25) (.seq (.region .txt [⟨(some 4), .mv (.const (.bool false)), none⟩]) .ret) .skip))) (.region .txt [⟨(some 15), .mv (.tmp 5), none⟩,
  ⟨(some 16), .arith .add .i64 (.tmp 15) (.const (.int .i64 1)), none⟩,
  ⟨(some 5), .mv (.tmp 16), none⟩])))))) (.seq (.region .txt [⟨(some 4), .mv (.const (.bool true)), none⟩]) .ret))))
def loops69 : List (List (Nat × Shp)) := [[(5, .int .i64)]]
def ret69 : List RV := [.tmp 4]
theorem comp69 : compF Try.prog Try.f69 loops69 = some (26, ret69, code69) := by kernel_rfl
def J69_2  (R : Value → Heap → Prop) (aA : (Option Addr)) (aN : Nat) (bA : (Option Addr)) (bN : Nat) (i : Int) (next_ : (Int → Heap → Prop)) (h_2 : Heap) : Prop :=
 0 ≤ (i : Int) ∧ (i : Int) < (aN : Nat) ∧ AtP aA fun ad => ∃ (t : Int), ∃ (t1 : Int), ∃ (t2 : Int), cellsH h_2 (Addr.add ad (Int.toNat i * 3)) 0 [(.int .i64 t), (.int .i64 t1), (.int .i64 t2)] ∧ 0 ≤ (i : Int) ∧ (i : Int) < (bN : Nat) ∧ AtP bA fun ad1 => ∃ (t3 : Int), ∃ (t4 : Int), ∃ (t5 : Int), cellsH h_2 (Addr.add ad1 (Int.toNat i * 3)) 0 [(.int .i64 t3), (.int .i64 t4), (.int .i64 t5)] ∧ PIf ((#[(.int .i64 t), (.int .i64 t1), (.int .i64 t2)] : Array Value) = #[(.int .i64 t3), (.int .i64 t4), (.int .i64 t5)])
 (next_ ((IntKind.wrap .i64 (i + 1))) h_2)
 (R (.bool false) h_2)
def J69_1  (R : Value → Heap → Prop) (h_3 : Heap) : Prop :=
 R (.bool true) h_3
def B69_3 (R : Value → Heap → Prop) (aA : (Option Addr)) (aN : Nat) (bA : (Option Addr)) (bN : Nat) (i : Int) (h_1 : Heap) (next_ : Int → Heap → Prop) : Prop :=
 PIf ((i : Int) < ((aN : Nat) : Int))
 (J69_2 R aA aN bA bN i next_ h_1)
 (J69_1 R h_1)
def J69_0  (R : Value → Heap → Prop) (aA : (Option Addr)) (aN : Nat) (bA : (Option Addr)) (bN : Nat) (h_ : Heap) : Prop :=
 LoopT (σ := Int) (fun st_ h_st nx_st => B69_3 R aA aN bA bN (st_) h_st nx_st) (0) h_
def VC69 (P : Program) (aA : Option Addr) (aN : Nat) (aC : Nat) (bA : Option Addr) (bN : Nat) (bC : Nat) (R : Value → Heap → Prop) (h : Heap) : Prop :=
 PIf ((((aN : Nat) : Int) : Int) = ((bN : Nat) : Int))
 (J69_0 R aA aN bA bN h)
 (R (.bool false) h)
theorem vc69 (P : Program) (aA : Option Addr) (aN : Nat) (aC : Nat) (bA : Option Addr) (bN : Nat) (bC : Nat) (R : Value → Heap → Prop) (h : Heap) : fnC P ret69 code69 [(.slice aA aN aC), (.slice bA bN bC)] h R = VC69 P aA aN aC bA bN bC R h := by kernel_rfl
theorem run69 (aA : Option Addr) (aN : Nat) (aC : Nat) (bA : Option Addr) (bN : Nat) (bC : Nat) (R : Value → Heap → Prop) (h : Heap) (hv : VC69 Try.prog aA aN aC bA bN bC R h) : CallsH Try.prog 69 #[(.slice aA aN aC), (.slice bA bN bC)] h R := calls_of_fnC (Checked.mixed Try.checked) Try.func69 comp69 (Nat.le_of_ble_eq_true rfl) (by rw [vc69]; exact hv)

/-! 70: trestle/trestlebook.SameLists -/
def code70 : SCode := (.seq (.region .txt [⟨(some 4), .mv (.const (.bool false)), none⟩]) (.seq (.seq (.region .txt [⟨(some 6), .mv (.tmp 0), none⟩,
  ⟨(some 7), .len (.tmp 6), none⟩,
  ⟨(some 8), .mv (.tmp 1), none⟩,
  ⟨(some 9), .len (.tmp 8), none⟩,
  ⟨(some 10), .icmp .neq .i64 (.tmp 7) (.tmp 9), none⟩]) (.cond (.tmp 10) (.seq (.region .txt [⟨(some 4), .mv (.const (.bool false)), none⟩]) .ret) .skip)) (.seq (.seq (.region .txt [⟨(some 5), .mv (.const (.int .i64 0)), none⟩]) (.block 0 (.loop [(5, .int .i64)] [11, 12, 13, 14, 17, 18, 19, 20, 21, 22, 23, 24, 25, 26, 4, 15, 16, 5] (.seq (.seq (.region .txt [⟨(some 11), .mv (.tmp 5), none⟩,
  ⟨(some 12), .mv (.tmp 0), none⟩,
  ⟨(some 13), .len (.tmp 12), none⟩,
  ⟨(some 14), .icmp .lss .i64 (.tmp 11) (.tmp 13), none⟩]) (.cond (.tmp 14) .skip (.exit 0))) (.seq (.block 1 (.seq (.region .txt [⟨(some 17), .mv (.tmp 0), none⟩,
  ⟨(some 18), .mv (.tmp 5), none⟩,
  ⟨(some 19), .idxA 1 (.tmp 17) (.tmp 18), none⟩,
  ⟨(some 20), .ld (.slice) (.tmp 19), none⟩,
  ⟨(some 21), .mv (.tmp 1), none⟩,
  ⟨(some 22), .mv (.tmp 5), none⟩,
  ⟨(some 23), .idxA 1 (.tmp 21) (.tmp 22), none⟩,
  ⟨(some 24), .ld (.slice) (.tmp 23), none⟩,
  ⟨(some 25), .call 41 [(.tmp 20), (.tmp 24)] (.val (.one (.bool))), none⟩,
  ⟨(some 26), .not (.tmp 25), none⟩]) (.cond (.tmp 26) (.seq (.region .txt [⟨(some 4), .mv (.const (.bool false)), none⟩]) .ret) .skip))) (.region .txt [⟨(some 15), .mv (.tmp 5), none⟩,
  ⟨(some 16), .arith .add .i64 (.tmp 15) (.const (.int .i64 1)), none⟩,
  ⟨(some 5), .mv (.tmp 16), none⟩])))))) (.seq (.region .txt [⟨(some 4), .mv (.const (.bool true)), none⟩]) .ret))))
def loops70 : List (List (Nat × Shp)) := [[(5, .int .i64)]]
def ret70 : List RV := [.tmp 4]
theorem comp70 : compF Try.prog Try.f70 loops70 = some (27, ret70, code70) := by kernel_rfl
def J70_2  (P : Program) (R : Value → Heap → Prop) (aA : (Option Addr)) (aN : Nat) (bA : (Option Addr)) (bN : Nat) (i : Int) (next_ : (Int → Heap → Prop)) (h_2 : Heap) : Prop :=
 0 ≤ (i : Int) ∧ (i : Int) < (aN : Nat) ∧ AtP aA fun ad => ∃ (A : Option Addr), ∃ (N : Nat), ∃ (C : Nat), cellH h_2 (Addr.add ad (Int.toNat i * 1)) = some (.slice A N C) ∧ 0 ≤ (i : Int) ∧ (i : Int) < (bN : Nat) ∧ AtP bA fun ad1 => ∃ (A1 : Option Addr), ∃ (N1 : Nat), ∃ (C1 : Nat), cellH h_2 (Addr.add ad1 (Int.toNat i * 1)) = some (.slice A1 N1 C1) ∧ CallsH P 41 #[(.slice A N C), (.slice A1 N1 C1)] h_2 fun v h_3 =>
 ∃ (t : Bool), v = (.bool t) ∧ BIf (!t) (R (.bool false) h_3) (next_ ((IntKind.wrap .i64 (i + 1))) h_3)
def J70_1  (R : Value → Heap → Prop) (h_4 : Heap) : Prop :=
 R (.bool true) h_4
def B70_3 (P : Program) (R : Value → Heap → Prop) (aA : (Option Addr)) (aN : Nat) (bA : (Option Addr)) (bN : Nat) (i : Int) (h_1 : Heap) (next_ : Int → Heap → Prop) : Prop :=
 PIf ((i : Int) < ((aN : Nat) : Int))
 (J70_2 P R aA aN bA bN i next_ h_1)
 (J70_1 R h_1)
def J70_0  (P : Program) (R : Value → Heap → Prop) (aA : (Option Addr)) (aN : Nat) (bA : (Option Addr)) (bN : Nat) (h_ : Heap) : Prop :=
 LoopT (σ := Int) (fun st_ h_st nx_st => B70_3 P R aA aN bA bN (st_) h_st nx_st) (0) h_
def VC70 (P : Program) (aA : Option Addr) (aN : Nat) (aC : Nat) (bA : Option Addr) (bN : Nat) (bC : Nat) (R : Value → Heap → Prop) (h : Heap) : Prop :=
 PIf ((((aN : Nat) : Int) : Int) = ((bN : Nat) : Int))
 (J70_0 P R aA aN bA bN h)
 (R (.bool false) h)
theorem vc70 (P : Program) (aA : Option Addr) (aN : Nat) (aC : Nat) (bA : Option Addr) (bN : Nat) (bC : Nat) (R : Value → Heap → Prop) (h : Heap) : fnC P ret70 code70 [(.slice aA aN aC), (.slice bA bN bC)] h R = VC70 P aA aN aC bA bN bC R h := by kernel_rfl
theorem run70 (aA : Option Addr) (aN : Nat) (aC : Nat) (bA : Option Addr) (bN : Nat) (bC : Nat) (R : Value → Heap → Prop) (h : Heap) (hv : VC70 Try.prog aA aN aC bA bN bC R h) : CallsH Try.prog 70 #[(.slice aA aN aC), (.slice bA bN bC)] h R := calls_of_fnC (Checked.mixed Try.checked) Try.func70 comp70 (Nat.le_of_ble_eq_true rfl) (by rw [vc70]; exact hv)

/-! 71: trestle/trestlebook.sameAnds -/
def code71 : SCode := (.seq (.region .txt [⟨(some 4), .mv (.const (.bool false)), none⟩]) (.seq (.seq (.region .txt [⟨(some 6), .mv (.tmp 0), none⟩,
  ⟨(some 7), .len (.tmp 6), none⟩,
  ⟨(some 8), .mv (.tmp 1), none⟩,
  ⟨(some 9), .len (.tmp 8), none⟩,
  ⟨(some 10), .icmp .neq .i64 (.tmp 7) (.tmp 9), none⟩]) (.cond (.tmp 10) (.seq (.region .txt [⟨(some 4), .mv (.const (.bool false)), none⟩]) .ret) .skip)) (.seq (.seq (.region .txt [⟨(some 5), .mv (.const (.int .i64 0)), none⟩]) (.block 0 (.loop [(5, .int .i64)] [11, 12, 13, 14, 17, 18, 19, 20, 21, 22, 23, 24, 25, 4, 15, 16, 5] (.seq (.seq (.region .txt [⟨(some 11), .mv (.tmp 5), none⟩,
  ⟨(some 12), .mv (.tmp 0), none⟩,
  ⟨(some 13), .len (.tmp 12), none⟩,
  ⟨(some 14), .icmp .lss .i64 (.tmp 11) (.tmp 13), none⟩]) (.cond (.tmp 14) .skip (.exit 0))) (.seq (.block 1 (.seq (.region .txt [⟨(some 17), .mv (.tmp 0), none⟩,
  ⟨(some 18), .mv (.tmp 5), none⟩,
  ⟨(some 19), .idxA 3 (.tmp 17) (.tmp 18), none⟩,
  ⟨(some 20), .ldn [.int .i64, .int .i64, .int .i64] (.tmp 19), none⟩,
  ⟨(some 21), .mv (.tmp 1), none⟩,
  ⟨(some 22), .mv (.tmp 5), none⟩,
  ⟨(some 23), .idxA 3 (.tmp 21) (.tmp 22), none⟩,
  ⟨(some 24), .ldn [.int .i64, .int .i64, .int .i64] (.tmp 23), none⟩,
  ⟨(some 25), .eqagg true [.int .i64, .int .i64, .int .i64] (.tmp 20) (.tmp 24), none⟩]) (.cond (.tmp 25) (.seq (.region .txt [⟨(some 4), .mv (.const (.bool false)), none⟩]) .ret) .skip))) (.region .txt [⟨(some 15), .mv (.tmp 5), none⟩,
  ⟨(some 16), .arith .add .i64 (.tmp 15) (.const (.int .i64 1)), none⟩,
  ⟨(some 5), .mv (.tmp 16), none⟩])))))) (.seq (.region .txt [⟨(some 4), .mv (.const (.bool true)), none⟩]) .ret))))
def loops71 : List (List (Nat × Shp)) := [[(5, .int .i64)]]
def ret71 : List RV := [.tmp 4]
theorem comp71 : compF Try.prog Try.f71 loops71 = some (26, ret71, code71) := by kernel_rfl
def J71_2  (R : Value → Heap → Prop) (aA : (Option Addr)) (aN : Nat) (bA : (Option Addr)) (bN : Nat) (i : Int) (next_ : (Int → Heap → Prop)) (h_2 : Heap) : Prop :=
 0 ≤ (i : Int) ∧ (i : Int) < (aN : Nat) ∧ AtP aA fun ad => ∃ (t : Int), ∃ (t1 : Int), ∃ (t2 : Int), cellsH h_2 (Addr.add ad (Int.toNat i * 3)) 0 [(.int .i64 t), (.int .i64 t1), (.int .i64 t2)] ∧ 0 ≤ (i : Int) ∧ (i : Int) < (bN : Nat) ∧ AtP bA fun ad1 => ∃ (t3 : Int), ∃ (t4 : Int), ∃ (t5 : Int), cellsH h_2 (Addr.add ad1 (Int.toNat i * 3)) 0 [(.int .i64 t3), (.int .i64 t4), (.int .i64 t5)] ∧ PIf ((#[(.int .i64 t), (.int .i64 t1), (.int .i64 t2)] : Array Value) = #[(.int .i64 t3), (.int .i64 t4), (.int .i64 t5)])
 (next_ ((IntKind.wrap .i64 (i + 1))) h_2)
 (R (.bool false) h_2)
def J71_1  (R : Value → Heap → Prop) (h_3 : Heap) : Prop :=
 R (.bool true) h_3
def B71_3 (R : Value → Heap → Prop) (aA : (Option Addr)) (aN : Nat) (bA : (Option Addr)) (bN : Nat) (i : Int) (h_1 : Heap) (next_ : Int → Heap → Prop) : Prop :=
 PIf ((i : Int) < ((aN : Nat) : Int))
 (J71_2 R aA aN bA bN i next_ h_1)
 (J71_1 R h_1)
def J71_0  (R : Value → Heap → Prop) (aA : (Option Addr)) (aN : Nat) (bA : (Option Addr)) (bN : Nat) (h_ : Heap) : Prop :=
 LoopT (σ := Int) (fun st_ h_st nx_st => B71_3 R aA aN bA bN (st_) h_st nx_st) (0) h_
def VC71 (P : Program) (aA : Option Addr) (aN : Nat) (aC : Nat) (bA : Option Addr) (bN : Nat) (bC : Nat) (R : Value → Heap → Prop) (h : Heap) : Prop :=
 PIf ((((aN : Nat) : Int) : Int) = ((bN : Nat) : Int))
 (J71_0 R aA aN bA bN h)
 (R (.bool false) h)
theorem vc71 (P : Program) (aA : Option Addr) (aN : Nat) (aC : Nat) (bA : Option Addr) (bN : Nat) (bC : Nat) (R : Value → Heap → Prop) (h : Heap) : fnC P ret71 code71 [(.slice aA aN aC), (.slice bA bN bC)] h R = VC71 P aA aN aC bA bN bC R h := by kernel_rfl
theorem run71 (aA : Option Addr) (aN : Nat) (aC : Nat) (bA : Option Addr) (bN : Nat) (bC : Nat) (R : Value → Heap → Prop) (h : Heap) (hv : VC71 Try.prog aA aN aC bA bN bC R h) : CallsH Try.prog 71 #[(.slice aA aN aC), (.slice bA bN bC)] h R := calls_of_fnC (Checked.mixed Try.checked) Try.func71 comp71 (Nat.le_of_ble_eq_true rfl) (by rw [vc71]; exact hv)

/-! 72: trestle/trestlebook.sameSymbols -/
def code72 : SCode := (.seq (.region .txt [⟨(some 4), .mv (.const (.bool false)), none⟩]) (.seq (.seq (.region .txt [⟨(some 6), .mv (.tmp 0), none⟩,
  ⟨(some 7), .len (.tmp 6), none⟩,
  ⟨(some 8), .mv (.tmp 1), none⟩,
  ⟨(some 9), .len (.tmp 8), none⟩,
  ⟨(some 10), .icmp .neq .i64 (.tmp 7) (.tmp 9), none⟩]) (.cond (.tmp 10) (.seq (.region .txt [⟨(some 4), .mv (.const (.bool false)), none⟩]) .ret) .skip)) (.seq (.seq (.region .txt [⟨(some 5), .mv (.const (.int .i64 0)), none⟩]) (.block 0 (.loop [(5, .int .i64)] [11, 12, 13, 14, 17, 18, 19, 20, 21, 22, 23, 24, 25, 4, 15, 16, 5] (.seq (.seq (.region .txt [⟨(some 11), .mv (.tmp 5), none⟩,
  ⟨(some 12), .mv (.tmp 0), none⟩,
  ⟨(some 13), .len (.tmp 12), none⟩,
  ⟨(some 14), .icmp .lss .i64 (.tmp 11) (.tmp 13), none⟩]) (.cond (.tmp 14) .skip (.exit 0))) (.seq (.block 1 (.seq (.region .txt [⟨(some 17), .mv (.tmp 0), none⟩,
  ⟨(some 18), .mv (.tmp 5), none⟩,
  ⟨(some 19), .idxA 3 (.tmp 17) (.tmp 18), none⟩,
  ⟨(some 20), .ldn [.int .u8, .int .i64, .str] (.tmp 19), none⟩,
  ⟨(some 21), .mv (.tmp 1), none⟩,
  ⟨(some 22), .mv (.tmp 5), none⟩,
  ⟨(some 23), .idxA 3 (.tmp 21) (.tmp 22), none⟩,
  ⟨(some 24), .ldn [.int .u8, .int .i64, .str] (.tmp 23), none⟩,
  ⟨(some 25), .eqagg true [.int .u8, .int .i64, .str] (.tmp 20) (.tmp 24), none⟩]) (.cond (.tmp 25) (.seq (.region .txt [⟨(some 4), .mv (.const (.bool false)), none⟩]) .ret) .skip))) (.region .txt [⟨(some 15), .mv (.tmp 5), none⟩,
  ⟨(some 16), .arith .add .i64 (.tmp 15) (.const (.int .i64 1)), none⟩,
  ⟨(some 5), .mv (.tmp 16), none⟩])))))) (.seq (.region .txt [⟨(some 4), .mv (.const (.bool true)), none⟩]) .ret))))
def loops72 : List (List (Nat × Shp)) := [[(5, .int .i64)]]
def ret72 : List RV := [.tmp 4]
theorem comp72 : compF Try.prog Try.f72 loops72 = some (26, ret72, code72) := by kernel_rfl
def J72_2  (R : Value → Heap → Prop) (aA : (Option Addr)) (aN : Nat) (bA : (Option Addr)) (bN : Nat) (i : Int) (next_ : (Int → Heap → Prop)) (h_2 : Heap) : Prop :=
 0 ≤ (i : Int) ∧ (i : Int) < (aN : Nat) ∧ AtP aA fun ad => ∃ (t : Int), ∃ (t1 : Int), ∃ (t2 : ByteArray), cellsH h_2 (Addr.add ad (Int.toNat i * 3)) 0 [(.int .u8 t), (.int .i64 t1), (.string t2)] ∧ 0 ≤ (i : Int) ∧ (i : Int) < (bN : Nat) ∧ AtP bA fun ad1 => ∃ (t3 : Int), ∃ (t4 : Int), ∃ (t5 : ByteArray), cellsH h_2 (Addr.add ad1 (Int.toNat i * 3)) 0 [(.int .u8 t3), (.int .i64 t4), (.string t5)] ∧ PIf ((#[(.int .u8 t), (.int .i64 t1), (.string t2)] : Array Value) = #[(.int .u8 t3), (.int .i64 t4), (.string t5)])
 (next_ ((IntKind.wrap .i64 (i + 1))) h_2)
 (R (.bool false) h_2)
def J72_1  (R : Value → Heap → Prop) (h_3 : Heap) : Prop :=
 R (.bool true) h_3
def B72_3 (R : Value → Heap → Prop) (aA : (Option Addr)) (aN : Nat) (bA : (Option Addr)) (bN : Nat) (i : Int) (h_1 : Heap) (next_ : Int → Heap → Prop) : Prop :=
 PIf ((i : Int) < ((aN : Nat) : Int))
 (J72_2 R aA aN bA bN i next_ h_1)
 (J72_1 R h_1)
def J72_0  (R : Value → Heap → Prop) (aA : (Option Addr)) (aN : Nat) (bA : (Option Addr)) (bN : Nat) (h_ : Heap) : Prop :=
 LoopT (σ := Int) (fun st_ h_st nx_st => B72_3 R aA aN bA bN (st_) h_st nx_st) (0) h_
def VC72 (P : Program) (aA : Option Addr) (aN : Nat) (aC : Nat) (bA : Option Addr) (bN : Nat) (bC : Nat) (R : Value → Heap → Prop) (h : Heap) : Prop :=
 PIf ((((aN : Nat) : Int) : Int) = ((bN : Nat) : Int))
 (J72_0 R aA aN bA bN h)
 (R (.bool false) h)
theorem vc72 (P : Program) (aA : Option Addr) (aN : Nat) (aC : Nat) (bA : Option Addr) (bN : Nat) (bC : Nat) (R : Value → Heap → Prop) (h : Heap) : fnC P ret72 code72 [(.slice aA aN aC), (.slice bA bN bC)] h R = VC72 P aA aN aC bA bN bC R h := by kernel_rfl
theorem run72 (aA : Option Addr) (aN : Nat) (aC : Nat) (bA : Option Addr) (bN : Nat) (bC : Nat) (R : Value → Heap → Prop) (h : Heap) (hv : VC72 Try.prog aA aN aC bA bN bC R h) : CallsH Try.prog 72 #[(.slice aA aN aC), (.slice bA bN bC)] h R := calls_of_fnC (Checked.mixed Try.checked) Try.func72 comp72 (Nat.le_of_ble_eq_true rfl) (by rw [vc72]; exact hv)

/-! 73: trestle/trestlebook.SameTexts -/
def code73 : SCode := (.seq (.region .txt [⟨(some 4), .mv (.const (.bool false)), none⟩]) (.seq (.seq (.region .txt [⟨(some 6), .mv (.tmp 0), none⟩,
  ⟨(some 7), .len (.tmp 6), none⟩,
  ⟨(some 8), .mv (.tmp 1), none⟩,
  ⟨(some 9), .len (.tmp 8), none⟩,
  ⟨(some 10), .icmp .neq .i64 (.tmp 7) (.tmp 9), none⟩]) (.cond (.tmp 10) (.seq (.region .txt [⟨(some 4), .mv (.const (.bool false)), none⟩]) .ret) .skip)) (.seq (.seq (.region .txt [⟨(some 5), .mv (.const (.int .i64 0)), none⟩]) (.block 0 (.loop [(5, .int .i64)] [11, 12, 13, 14, 17, 18, 19, 20, 21, 22, 23, 24, 25, 4, 15, 16, 5] (.seq (.seq (.region .txt [⟨(some 11), .mv (.tmp 5), none⟩,
  ⟨(some 12), .mv (.tmp 0), none⟩,
  ⟨(some 13), .len (.tmp 12), none⟩,
  ⟨(some 14), .icmp .lss .i64 (.tmp 11) (.tmp 13), none⟩]) (.cond (.tmp 14) .skip (.exit 0))) (.seq (.block 1 (.seq (.region .txt [⟨(some 17), .mv (.tmp 0), none⟩,
  ⟨(some 18), .mv (.tmp 5), none⟩,
  ⟨(some 19), .idxA 1 (.tmp 17) (.tmp 18), none⟩,
  ⟨(some 20), .ld (.str) (.tmp 19), none⟩,
  ⟨(some 21), .mv (.tmp 1), none⟩,
  ⟨(some 22), .mv (.tmp 5), none⟩,
  ⟨(some 23), .idxA 1 (.tmp 21) (.tmp 22), none⟩,
  ⟨(some 24), .ld (.str) (.tmp 23), none⟩,
  ⟨(some 25), .scmp .neq (.tmp 20) (.tmp 24), none⟩]) (.cond (.tmp 25) (.seq (.region .txt [⟨(some 4), .mv (.const (.bool false)), none⟩]) .ret) .skip))) (.region .txt [⟨(some 15), .mv (.tmp 5), none⟩,
  ⟨(some 16), .arith .add .i64 (.tmp 15) (.const (.int .i64 1)), none⟩,
  ⟨(some 5), .mv (.tmp 16), none⟩])))))) (.seq (.region .txt [⟨(some 4), .mv (.const (.bool true)), none⟩]) .ret))))
def loops73 : List (List (Nat × Shp)) := [[(5, .int .i64)]]
def ret73 : List RV := [.tmp 4]
theorem comp73 : compF Try.prog Try.f73 loops73 = some (26, ret73, code73) := by kernel_rfl
def J73_2  (R : Value → Heap → Prop) (aA : (Option Addr)) (aN : Nat) (bA : (Option Addr)) (bN : Nat) (i : Int) (next_ : (Int → Heap → Prop)) (h_2 : Heap) : Prop :=
 0 ≤ (i : Int) ∧ (i : Int) < (aN : Nat) ∧ AtP aA fun ad => ∃ (t : ByteArray), cellH h_2 (Addr.add ad (Int.toNat i * 1)) = some (.string t) ∧ 0 ≤ (i : Int) ∧ (i : Int) < (bN : Nat) ∧ AtP bA fun ad1 => ∃ (t1 : ByteArray), cellH h_2 (Addr.add ad1 (Int.toNat i * 1)) = some (.string t1) ∧ PIf ((t : ByteArray) = t1)
 (next_ ((IntKind.wrap .i64 (i + 1))) h_2)
 (R (.bool false) h_2)
def J73_1  (R : Value → Heap → Prop) (h_3 : Heap) : Prop :=
 R (.bool true) h_3
def B73_3 (R : Value → Heap → Prop) (aA : (Option Addr)) (aN : Nat) (bA : (Option Addr)) (bN : Nat) (i : Int) (h_1 : Heap) (next_ : Int → Heap → Prop) : Prop :=
 PIf ((i : Int) < ((aN : Nat) : Int))
 (J73_2 R aA aN bA bN i next_ h_1)
 (J73_1 R h_1)
def J73_0  (R : Value → Heap → Prop) (aA : (Option Addr)) (aN : Nat) (bA : (Option Addr)) (bN : Nat) (h_ : Heap) : Prop :=
 LoopT (σ := Int) (fun st_ h_st nx_st => B73_3 R aA aN bA bN (st_) h_st nx_st) (0) h_
def VC73 (P : Program) (aA : Option Addr) (aN : Nat) (aC : Nat) (bA : Option Addr) (bN : Nat) (bC : Nat) (R : Value → Heap → Prop) (h : Heap) : Prop :=
 PIf ((((aN : Nat) : Int) : Int) = ((bN : Nat) : Int))
 (J73_0 R aA aN bA bN h)
 (R (.bool false) h)
theorem vc73 (P : Program) (aA : Option Addr) (aN : Nat) (aC : Nat) (bA : Option Addr) (bN : Nat) (bC : Nat) (R : Value → Heap → Prop) (h : Heap) : fnC P ret73 code73 [(.slice aA aN aC), (.slice bA bN bC)] h R = VC73 P aA aN aC bA bN bC R h := by kernel_rfl
theorem run73 (aA : Option Addr) (aN : Nat) (aC : Nat) (bA : Option Addr) (bN : Nat) (bC : Nat) (R : Value → Heap → Prop) (h : Heap) (hv : VC73 Try.prog aA aN aC bA bN bC R h) : CallsH Try.prog 73 #[(.slice aA aN aC), (.slice bA bN bC)] h R := calls_of_fnC (Checked.mixed Try.checked) Try.func73 comp73 (Nat.le_of_ble_eq_true rfl) (by rw [vc73]; exact hv)

/-! 74: trestle/trestlebook.CopyInts -/
def code74 : SCode := (.seq (.region .txt [⟨(some 2), .mv (.const (.slice none 0 0)), none⟩]) (.seq (.region .txt [⟨(some 3), .lit 3 0 #[(.int .i64 0)] [], none⟩,
  ⟨(some 4), .mv (.tmp 0), none⟩,
  ⟨(some 5), .app 3 8 1 #[(.int .i64 0)] (.tmp 3) (.tmp 4), none⟩,
  ⟨(some 2), .mv (.tmp 5), none⟩]) .ret))
def loops74 : List (List (Nat × Shp)) := []
def ret74 : List RV := [.tmp 2]
theorem comp74 : compF Try.prog Try.f74 loops74 = some (6, ret74, code74) := by kernel_rfl
def VC74 (P : Program) (lA : Option Addr) (lN : Nat) (lC : Nat) (R : Value → Heap → Prop) (h : Heap) : Prop :=
 let h_ : Heap := (h).push (.cells #[] 3); ∃ ys : List Value, ReadL h_ lA ys ∧ ys.length = lN * 1 ∧ AppS h_ (some (Addr.mk (h).size 0 none)) 0 0 3 8 1 #[(.int .i64 0)] ys lN fun apA apN apC h_1 => R (.slice apA apN apC) h_1
theorem vc74 (P : Program) (lA : Option Addr) (lN : Nat) (lC : Nat) (R : Value → Heap → Prop) (h : Heap) : fnC P ret74 code74 [(.slice lA lN lC)] h R = VC74 P lA lN lC R h := by kernel_rfl
theorem run74 (lA : Option Addr) (lN : Nat) (lC : Nat) (R : Value → Heap → Prop) (h : Heap) (hv : VC74 Try.prog lA lN lC R h) : CallsH Try.prog 74 #[(.slice lA lN lC)] h R := calls_of_fnC (Checked.mixed Try.checked) Try.func74 comp74 (Nat.le_of_ble_eq_true rfl) (by rw [vc74]; exact hv)

/-! 85: trestle/trestlebook.CopyLists -/
def code85 : SCode := (.seq (.region .txt [⟨(some 2), .mv (.const (.slice none 0 0)), none⟩]) (.seq (.region .txt [⟨(some 3), .mv (.const (.slice none 0 0)), none⟩]) (.seq (.seq (.region .txt [⟨(some 4), .mv (.const (.int .i64 0)), none⟩]) (.block 0 (.loop [(3, .slice), (4, .int .i64)] [5, 6, 7, 8, 11, 12, 13, 14, 15, 16, 17, 18, 3, 9, 10, 4] (.seq (.seq (.region .txt [⟨(some 5), .mv (.tmp 4), none⟩,
  ⟨(some 6), .mv (.tmp 0), none⟩,
  ⟨(some 7), .len (.tmp 6), none⟩,
  ⟨(some 8), .icmp .lss .i64 (.tmp 5) (.tmp 7), none⟩]) (.cond (.tmp 8) .skip (.exit 0))) (.seq (.block 1 (.region .txt [⟨(some 11), .mv (.tmp 3), none⟩,
  ⟨(some 12), .mv (.tmp 0), none⟩,
  ⟨(some 13), .mv (.tmp 4), none⟩,
  ⟨(some 14), .idxA 1 (.tmp 12) (.tmp 13), none⟩,
  ⟨(some 15), .ld (.slice) (.tmp 14), none⟩,
  ⟨(some 16), .call 74 [(.tmp 15)] (.val (.one (.slice))), none⟩,
  ⟨(some 17), .lit 22 1 #[(.slice none 0 0)] [(0, 1, (.tmp 16))], none⟩,
  ⟨(some 18), .app 22 24 1 #[(.slice none 0 0)] (.tmp 11) (.tmp 17), none⟩,
  ⟨(some 3), .mv (.tmp 18), none⟩])) (.region .txt [⟨(some 9), .mv (.tmp 4), none⟩,
  ⟨(some 10), .arith .add .i64 (.tmp 9) (.const (.int .i64 1)), none⟩,
  ⟨(some 4), .mv (.tmp 10), none⟩])))))) (.seq (.region .txt [⟨(some 19), .mv (.tmp 3), none⟩,
  ⟨(some 2), .mv (.tmp 19), none⟩]) .ret))))
def loops85 : List (List (Nat × Shp)) := [[(3, .slice), (4, .int .i64)]]
def ret85 : List RV := [.tmp 2]
theorem comp85 : compF Try.prog Try.f85 loops85 = some (20, ret85, code85) := by kernel_rfl
def J85_1  (P : Program) (lA : (Option Addr)) (lN : Nat) (outA : (Option Addr)) (outN : Nat) (outC : Nat) (i : Int) (next_ : ((Option Addr × Nat × Nat) × Int → Heap → Prop)) (h_1 : Heap) : Prop :=
 0 ≤ (i : Int) ∧ (i : Int) < (lN : Nat) ∧ AtP lA fun ad => ∃ (A : Option Addr), ∃ (N : Nat), ∃ (C : Nat), cellH h_1 (Addr.add ad (Int.toNat i * 1)) = some (.slice A N C) ∧ CallsH P 74 #[(.slice A N C)] h_1 fun v h_2 =>
 ∃ (A1 : Option Addr), ∃ (N1 : Nat), ∃ (C1 : Nat), v = (.slice A1 N1 C1) ∧ let h_3 : Heap := (h_2).push (.cells #[(.slice A1 N1 C1)] 22); ∃ ys : List Value, ReadL h_3 (some (Addr.mk (h_2).size 0 none)) ys ∧ ys.length = 1 * 1 ∧ AppS h_3 outA outN outC 22 24 1 #[(.slice none 0 0)] ys 1 fun apA apN apC h_4 => next_ ((apA, apN, apC), (IntKind.wrap .i64 (i + 1))) h_4
def J85_0  (R : Value → Heap → Prop) (outA1 : Option Addr) (outN1 : Nat) (outC1 : Nat) (h_5 : Heap) : Prop :=
 R (.slice outA1 outN1 outC1) h_5
def B85_2 (P : Program) (R : Value → Heap → Prop) (lA : (Option Addr)) (lN : Nat) (outA : Option Addr) (outN : Nat) (outC : Nat) (i : Int) (h_ : Heap) (next_ : (Option Addr × Nat × Nat) × Int → Heap → Prop) : Prop :=
 PIf ((i : Int) < ((lN : Nat) : Int))
 (J85_1 P lA lN outA outN outC i next_ h_)
 (J85_0 R (outA) (outN) (outC) h_)
def VC85 (P : Program) (lA : Option Addr) (lN : Nat) (lC : Nat) (R : Value → Heap → Prop) (h : Heap) : Prop :=
 LoopT (σ := (Option Addr × Nat × Nat) × Int) (fun st_ h_st nx_st => B85_2 P R lA lN (st_.1.1) (st_.1.2.1) (st_.1.2.2) (st_.2) h_st nx_st) ((none, 0, 0), 0) h
theorem vc85 (P : Program) (lA : Option Addr) (lN : Nat) (lC : Nat) (R : Value → Heap → Prop) (h : Heap) : fnC P ret85 code85 [(.slice lA lN lC)] h R = VC85 P lA lN lC R h := by kernel_rfl
theorem run85 (lA : Option Addr) (lN : Nat) (lC : Nat) (R : Value → Heap → Prop) (h : Heap) (hv : VC85 Try.prog lA lN lC R h) : CallsH Try.prog 85 #[(.slice lA lN lC)] h R := calls_of_fnC (Checked.mixed Try.checked) Try.func85 comp85 (Nat.le_of_ble_eq_true rfl) (by rw [vc85]; exact hv)

/-! 105: trestle/shape.Copy -/
def code105 : SCode := (.seq (.region .txt [⟨(some 1), .box 29 (.tmp 0), none⟩,
  ⟨(some 2), .alloc 29 (.agg #[(.int .i64 0), (.slice none 0 0), (.slice none 0 0), (.slice none 0 0), (.slice none 0 0), (.slice none 0 0), (.slice none 0 0), (.slice none 0 0), (.slice none 0 0), (.slice none 0 0), (.slice none 0 0)]), none⟩]) (.seq (.region .txt [⟨(some 6), .ldn [.int .i64, .slice, .slice, .slice, .slice, .slice, .slice, .slice, .slice, .slice, .slice] (.tmp 1), none⟩,
  ⟨(some 3), .alloc 29 (.agg #[(.int .i64 0), (.slice none 0 0), (.slice none 0 0), (.slice none 0 0), (.slice none 0 0), (.slice none 0 0), (.slice none 0 0), (.slice none 0 0), (.slice none 0 0), (.slice none 0 0), (.slice none 0 0)]), none⟩,
  ⟨none, .st 11 (.tmp 3) (.tmp 6), none⟩]) (.seq (.region .ext [⟨(some 7), .fldA 1 (.tmp 1), none⟩,
  ⟨(some 8), .ld (.slice) (.tmp 7), none⟩,
  ⟨(some 9), .call 142 [(.tmp 8)] (.val (.one (.slice))), none⟩,
  ⟨(some 10), .fldA 2 (.tmp 1), none⟩,
  ⟨(some 11), .ld (.slice) (.tmp 10), none⟩,
  ⟨(some 12), .call 143 [(.tmp 11)] (.val (.one (.slice))), none⟩,
  ⟨(some 13), .fldA 3 (.tmp 1), none⟩,
  ⟨(some 14), .ld (.slice) (.tmp 13), none⟩,
  ⟨(some 15), .call 142 [(.tmp 14)] (.val (.one (.slice))), none⟩,
  ⟨(some 16), .fldA 4 (.tmp 1), none⟩,
  ⟨(some 17), .ld (.slice) (.tmp 16), none⟩,
  ⟨(some 18), .call 142 [(.tmp 17)] (.val (.one (.slice))), none⟩,
  ⟨(some 19), .fldA 1 (.tmp 3), none⟩,
  ⟨none, .st 1 (.tmp 19) (.tmp 9), none⟩,
  ⟨(some 20), .fldA 2 (.tmp 3), none⟩,
  ⟨none, .st 1 (.tmp 20) (.tmp 12), none⟩,
  ⟨(some 21), .fldA 3 (.tmp 3), none⟩,
  ⟨none, .st 1 (.tmp 21) (.tmp 15), none⟩,
  ⟨(some 22), .fldA 4 (.tmp 3), none⟩,
  ⟨none, .st 1 (.tmp 22) (.tmp 18), none⟩]) (.seq (.region .ext [⟨(some 23), .fldA 5 (.tmp 1), none⟩,
  ⟨(some 24), .ld (.slice) (.tmp 23), none⟩,
  ⟨(some 25), .call 142 [(.tmp 24)] (.val (.one (.slice))), none⟩,
  ⟨(some 26), .fldA 7 (.tmp 1), none⟩,
  ⟨(some 27), .ld (.slice) (.tmp 26), none⟩,
  ⟨(some 28), .call 142 [(.tmp 27)] (.val (.one (.slice))), none⟩,
  ⟨(some 29), .fldA 8 (.tmp 1), none⟩,
  ⟨(some 30), .ld (.slice) (.tmp 29), none⟩,
  ⟨(some 31), .call 144 [(.tmp 30)] (.val (.one (.slice))), none⟩,
  ⟨(some 32), .fldA 5 (.tmp 3), none⟩,
  ⟨none, .st 1 (.tmp 32) (.tmp 25), none⟩,
  ⟨(some 33), .fldA 7 (.tmp 3), none⟩,
  ⟨none, .st 1 (.tmp 33) (.tmp 28), none⟩,
  ⟨(some 34), .fldA 8 (.tmp 3), none⟩,
  ⟨none, .st 1 (.tmp 34) (.tmp 31), none⟩]) (.seq (.region .ext [⟨(some 35), .fldA 9 (.tmp 1), none⟩,
  ⟨(some 36), .ld (.slice) (.tmp 35), none⟩,
  ⟨(some 37), .call 145 [(.tmp 36)] (.val (.one (.slice))), none⟩,
  ⟨(some 38), .fldA 10 (.tmp 1), none⟩,
  ⟨(some 39), .ld (.slice) (.tmp 38), none⟩,
  ⟨(some 40), .call 146 [(.tmp 39)] (.val (.one (.slice))), none⟩,
  ⟨(some 41), .fldA 6 (.tmp 1), none⟩,
  ⟨(some 42), .ld (.slice) (.tmp 41), none⟩,
  ⟨(some 43), .call 147 [(.tmp 42)] (.val (.one (.slice))), none⟩,
  ⟨(some 44), .fldA 9 (.tmp 3), none⟩,
  ⟨none, .st 1 (.tmp 44) (.tmp 37), none⟩,
  ⟨(some 45), .fldA 10 (.tmp 3), none⟩,
  ⟨none, .st 1 (.tmp 45) (.tmp 40), none⟩,
  ⟨(some 46), .fldA 6 (.tmp 3), none⟩,
  ⟨none, .st 1 (.tmp 46) (.tmp 43), none⟩]) (.seq (.seq (.region .txt [⟨(some 47), .fldA 6 (.tmp 1), none⟩,
  ⟨(some 48), .ld (.slice) (.tmp 47), none⟩,
  ⟨(some 49), .len (.tmp 48), none⟩,
  ⟨(some 50), .mv (.const (.int .i64 0)), none⟩]) (.block 0 (.loop [(50, .int .i64)] [51, 52, 53, 54, 4, 5, 55, 56, 57, 58, 59, 60, 61, 50] (.seq (.region .txt [⟨(some 51), .icmp .lss .i64 (.tmp 50) (.tmp 49), none⟩]) (.seq (.cond (.tmp 51) .skip (.exit 0)) (.seq (.block 1 (.seq (.region .txt [⟨(some 52), .mv (.tmp 50), none⟩,
  ⟨(some 53), .idxA 1 (.tmp 48) (.tmp 50), none⟩,
  ⟨(some 54), .ld (.slice) (.tmp 53), none⟩,
  ⟨(some 4), .mv (.tmp 52), none⟩,
  ⟨(some 5), .mv (.tmp 54), none⟩]) (.region .ext [⟨(some 55), .fldA 6 (.tmp 3), none⟩,
  ⟨(some 56), .ld (.slice) (.tmp 55), none⟩,
  ⟨(some 57), .mv (.tmp 4), none⟩,
  ⟨(some 58), .mv (.tmp 5), none⟩,
  ⟨(some 59), .call 142 [(.tmp 58)] (.val (.one (.slice))), none⟩,
  ⟨(some 60), .idxA 1 (.tmp 56) (.tmp 57), none⟩,
  ⟨none, .st 1 (.tmp 60) (.tmp 59), none⟩]))) (.region .txt [⟨(some 61), .arith .add .i64 (.tmp 50) (.const (.int .i64 1)), none⟩,
  ⟨(some 50), .mv (.tmp 61), none⟩]))))))) (.seq (.region .txt [⟨(some 62), .ldn [.int .i64, .slice, .slice, .slice, .slice, .slice, .slice, .slice, .slice, .slice, .slice] (.tmp 3), none⟩,
  ⟨none, .st 11 (.tmp 2) (.tmp 62), none⟩]) .ret)))))))
def loops105 : List (List (Nat × Shp)) := [[(50, .int .i64)]]
def ret105 : List RV := [.cellN 2 [.int .i64, .slice, .slice, .slice, .slice, .slice, .slice, .slice, .slice, .slice, .slice]]
theorem comp105 : compF Try.prog Try.f105 loops105 = some (63, ret105, code105) := by kernel_rfl
def J105_1  (P : Program) (h_1 : Heap) (A30 : (Option Addr)) (N30 : Nat) (t1 : Int) (next_ : (Int → Heap → Prop)) (h_25 : Heap) : Prop :=
 0 ≤ (t1 : Int) ∧ (t1 : Int) < (N30 : Nat) ∧ AtP A30 fun ad => ∃ (A31 : Option Addr), ∃ (N31 : Nat), ∃ (C31 : Nat), cellH h_25 (Addr.add ad (Int.toNat t1 * 1)) = some (.slice A31 N31 C31) ∧ (Addr.block (Addr.add (Addr.mk (h_1).size 0 none) 6)) < (h_25).size ∧ ∃ (A32 : Option Addr), ∃ (N32 : Nat), ∃ (C32 : Nat), cellH h_25 (Addr.add (Addr.mk (h_1).size 0 none) 6) = some (.slice A32 N32 C32) ∧ CallsH P 142 #[(.slice A31 N31 C31)] h_25 fun v10 h_26 =>
 ∃ (A33 : Option Addr), ∃ (N33 : Nat), ∃ (C33 : Nat), v10 = (.slice A33 N33 C33) ∧ AgreeH (h_25).size h_25 h_26 ∧ 0 ≤ (t1 : Int) ∧ (t1 : Int) < (N32 : Nat) ∧ AtP A32 fun ad1 => StoreH h_26 (Addr.add ad1 (Int.toNat t1 * 1)) [(.slice A33 N33 C33)] fun h_27 => next_ ((IntKind.wrap .i64 (t1 + 1))) h_27
def J105_0  (R : Value → Heap → Prop) (h_ : Heap) (h_1 : Heap) (h_28 : Heap) : Prop :=
 ∃ (t2 : Int), ∃ (A34 : Option Addr), ∃ (N34 : Nat), ∃ (C34 : Nat), ∃ (A35 : Option Addr), ∃ (N35 : Nat), ∃ (C35 : Nat), ∃ (A36 : Option Addr), ∃ (N36 : Nat), ∃ (C36 : Nat), ∃ (A37 : Option Addr), ∃ (N37 : Nat), ∃ (C37 : Nat), ∃ (A38 : Option Addr), ∃ (N38 : Nat), ∃ (C38 : Nat), ∃ (A39 : Option Addr), ∃ (N39 : Nat), ∃ (C39 : Nat), ∃ (A40 : Option Addr), ∃ (N40 : Nat), ∃ (C40 : Nat), ∃ (A41 : Option Addr), ∃ (N41 : Nat), ∃ (C41 : Nat), ∃ (A42 : Option Addr), ∃ (N42 : Nat), ∃ (C42 : Nat), ∃ (A43 : Option Addr), ∃ (N43 : Nat), ∃ (C43 : Nat), cellsH h_28 (Addr.mk (h_1).size 0 none) 0 [(.int .i64 t2), (.slice A34 N34 C34), (.slice A35 N35 C35), (.slice A36 N36 C36), (.slice A37 N37 C37), (.slice A38 N38 C38), (.slice A39 N39 C39), (.slice A40 N40 C40), (.slice A41 N41 C41), (.slice A42 N42 C42), (.slice A43 N43 C43)] ∧ StoreH h_28 (Addr.mk (h_).size 0 none) [(.int .i64 t2), (.slice A34 N34 C34), (.slice A35 N35 C35), (.slice A36 N36 C36), (.slice A37 N37 C37), (.slice A38 N38 C38), (.slice A39 N39 C39), (.slice A40 N40 C40), (.slice A41 N41 C41), (.slice A42 N42 C42), (.slice A43 N43 C43)] fun h_29 => ∃ (t3 : Int), ∃ (A44 : Option Addr), ∃ (N44 : Nat), ∃ (C44 : Nat), ∃ (A45 : Option Addr), ∃ (N45 : Nat), ∃ (C45 : Nat), ∃ (A46 : Option Addr), ∃ (N46 : Nat), ∃ (C46 : Nat), ∃ (A47 : Option Addr), ∃ (N47 : Nat), ∃ (C47 : Nat), ∃ (A48 : Option Addr), ∃ (N48 : Nat), ∃ (C48 : Nat), ∃ (A49 : Option Addr), ∃ (N49 : Nat), ∃ (C49 : Nat), ∃ (A50 : Option Addr), ∃ (N50 : Nat), ∃ (C50 : Nat), ∃ (A51 : Option Addr), ∃ (N51 : Nat), ∃ (C51 : Nat), ∃ (A52 : Option Addr), ∃ (N52 : Nat), ∃ (C52 : Nat), ∃ (A53 : Option Addr), ∃ (N53 : Nat), ∃ (C53 : Nat), cellsH h_29 (Addr.mk (h_).size 0 none) 0 [(.int .i64 t3), (.slice A44 N44 C44), (.slice A45 N45 C45), (.slice A46 N46 C46), (.slice A47 N47 C47), (.slice A48 N48 C48), (.slice A49 N49 C49), (.slice A50 N50 C50), (.slice A51 N51 C51), (.slice A52 N52 C52), (.slice A53 N53 C53)] ∧ R (.agg #[(.int .i64 t3), (.slice A44 N44 C44), (.slice A45 N45 C45), (.slice A46 N46 C46), (.slice A47 N47 C47), (.slice A48 N48 C48), (.slice A49 N49 C49), (.slice A50 N50 C50), (.slice A51 N51 C51), (.slice A52 N52 C52), (.slice A53 N53 C53)]) h_29
def B105_3 (P : Program) (R : Value → Heap → Prop) (h_ : Heap) (h_1 : Heap) (A30 : (Option Addr)) (N30 : Nat) (t1 : Int) (h_24 : Heap) (next_ : Int → Heap → Prop) : Prop :=
 PIf ((t1 : Int) < ((N30 : Nat) : Int))
 (J105_1 P h_1 A30 N30 t1 next_ h_24)
 (J105_0 R h_ h_1 h_24)
def VC105 (P : Program) (c : Int) (cA : Option Addr) (cN : Nat) (cC : Nat) (cA1 : Option Addr) (cN1 : Nat) (cC1 : Nat) (cA2 : Option Addr) (cN2 : Nat) (cC2 : Nat) (cA3 : Option Addr) (cN3 : Nat) (cC3 : Nat) (cA4 : Option Addr) (cN4 : Nat) (cC4 : Nat) (cA5 : Option Addr) (cN5 : Nat) (cC5 : Nat) (cA6 : Option Addr) (cN6 : Nat) (cC6 : Nat) (cA7 : Option Addr) (cN7 : Nat) (cC7 : Nat) (cA8 : Option Addr) (cN8 : Nat) (cC8 : Nat) (cA9 : Option Addr) (cN9 : Nat) (cC9 : Nat) (R : Value → Heap → Prop) (h : Heap) : Prop :=
 let h_ : Heap := (h).push (.cells (Value.cells (.agg #[(.int .i64 c), (.slice cA cN cC), (.slice cA1 cN1 cC1), (.slice cA2 cN2 cC2), (.slice cA3 cN3 cC3), (.slice cA4 cN4 cC4), (.slice cA5 cN5 cC5), (.slice cA6 cN6 cC6), (.slice cA7 cN7 cC7), (.slice cA8 cN8 cC8), (.slice cA9 cN9 cC9)])) 29); let h_1 : Heap := (h_).push (.cells #[(.int .i64 0), (.slice none 0 0), (.slice none 0 0), (.slice none 0 0), (.slice none 0 0), (.slice none 0 0), (.slice none 0 0), (.slice none 0 0), (.slice none 0 0), (.slice none 0 0), (.slice none 0 0)] 29); ∃ (t : Int), ∃ (A : Option Addr), ∃ (N : Nat), ∃ (C : Nat), ∃ (A1 : Option Addr), ∃ (N1 : Nat), ∃ (C1 : Nat), ∃ (A2 : Option Addr), ∃ (N2 : Nat), ∃ (C2 : Nat), ∃ (A3 : Option Addr), ∃ (N3 : Nat), ∃ (C3 : Nat), ∃ (A4 : Option Addr), ∃ (N4 : Nat), ∃ (C4 : Nat), ∃ (A5 : Option Addr), ∃ (N5 : Nat), ∃ (C5 : Nat), ∃ (A6 : Option Addr), ∃ (N6 : Nat), ∃ (C6 : Nat), ∃ (A7 : Option Addr), ∃ (N7 : Nat), ∃ (C7 : Nat), ∃ (A8 : Option Addr), ∃ (N8 : Nat), ∃ (C8 : Nat), ∃ (A9 : Option Addr), ∃ (N9 : Nat), ∃ (C9 : Nat), cellsH h_1 (Addr.mk (h).size 0 none) 0 [(.int .i64 t), (.slice A N C), (.slice A1 N1 C1), (.slice A2 N2 C2), (.slice A3 N3 C3), (.slice A4 N4 C4), (.slice A5 N5 C5), (.slice A6 N6 C6), (.slice A7 N7 C7), (.slice A8 N8 C8), (.slice A9 N9 C9)] ∧ let h_2 : Heap := (h_1).push (.cells #[(.int .i64 0), (.slice none 0 0), (.slice none 0 0), (.slice none 0 0), (.slice none 0 0), (.slice none 0 0), (.slice none 0 0), (.slice none 0 0), (.slice none 0 0), (.slice none 0 0), (.slice none 0 0)] 29); StoreH h_2 (Addr.mk (h_1).size 0 none) [(.int .i64 t), (.slice A N C), (.slice A1 N1 C1), (.slice A2 N2 C2), (.slice A3 N3 C3), (.slice A4 N4 C4), (.slice A5 N5 C5), (.slice A6 N6 C6), (.slice A7 N7 C7), (.slice A8 N8 C8), (.slice A9 N9 C9)] fun h_3 => (Addr.block (Addr.add (Addr.mk (h).size 0 none) 1)) < (h_3).size ∧ ∃ (A10 : Option Addr), ∃ (N10 : Nat), ∃ (C10 : Nat), cellH h_3 (Addr.add (Addr.mk (h).size 0 none) 1) = some (.slice A10 N10 C10) ∧ CallsH P 142 #[(.slice A10 N10 C10)] h_3 fun v h_4 =>
 ∃ (A11 : Option Addr), ∃ (N11 : Nat), ∃ (C11 : Nat), v = (.slice A11 N11 C11) ∧ AgreeH (h_3).size h_3 h_4 ∧ (Addr.block (Addr.add (Addr.mk (h).size 0 none) 2)) < (h_3).size ∧ ∃ (A12 : Option Addr), ∃ (N12 : Nat), ∃ (C12 : Nat), cellH h_4 (Addr.add (Addr.mk (h).size 0 none) 2) = some (.slice A12 N12 C12) ∧ CallsH P 143 #[(.slice A12 N12 C12)] h_4 fun v1 h_5 =>
 ∃ (A13 : Option Addr), ∃ (N13 : Nat), ∃ (C13 : Nat), v1 = (.slice A13 N13 C13) ∧ AgreeH (h_3).size h_4 h_5 ∧ (Addr.block (Addr.add (Addr.mk (h).size 0 none) 3)) < (h_3).size ∧ ∃ (A14 : Option Addr), ∃ (N14 : Nat), ∃ (C14 : Nat), cellH h_5 (Addr.add (Addr.mk (h).size 0 none) 3) = some (.slice A14 N14 C14) ∧ CallsH P 142 #[(.slice A14 N14 C14)] h_5 fun v2 h_6 =>
 ∃ (A15 : Option Addr), ∃ (N15 : Nat), ∃ (C15 : Nat), v2 = (.slice A15 N15 C15) ∧ AgreeH (h_3).size h_5 h_6 ∧ (Addr.block (Addr.add (Addr.mk (h).size 0 none) 4)) < (h_3).size ∧ ∃ (A16 : Option Addr), ∃ (N16 : Nat), ∃ (C16 : Nat), cellH h_6 (Addr.add (Addr.mk (h).size 0 none) 4) = some (.slice A16 N16 C16) ∧ CallsH P 142 #[(.slice A16 N16 C16)] h_6 fun v3 h_7 =>
 ∃ (A17 : Option Addr), ∃ (N17 : Nat), ∃ (C17 : Nat), v3 = (.slice A17 N17 C17) ∧ AgreeH (h_3).size h_6 h_7 ∧ StoreH h_7 (Addr.add (Addr.mk (h_1).size 0 none) 1) [(.slice A11 N11 C11)] fun h_8 => StoreH h_8 (Addr.add (Addr.mk (h_1).size 0 none) 2) [(.slice A13 N13 C13)] fun h_9 => StoreH h_9 (Addr.add (Addr.mk (h_1).size 0 none) 3) [(.slice A15 N15 C15)] fun h_10 => StoreH h_10 (Addr.add (Addr.mk (h_1).size 0 none) 4) [(.slice A17 N17 C17)] fun h_11 => (Addr.block (Addr.add (Addr.mk (h).size 0 none) 5)) < (h_11).size ∧ ∃ (A18 : Option Addr), ∃ (N18 : Nat), ∃ (C18 : Nat), cellH h_11 (Addr.add (Addr.mk (h).size 0 none) 5) = some (.slice A18 N18 C18) ∧ CallsH P 142 #[(.slice A18 N18 C18)] h_11 fun v4 h_12 =>
 ∃ (A19 : Option Addr), ∃ (N19 : Nat), ∃ (C19 : Nat), v4 = (.slice A19 N19 C19) ∧ AgreeH (h_11).size h_11 h_12 ∧ (Addr.block (Addr.add (Addr.mk (h).size 0 none) 7)) < (h_11).size ∧ ∃ (A20 : Option Addr), ∃ (N20 : Nat), ∃ (C20 : Nat), cellH h_12 (Addr.add (Addr.mk (h).size 0 none) 7) = some (.slice A20 N20 C20) ∧ CallsH P 142 #[(.slice A20 N20 C20)] h_12 fun v5 h_13 =>
 ∃ (A21 : Option Addr), ∃ (N21 : Nat), ∃ (C21 : Nat), v5 = (.slice A21 N21 C21) ∧ AgreeH (h_11).size h_12 h_13 ∧ (Addr.block (Addr.add (Addr.mk (h).size 0 none) 8)) < (h_11).size ∧ ∃ (A22 : Option Addr), ∃ (N22 : Nat), ∃ (C22 : Nat), cellH h_13 (Addr.add (Addr.mk (h).size 0 none) 8) = some (.slice A22 N22 C22) ∧ CallsH P 144 #[(.slice A22 N22 C22)] h_13 fun v6 h_14 =>
 ∃ (A23 : Option Addr), ∃ (N23 : Nat), ∃ (C23 : Nat), v6 = (.slice A23 N23 C23) ∧ AgreeH (h_11).size h_13 h_14 ∧ StoreH h_14 (Addr.add (Addr.mk (h_1).size 0 none) 5) [(.slice A19 N19 C19)] fun h_15 => StoreH h_15 (Addr.add (Addr.mk (h_1).size 0 none) 7) [(.slice A21 N21 C21)] fun h_16 => StoreH h_16 (Addr.add (Addr.mk (h_1).size 0 none) 8) [(.slice A23 N23 C23)] fun h_17 => (Addr.block (Addr.add (Addr.mk (h).size 0 none) 9)) < (h_17).size ∧ ∃ (A24 : Option Addr), ∃ (N24 : Nat), ∃ (C24 : Nat), cellH h_17 (Addr.add (Addr.mk (h).size 0 none) 9) = some (.slice A24 N24 C24) ∧ CallsH P 145 #[(.slice A24 N24 C24)] h_17 fun v7 h_18 =>
 ∃ (A25 : Option Addr), ∃ (N25 : Nat), ∃ (C25 : Nat), v7 = (.slice A25 N25 C25) ∧ AgreeH (h_17).size h_17 h_18 ∧ (Addr.block (Addr.add (Addr.mk (h).size 0 none) 10)) < (h_17).size ∧ ∃ (A26 : Option Addr), ∃ (N26 : Nat), ∃ (C26 : Nat), cellH h_18 (Addr.add (Addr.mk (h).size 0 none) 10) = some (.slice A26 N26 C26) ∧ CallsH P 146 #[(.slice A26 N26 C26)] h_18 fun v8 h_19 =>
 ∃ (A27 : Option Addr), ∃ (N27 : Nat), ∃ (C27 : Nat), v8 = (.slice A27 N27 C27) ∧ AgreeH (h_17).size h_18 h_19 ∧ (Addr.block (Addr.add (Addr.mk (h).size 0 none) 6)) < (h_17).size ∧ ∃ (A28 : Option Addr), ∃ (N28 : Nat), ∃ (C28 : Nat), cellH h_19 (Addr.add (Addr.mk (h).size 0 none) 6) = some (.slice A28 N28 C28) ∧ CallsH P 147 #[(.slice A28 N28 C28)] h_19 fun v9 h_20 =>
 ∃ (A29 : Option Addr), ∃ (N29 : Nat), ∃ (C29 : Nat), v9 = (.slice A29 N29 C29) ∧ AgreeH (h_17).size h_19 h_20 ∧ StoreH h_20 (Addr.add (Addr.mk (h_1).size 0 none) 9) [(.slice A25 N25 C25)] fun h_21 => StoreH h_21 (Addr.add (Addr.mk (h_1).size 0 none) 10) [(.slice A27 N27 C27)] fun h_22 => StoreH h_22 (Addr.add (Addr.mk (h_1).size 0 none) 6) [(.slice A29 N29 C29)] fun h_23 => ∃ (A30 : Option Addr), ∃ (N30 : Nat), ∃ (C30 : Nat), cellH h_23 (Addr.add (Addr.mk (h).size 0 none) 6) = some (.slice A30 N30 C30) ∧ LoopT (σ := Int) (fun st_ h_st nx_st => B105_3 P R h_ h_1 A30 N30 (st_) h_st nx_st) (0) h_23
theorem vc105 (P : Program) (c : Int) (cA : Option Addr) (cN : Nat) (cC : Nat) (cA1 : Option Addr) (cN1 : Nat) (cC1 : Nat) (cA2 : Option Addr) (cN2 : Nat) (cC2 : Nat) (cA3 : Option Addr) (cN3 : Nat) (cC3 : Nat) (cA4 : Option Addr) (cN4 : Nat) (cC4 : Nat) (cA5 : Option Addr) (cN5 : Nat) (cC5 : Nat) (cA6 : Option Addr) (cN6 : Nat) (cC6 : Nat) (cA7 : Option Addr) (cN7 : Nat) (cC7 : Nat) (cA8 : Option Addr) (cN8 : Nat) (cC8 : Nat) (cA9 : Option Addr) (cN9 : Nat) (cC9 : Nat) (R : Value → Heap → Prop) (h : Heap) : fnC P ret105 code105 [(.agg #[(.int .i64 c), (.slice cA cN cC), (.slice cA1 cN1 cC1), (.slice cA2 cN2 cC2), (.slice cA3 cN3 cC3), (.slice cA4 cN4 cC4), (.slice cA5 cN5 cC5), (.slice cA6 cN6 cC6), (.slice cA7 cN7 cC7), (.slice cA8 cN8 cC8), (.slice cA9 cN9 cC9)])] h R = VC105 P c cA cN cC cA1 cN1 cC1 cA2 cN2 cC2 cA3 cN3 cC3 cA4 cN4 cC4 cA5 cN5 cC5 cA6 cN6 cC6 cA7 cN7 cC7 cA8 cN8 cC8 cA9 cN9 cC9 R h := by kernel_rfl
theorem run105 (c : Int) (cA : Option Addr) (cN : Nat) (cC : Nat) (cA1 : Option Addr) (cN1 : Nat) (cC1 : Nat) (cA2 : Option Addr) (cN2 : Nat) (cC2 : Nat) (cA3 : Option Addr) (cN3 : Nat) (cC3 : Nat) (cA4 : Option Addr) (cN4 : Nat) (cC4 : Nat) (cA5 : Option Addr) (cN5 : Nat) (cC5 : Nat) (cA6 : Option Addr) (cN6 : Nat) (cC6 : Nat) (cA7 : Option Addr) (cN7 : Nat) (cC7 : Nat) (cA8 : Option Addr) (cN8 : Nat) (cC8 : Nat) (cA9 : Option Addr) (cN9 : Nat) (cC9 : Nat) (R : Value → Heap → Prop) (h : Heap) (hv : VC105 Try.prog c cA cN cC cA1 cN1 cC1 cA2 cN2 cC2 cA3 cN3 cC3 cA4 cN4 cC4 cA5 cN5 cC5 cA6 cN6 cC6 cA7 cN7 cC7 cA8 cN8 cC8 cA9 cN9 cC9 R h) : CallsH Try.prog 105 #[(.agg #[(.int .i64 c), (.slice cA cN cC), (.slice cA1 cN1 cC1), (.slice cA2 cN2 cC2), (.slice cA3 cN3 cC3), (.slice cA4 cN4 cC4), (.slice cA5 cN5 cC5), (.slice cA6 cN6 cC6), (.slice cA7 cN7 cC7), (.slice cA8 cN8 cC8), (.slice cA9 cN9 cC9)])] h R := calls_of_fnC (Checked.mixed Try.checked) Try.func105 comp105 (Nat.le_of_ble_eq_true rfl) (by rw [vc105]; exact hv)

/-! 106: slices.IndexFunc[[]trestle/api.Symbol,trestle/api.Symbol] -/
def code106 : SCode := (.seq (.region .txt [⟨(some 4), .mv (.const (.int .i64 0)), none⟩]) (.seq (.seq (.region .txt [⟨(some 6), .mv (.tmp 0), none⟩,
  ⟨(some 7), .len (.tmp 6), none⟩,
  ⟨(some 8), .mv (.const (.int .i64 0)), none⟩]) (.block 0 (.loop [(8, .int .i64)] [9, 10, 5, 11, 12, 13, 14, 15, 16, 17, 4, 18, 8] (.seq (.region .txt [⟨(some 9), .icmp .lss .i64 (.tmp 8) (.tmp 7), none⟩]) (.seq (.cond (.tmp 9) .skip (.exit 0)) (.seq (.block 1 (.seq (.region .txt [⟨(some 10), .mv (.tmp 8), none⟩,
  ⟨(some 5), .mv (.tmp 10), none⟩]) (.seq (.region .txt [⟨(some 11), .mv (.tmp 1), none⟩,
  ⟨(some 12), .mv (.tmp 0), none⟩,
  ⟨(some 13), .mv (.tmp 5), none⟩,
  ⟨(some 14), .idxA 3 (.tmp 12) (.tmp 13), none⟩,
  ⟨(some 15), .ldn [.int .u8, .int .i64, .str] (.tmp 14), none⟩,
  ⟨(some 16), .callv (.tmp 11) [(.tmp 15)] (.val (.one (.bool))), none⟩]) (.cond (.tmp 16) (.seq (.region .txt [⟨(some 17), .mv (.tmp 5), none⟩,
  ⟨(some 4), .mv (.tmp 17), none⟩]) .ret) .skip)))) (.region .txt [⟨(some 18), .arith .add .i64 (.tmp 8) (.const (.int .i64 1)), none⟩,
  ⟨(some 8), .mv (.tmp 18), none⟩]))))))) (.seq (.region .txt [⟨(some 4), .mv (.const (.int .i64 (-1))), none⟩]) .ret)))
def loops106 : List (List (Nat × Shp)) := [[(8, .int .i64)]]
def ret106 : List RV := [.tmp 4]
theorem comp106 : compF Try.prog Try.f106 loops106 = some (19, ret106, code106) := by kernel_rfl
def J106_1  (P : Program) (R : Value → Heap → Prop) (sA : (Option Addr)) (sN : Nat) (f : Value) (t : Int) (next_ : (Int → Heap → Prop)) (h_1 : Heap) : Prop :=
 0 ≤ (t : Int) ∧ (t : Int) < (sN : Nat) ∧ AtP sA fun ad => ∃ (t1 : Int), ∃ (t2 : Int), ∃ (t3 : ByteArray), cellsH h_1 (Addr.add ad (Int.toNat t * 3)) 0 [(.int .u8 t1), (.int .i64 t2), (.string t3)] ∧ CallV P f [(.agg #[(.int .u8 t1), (.int .i64 t2), (.string t3)])] h_1 fun v h_2 =>
 ∃ (t4 : Bool), v = (.bool t4) ∧ BIf t4 (R (.int .i64 t) h_2) (next_ ((IntKind.wrap .i64 (t + 1))) h_2)
def J106_0  (R : Value → Heap → Prop) (h_3 : Heap) : Prop :=
 R (.int .i64 (-1)) h_3
def B106_3 (P : Program) (R : Value → Heap → Prop) (sA : (Option Addr)) (sN : Nat) (f : Value) (t : Int) (h_ : Heap) (next_ : Int → Heap → Prop) : Prop :=
 PIf ((t : Int) < ((sN : Nat) : Int))
 (J106_1 P R sA sN f t next_ h_)
 (J106_0 R h_)
def VC106 (P : Program) (sA : Option Addr) (sN : Nat) (sC : Nat) (f : Value) (R : Value → Heap → Prop) (h : Heap) : Prop :=
 LoopT (σ := Int) (fun st_ h_st nx_st => B106_3 P R sA sN f (st_) h_st nx_st) (0) h
theorem vc106 (P : Program) (sA : Option Addr) (sN : Nat) (sC : Nat) (f : Value) (R : Value → Heap → Prop) (h : Heap) : fnC P ret106 code106 [(.slice sA sN sC), f] h R = VC106 P sA sN sC f R h := by kernel_rfl
theorem run106 (sA : Option Addr) (sN : Nat) (sC : Nat) (f : Value) (R : Value → Heap → Prop) (h : Heap) (hv : VC106 Try.prog sA sN sC f R h) : CallsH Try.prog 106 #[(.slice sA sN sC), f] h R := calls_of_fnC (Checked.mixed Try.checked) Try.func106 comp106 (Nat.le_of_ble_eq_true rfl) (by rw [vc106]; exact hv)

/-! 142: slices.Clone[[]int,int] -/
def code142 : SCode := (.seq (.region .txt [⟨(some 2), .mv (.const (.slice none 0 0)), none⟩]) (.seq (.seq (.region .txt [⟨(some 3), .mv (.tmp 0), none⟩,
  ⟨(some 4), .isnil .sl false (.tmp 3), none⟩]) (.cond (.tmp 4) (.seq (.region .txt [⟨(some 2), .mv (.const (.slice none 0 0)), none⟩]) .ret) .skip)) (.seq (.region .txt [⟨(some 5), .lit 3 0 #[(.int .i64 0)] [], none⟩,
  ⟨(some 6), .mv (.tmp 0), none⟩,
  ⟨(some 7), .app 3 8 1 #[(.int .i64 0)] (.tmp 5) (.tmp 6), none⟩,
  ⟨(some 2), .mv (.tmp 7), none⟩]) .ret)))
def loops142 : List (List (Nat × Shp)) := []
def ret142 : List RV := [.tmp 2]
theorem comp142 : compF Try.prog Try.f142 loops142 = some (8, ret142, code142) := by kernel_rfl
def VC142 (P : Program) (sA : Option Addr) (sN : Nat) (sC : Nat) (R : Value → Heap → Prop) (h : Heap) : Prop :=
 PIf ((sA : Option Addr) = none)
 (R (.slice none 0 0) h)
 (let h_ : Heap := (h).push (.cells #[] 3); ∃ ys : List Value, ReadL h_ sA ys ∧ ys.length = sN * 1 ∧ AppS h_ (some (Addr.mk (h).size 0 none)) 0 0 3 8 1 #[(.int .i64 0)] ys sN fun apA apN apC h_1 => R (.slice apA apN apC) h_1)
theorem vc142 (P : Program) (sA : Option Addr) (sN : Nat) (sC : Nat) (R : Value → Heap → Prop) (h : Heap) : fnC P ret142 code142 [(.slice sA sN sC)] h R = VC142 P sA sN sC R h := by kernel_rfl
theorem run142 (sA : Option Addr) (sN : Nat) (sC : Nat) (R : Value → Heap → Prop) (h : Heap) (hv : VC142 Try.prog sA sN sC R h) : CallsH Try.prog 142 #[(.slice sA sN sC)] h R := calls_of_fnC (Checked.mixed Try.checked) Try.func142 comp142 (Nat.le_of_ble_eq_true rfl) (by rw [vc142]; exact hv)

/-! 143: slices.Clone[[]trestle/api.Latch,trestle/api.Latch] -/
def code143 : SCode := (.seq (.region .txt [⟨(some 2), .mv (.const (.slice none 0 0)), none⟩]) (.seq (.seq (.region .txt [⟨(some 3), .mv (.tmp 0), none⟩,
  ⟨(some 4), .isnil .sl false (.tmp 3), none⟩]) (.cond (.tmp 4) (.seq (.region .txt [⟨(some 2), .mv (.const (.slice none 0 0)), none⟩]) .ret) .skip)) (.seq (.region .txt [⟨(some 5), .lit 80 0 #[(.int .i64 0), (.int .i64 0), (.int .i64 0)] [], none⟩,
  ⟨(some 6), .mv (.tmp 0), none⟩,
  ⟨(some 7), .app 80 24 3 #[(.int .i64 0), (.int .i64 0), (.int .i64 0)] (.tmp 5) (.tmp 6), none⟩,
  ⟨(some 2), .mv (.tmp 7), none⟩]) .ret)))
def loops143 : List (List (Nat × Shp)) := []
def ret143 : List RV := [.tmp 2]
theorem comp143 : compF Try.prog Try.f143 loops143 = some (8, ret143, code143) := by kernel_rfl
def VC143 (P : Program) (sA : Option Addr) (sN : Nat) (sC : Nat) (R : Value → Heap → Prop) (h : Heap) : Prop :=
 PIf ((sA : Option Addr) = none)
 (R (.slice none 0 0) h)
 (let h_ : Heap := (h).push (.cells #[] 80); ∃ ys : List Value, ReadL h_ sA ys ∧ ys.length = sN * 3 ∧ AppS h_ (some (Addr.mk (h).size 0 none)) 0 0 80 24 3 #[(.int .i64 0), (.int .i64 0), (.int .i64 0)] ys sN fun apA apN apC h_1 => R (.slice apA apN apC) h_1)
theorem vc143 (P : Program) (sA : Option Addr) (sN : Nat) (sC : Nat) (R : Value → Heap → Prop) (h : Heap) : fnC P ret143 code143 [(.slice sA sN sC)] h R = VC143 P sA sN sC R h := by kernel_rfl
theorem run143 (sA : Option Addr) (sN : Nat) (sC : Nat) (R : Value → Heap → Prop) (h : Heap) (hv : VC143 Try.prog sA sN sC R h) : CallsH Try.prog 143 #[(.slice sA sN sC)] h R := calls_of_fnC (Checked.mixed Try.checked) Try.func143 comp143 (Nat.le_of_ble_eq_true rfl) (by rw [vc143]; exact hv)

/-! 144: slices.Clone[[]trestle/api.And,trestle/api.And] -/
def code144 : SCode := (.seq (.region .txt [⟨(some 2), .mv (.const (.slice none 0 0)), none⟩]) (.seq (.seq (.region .txt [⟨(some 3), .mv (.tmp 0), none⟩,
  ⟨(some 4), .isnil .sl false (.tmp 3), none⟩]) (.cond (.tmp 4) (.seq (.region .txt [⟨(some 2), .mv (.const (.slice none 0 0)), none⟩]) .ret) .skip)) (.seq (.region .txt [⟨(some 5), .lit 82 0 #[(.int .i64 0), (.int .i64 0), (.int .i64 0)] [], none⟩,
  ⟨(some 6), .mv (.tmp 0), none⟩,
  ⟨(some 7), .app 82 24 3 #[(.int .i64 0), (.int .i64 0), (.int .i64 0)] (.tmp 5) (.tmp 6), none⟩,
  ⟨(some 2), .mv (.tmp 7), none⟩]) .ret)))
def loops144 : List (List (Nat × Shp)) := []
def ret144 : List RV := [.tmp 2]
theorem comp144 : compF Try.prog Try.f144 loops144 = some (8, ret144, code144) := by kernel_rfl
def VC144 (P : Program) (sA : Option Addr) (sN : Nat) (sC : Nat) (R : Value → Heap → Prop) (h : Heap) : Prop :=
 PIf ((sA : Option Addr) = none)
 (R (.slice none 0 0) h)
 (let h_ : Heap := (h).push (.cells #[] 82); ∃ ys : List Value, ReadL h_ sA ys ∧ ys.length = sN * 3 ∧ AppS h_ (some (Addr.mk (h).size 0 none)) 0 0 82 24 3 #[(.int .i64 0), (.int .i64 0), (.int .i64 0)] ys sN fun apA apN apC h_1 => R (.slice apA apN apC) h_1)
theorem vc144 (P : Program) (sA : Option Addr) (sN : Nat) (sC : Nat) (R : Value → Heap → Prop) (h : Heap) : fnC P ret144 code144 [(.slice sA sN sC)] h R = VC144 P sA sN sC R h := by kernel_rfl
theorem run144 (sA : Option Addr) (sN : Nat) (sC : Nat) (R : Value → Heap → Prop) (h : Heap) (hv : VC144 Try.prog sA sN sC R h) : CallsH Try.prog 144 #[(.slice sA sN sC)] h R := calls_of_fnC (Checked.mixed Try.checked) Try.func144 comp144 (Nat.le_of_ble_eq_true rfl) (by rw [vc144]; exact hv)

/-! 145: slices.Clone[[]trestle/api.Symbol,trestle/api.Symbol] -/
def code145 : SCode := (.seq (.region .txt [⟨(some 2), .mv (.const (.slice none 0 0)), none⟩]) (.seq (.seq (.region .txt [⟨(some 3), .mv (.tmp 0), none⟩,
  ⟨(some 4), .isnil .sl false (.tmp 3), none⟩]) (.cond (.tmp 4) (.seq (.region .txt [⟨(some 2), .mv (.const (.slice none 0 0)), none⟩]) .ret) .skip)) (.seq (.region .txt [⟨(some 5), .lit 103 0 #[(.int .u8 0), (.int .i64 0), (.string (ByteArray.mk #[]))] [], none⟩,
  ⟨(some 6), .mv (.tmp 0), none⟩,
  ⟨(some 7), .app 103 32 3 #[(.int .u8 0), (.int .i64 0), (.string (ByteArray.mk #[]))] (.tmp 5) (.tmp 6), none⟩,
  ⟨(some 2), .mv (.tmp 7), none⟩]) .ret)))
def loops145 : List (List (Nat × Shp)) := []
def ret145 : List RV := [.tmp 2]
theorem comp145 : compF Try.prog Try.f145 loops145 = some (8, ret145, code145) := by kernel_rfl
def VC145 (P : Program) (sA : Option Addr) (sN : Nat) (sC : Nat) (R : Value → Heap → Prop) (h : Heap) : Prop :=
 PIf ((sA : Option Addr) = none)
 (R (.slice none 0 0) h)
 (let h_ : Heap := (h).push (.cells #[] 103); ∃ ys : List Value, ReadL h_ sA ys ∧ ys.length = sN * 3 ∧ AppS h_ (some (Addr.mk (h).size 0 none)) 0 0 103 32 3 #[(.int .u8 0), (.int .i64 0), (.string (ByteArray.mk #[]))] ys sN fun apA apN apC h_1 => R (.slice apA apN apC) h_1)
theorem vc145 (P : Program) (sA : Option Addr) (sN : Nat) (sC : Nat) (R : Value → Heap → Prop) (h : Heap) : fnC P ret145 code145 [(.slice sA sN sC)] h R = VC145 P sA sN sC R h := by kernel_rfl
theorem run145 (sA : Option Addr) (sN : Nat) (sC : Nat) (R : Value → Heap → Prop) (h : Heap) (hv : VC145 Try.prog sA sN sC R h) : CallsH Try.prog 145 #[(.slice sA sN sC)] h R := calls_of_fnC (Checked.mixed Try.checked) Try.func145 comp145 (Nat.le_of_ble_eq_true rfl) (by rw [vc145]; exact hv)

/-! 146: slices.Clone[[]string,string] -/
def code146 : SCode := (.seq (.region .txt [⟨(some 2), .mv (.const (.slice none 0 0)), none⟩]) (.seq (.seq (.region .txt [⟨(some 3), .mv (.tmp 0), none⟩,
  ⟨(some 4), .isnil .sl false (.tmp 3), none⟩]) (.cond (.tmp 4) (.seq (.region .txt [⟨(some 2), .mv (.const (.slice none 0 0)), none⟩]) .ret) .skip)) (.seq (.region .txt [⟨(some 5), .lit 9 0 #[(.string (ByteArray.mk #[]))] [], none⟩,
  ⟨(some 6), .mv (.tmp 0), none⟩,
  ⟨(some 7), .app 9 16 1 #[(.string (ByteArray.mk #[]))] (.tmp 5) (.tmp 6), none⟩,
  ⟨(some 2), .mv (.tmp 7), none⟩]) .ret)))
def loops146 : List (List (Nat × Shp)) := []
def ret146 : List RV := [.tmp 2]
theorem comp146 : compF Try.prog Try.f146 loops146 = some (8, ret146, code146) := by kernel_rfl
def VC146 (P : Program) (sA : Option Addr) (sN : Nat) (sC : Nat) (R : Value → Heap → Prop) (h : Heap) : Prop :=
 PIf ((sA : Option Addr) = none)
 (R (.slice none 0 0) h)
 (let h_ : Heap := (h).push (.cells #[] 9); ∃ ys : List Value, ReadL h_ sA ys ∧ ys.length = sN * 1 ∧ AppS h_ (some (Addr.mk (h).size 0 none)) 0 0 9 16 1 #[(.string (ByteArray.mk #[]))] ys sN fun apA apN apC h_1 => R (.slice apA apN apC) h_1)
theorem vc146 (P : Program) (sA : Option Addr) (sN : Nat) (sC : Nat) (R : Value → Heap → Prop) (h : Heap) : fnC P ret146 code146 [(.slice sA sN sC)] h R = VC146 P sA sN sC R h := by kernel_rfl
theorem run146 (sA : Option Addr) (sN : Nat) (sC : Nat) (R : Value → Heap → Prop) (h : Heap) (hv : VC146 Try.prog sA sN sC R h) : CallsH Try.prog 146 #[(.slice sA sN sC)] h R := calls_of_fnC (Checked.mixed Try.checked) Try.func146 comp146 (Nat.le_of_ble_eq_true rfl) (by rw [vc146]; exact hv)

/-! 147: slices.Clone[[][]int,[]int] -/
def code147 : SCode := (.seq (.region .txt [⟨(some 2), .mv (.const (.slice none 0 0)), none⟩]) (.seq (.seq (.region .txt [⟨(some 3), .mv (.tmp 0), none⟩,
  ⟨(some 4), .isnil .sl false (.tmp 3), none⟩]) (.cond (.tmp 4) (.seq (.region .txt [⟨(some 2), .mv (.const (.slice none 0 0)), none⟩]) .ret) .skip)) (.seq (.region .txt [⟨(some 5), .lit 22 0 #[(.slice none 0 0)] [], none⟩,
  ⟨(some 6), .mv (.tmp 0), none⟩,
  ⟨(some 7), .app 22 24 1 #[(.slice none 0 0)] (.tmp 5) (.tmp 6), none⟩,
  ⟨(some 2), .mv (.tmp 7), none⟩]) .ret)))
def loops147 : List (List (Nat × Shp)) := []
def ret147 : List RV := [.tmp 2]
theorem comp147 : compF Try.prog Try.f147 loops147 = some (8, ret147, code147) := by kernel_rfl
def VC147 (P : Program) (sA : Option Addr) (sN : Nat) (sC : Nat) (R : Value → Heap → Prop) (h : Heap) : Prop :=
 PIf ((sA : Option Addr) = none)
 (R (.slice none 0 0) h)
 (let h_ : Heap := (h).push (.cells #[] 22); ∃ ys : List Value, ReadL h_ sA ys ∧ ys.length = sN * 1 ∧ AppS h_ (some (Addr.mk (h).size 0 none)) 0 0 22 24 1 #[(.slice none 0 0)] ys sN fun apA apN apC h_1 => R (.slice apA apN apC) h_1)
theorem vc147 (P : Program) (sA : Option Addr) (sN : Nat) (sC : Nat) (R : Value → Heap → Prop) (h : Heap) : fnC P ret147 code147 [(.slice sA sN sC)] h R = VC147 P sA sN sC R h := by kernel_rfl
theorem run147 (sA : Option Addr) (sN : Nat) (sC : Nat) (R : Value → Heap → Prop) (h : Heap) (hv : VC147 Try.prog sA sN sC R h) : CallsH Try.prog 147 #[(.slice sA sN sC)] h R := calls_of_fnC (Checked.mixed Try.checked) Try.func147 comp147 (Nat.le_of_ble_eq_true rfl) (by rw [vc147]; exact hv)
end Go.Proofs.Ytpmpacdjcfijbaa
