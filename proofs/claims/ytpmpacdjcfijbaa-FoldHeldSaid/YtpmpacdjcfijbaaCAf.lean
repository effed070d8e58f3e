/- Words and facts that the claim's proof leans on. No condition. -/
import Derived.Test.YtpmpacdjcfijbaaHxK
import Derived.Test.YtpmpacdjcfijbaaChecked
set_option maxRecDepth 100000
set_option linter.unusedVariables false
namespace Go.Proofs.Ytpmpacdjcfijbaa
open Go.Hx
/-! 97: trestle/shape.Order -/
def loops97 : List (List (Nat × Shp)) := []
noncomputable def code97 : SCode := ((compF Try.prog Try.f97 loops97).elim .skip fun x => x.2.2)
def ret97 : List RV := [.tmp 2, .tmp 3]
theorem comp97 : compF Try.prog Try.f97 loops97 = some (18, ret97, code97) := by kernel_rfl
def VC97 (P : Program) (c : Int) (cA : Option Addr) (cN cC : Nat) (cA1 : Option Addr) (cN1 cC1 : Nat) (cA2 : Option Addr) (cN2 cC2 : Nat) (cA3 : Option Addr) (cN3 cC3 : Nat) (cA4 : Option Addr) (cN4 cC4 : Nat) (cA5 : Option Addr) (cN5 cC5 : Nat) (cA6 : Option Addr) (cN6 cC6 : Nat) (cA7 : Option Addr) (cN7 cC7 : Nat) (cA8 : Option Addr) (cN8 cC8 : Nat) (cA9 : Option Addr) (cN9 cC9 : Nat) (R : Value → Heap → Prop) (h : Heap) : Prop :=
 let h_ : Heap := (h).push (.cells (Value.cells (.agg #[.int .i64 c, .slice cA cN cC, .slice cA1 cN1 cC1, .slice cA2 cN2 cC2, .slice cA3 cN3 cC3, .slice cA4 cN4 cC4, .slice cA5 cN5 cC5, .slice cA6 cN6 cC6, .slice cA7 cN7 cC7, .slice cA8 cN8 cC8, .slice cA9 cN9 cC9])) 29); ∃ (t : Int) (A : Option Addr) (N C : Nat) (A1 : Option Addr) (N1 C1 : Nat) (A2 : Option Addr) (N2 C2 : Nat) (A3 : Option Addr) (N3 C3 : Nat) (A4 : Option Addr) (N4 C4 : Nat) (A5 : Option Addr) (N5 C5 : Nat) (A6 : Option Addr) (N6 C6 : Nat) (A7 : Option Addr) (N7 C7 : Nat) (A8 : Option Addr) (N8 C8 : Nat) (A9 : Option Addr) (N9 C9 : Nat), cellsH h_ ⟨h.size, 0, none⟩ 0 [.int .i64 t, .slice A N C, .slice A1 N1 C1, .slice A2 N2 C2, .slice A3 N3 C3, .slice A4 N4 C4, .slice A5 N5 C5, .slice A6 N6 C6, .slice A7 N7 C7, .slice A8 N8 C8, .slice A9 N9 C9] ∧ CallsH P 79 #[(.agg #[.int .i64 t, .slice A N C, .slice A1 N1 C1, .slice A2 N2 C2, .slice A3 N3 C3, .slice A4 N4 C4, .slice A5 N5 C5, .slice A6 N6 C6, .slice A7 N7 C7, .slice A8 N8 C8, .slice A9 N9 C9])] h_ fun v h_1 =>
 ∃ (t1 : Option Addr) (t2 t3 : Int), v = (.tuple #[.pointer t1, .int .i64 t2, .int .i64 t3]) ∧ PIf (t3 = 0)
 (CallsH P 129 #[.pointer t1] h_1 fun v1 h_2 =>
 ∃ (A10 : Option Addr) (N10 C10 : Nat), v1 = (.slice A10 N10 C10) ∧ R (.tuple #[.slice A10 N10 C10, .int .i64 0]) h_2)
 (R (.tuple #[.slice none 0 0, .int .i64 t3]) h_1)
theorem vc97 (P : Program) (c : Int) (cA : Option Addr) (cN cC : Nat) (cA1 : Option Addr) (cN1 cC1 : Nat) (cA2 : Option Addr) (cN2 cC2 : Nat) (cA3 : Option Addr) (cN3 cC3 : Nat) (cA4 : Option Addr) (cN4 cC4 : Nat) (cA5 : Option Addr) (cN5 cC5 : Nat) (cA6 : Option Addr) (cN6 cC6 : Nat) (cA7 : Option Addr) (cN7 cC7 : Nat) (cA8 : Option Addr) (cN8 cC8 : Nat) (cA9 : Option Addr) (cN9 cC9 : Nat) (R : Value → Heap → Prop) (h : Heap) : fnC P ret97 code97 [(.agg #[.int .i64 c, .slice cA cN cC, .slice cA1 cN1 cC1, .slice cA2 cN2 cC2, .slice cA3 cN3 cC3, .slice cA4 cN4 cC4, .slice cA5 cN5 cC5, .slice cA6 cN6 cC6, .slice cA7 cN7 cC7, .slice cA8 cN8 cC8, .slice cA9 cN9 cC9])] h R = VC97 P c cA cN cC cA1 cN1 cC1 cA2 cN2 cC2 cA3 cN3 cC3 cA4 cN4 cC4 cA5 cN5 cC5 cA6 cN6 cC6 cA7 cN7 cC7 cA8 cN8 cC8 cA9 cN9 cC9 R h := by kernel_rfl
theorem run97 (c : Int) (cA : Option Addr) (cN cC : Nat) (cA1 : Option Addr) (cN1 cC1 : Nat) (cA2 : Option Addr) (cN2 cC2 : Nat) (cA3 : Option Addr) (cN3 cC3 : Nat) (cA4 : Option Addr) (cN4 cC4 : Nat) (cA5 : Option Addr) (cN5 cC5 : Nat) (cA6 : Option Addr) (cN6 cC6 : Nat) (cA7 : Option Addr) (cN7 cC7 : Nat) (cA8 : Option Addr) (cN8 cC8 : Nat) (cA9 : Option Addr) (cN9 cC9 : Nat) (R : Value → Heap → Prop) (h : Heap) (hv : VC97 Try.prog c cA cN cC cA1 cN1 cC1 cA2 cN2 cC2 cA3 cN3 cC3 cA4 cN4 cC4 cA5 cN5 cC5 cA6 cN6 cC6 cA7 cN7 cC7 cA8 cN8 cC8 cA9 cN9 cC9 R h) : CallsH Try.prog 97 #[(.agg #[.int .i64 c, .slice cA cN cC, .slice cA1 cN1 cC1, .slice cA2 cN2 cC2, .slice cA3 cN3 cC3, .slice cA4 cN4 cC4, .slice cA5 cN5 cC5, .slice cA6 cN6 cC6, .slice cA7 cN7 cC7, .slice cA8 cN8 cC8, .slice cA9 cN9 cC9])] h R := calls_of_fnC (Checked.mixed Try.checked) Try.func97 comp97 (Nat.le_of_ble_eq_true rfl) (by rw [vc97]; exact hv)
/-! 101: slices.ContainsFunc[[]int,int] -/
def loops101 : List (List (Nat × Shp)) := []
noncomputable def code101 : SCode := ((compF Try.prog Try.f101 loops101).elim .skip fun x => x.2.2)
def ret101 : List RV := [.tmp 4]
theorem comp101 : compF Try.prog Try.f101 loops101 = some (9, ret101, code101) := by kernel_rfl
def VC101 (P : Program) (sA : Option Addr) (sN sC : Nat) (f : Value) (R : Value → Heap → Prop) (h : Heap) : Prop :=
 CallsH P 130 #[.slice sA sN sC, f] h fun v h_ =>
 ∃ (t : Int), v = (.int .i64 t) ∧ PIf ((0 : Int) ≤ t)
 (R (.bool true) h_)
 (R (.bool false) h_)
theorem vc101 (P : Program) (sA : Option Addr) (sN sC : Nat) (f : Value) (R : Value → Heap → Prop) (h : Heap) : fnC P ret101 code101 [.slice sA sN sC, f] h R = VC101 P sA sN sC f R h := by kernel_rfl
theorem run101 (sA : Option Addr) (sN sC : Nat) (f : Value) (R : Value → Heap → Prop) (h : Heap) (hv : VC101 Try.prog sA sN sC f R h) : CallsH Try.prog 101 #[.slice sA sN sC, f] h R := calls_of_fnC (Checked.mixed Try.checked) Try.func101 comp101 (Nat.le_of_ble_eq_true rfl) (by rw [vc101]; exact hv)
/-! 130: slices.IndexFunc[[]int,int] -/
def loops130 : List (List (Nat × Shp)) := [[(8, .int .i64)]]
noncomputable def code130 : SCode := ((compF Try.prog Try.f130 loops130).elim .skip fun x => x.2.2)
def ret130 : List RV := [.tmp 4]
theorem comp130 : compF Try.prog Try.f130 loops130 = some (19, ret130, code130) := by kernel_rfl
def J130_1  (P : Program) (R : Value → Heap → Prop) (sA : (Option Addr)) (sN : Nat) (f : Value) (t : Int) (next_ : (Int → Heap → Prop)) (h_1 : Heap) : Prop :=
 0 ≤ t ∧ t < (sN : Nat) ∧ AtP sA fun ad => ∃ (t1 : Int), cellH h_1 (Addr.add ad (Int.toNat t * 1)) = some (.int .i64 t1) ∧ CallV P f [.int .i64 t1] h_1 fun v h_2 =>
 ∃ (t2 : Bool), v = (.bool t2) ∧ BIf t2 (R (.int .i64 t) h_2) (next_ (IntKind.wrap .i64 (t + 1)) h_2)
def J130_0  (R : Value → Heap → Prop) (h_3 : Heap) : Prop :=
 R (.int .i64 (-1)) h_3
def B130_3 (P : Program) (R : Value → Heap → Prop) (sA : (Option Addr)) (sN : Nat) (f : Value) (t : Int) (h_ : Heap) (next_ : Int → Heap → Prop) : Prop :=
 PIf (t < ((sN : Nat) : Int))
 (J130_1 P R sA sN f t next_ h_)
 (J130_0 R h_)
def VC130 (P : Program) (sA : Option Addr) (sN sC : Nat) (f : Value) (R : Value → Heap → Prop) (h : Heap) : Prop :=
 LoopT (σ := Int) (fun st_ h_st nx_st => B130_3 P R sA sN f (st_) h_st nx_st) (0) h
theorem vc130 (P : Program) (sA : Option Addr) (sN sC : Nat) (f : Value) (R : Value → Heap → Prop) (h : Heap) : fnC P ret130 code130 [.slice sA sN sC, f] h R = VC130 P sA sN sC f R h := by kernel_rfl
theorem run130 (sA : Option Addr) (sN sC : Nat) (f : Value) (R : Value → Heap → Prop) (h : Heap) (hv : VC130 Try.prog sA sN sC f R h) : CallsH Try.prog 130 #[.slice sA sN sC, f] h R := calls_of_fnC (Checked.mixed Try.checked) Try.func130 comp130 (Nat.le_of_ble_eq_true rfl) (by rw [vc130]; exact hv)
end Go.Proofs.Ytpmpacdjcfijbaa
