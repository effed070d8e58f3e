/- Words and facts that the claim's proof leans on. No condition. -/
import Derived.Test.YtpmpacdjcfijbaaHxK
import Derived.Test.YtpmpacdjcfijbaaChecked
set_option maxRecDepth 100000
set_option linter.unusedVariables false
namespace Go.Proofs.Ytpmpacdjcfijbaa
open Go.Hx
/-! 75: slices.Clone[[]bool,bool] -/
def loops75 : List (List (Nat × Shp)) := []
noncomputable def code75 : SCode := ((compF Try.prog Try.f75 loops75).elim .skip fun x => x.2.2)
def ret75 : List RV := [.tmp 2]
theorem comp75 : compF Try.prog Try.f75 loops75 = some (8, ret75, code75) := by kernel_rfl
def VC75 (P : Program) (sA : Option Addr) (sN sC : Nat) (R : Value → Heap → Prop) (h : Heap) : Prop :=
 PIf ((sA : Option Addr) = none)
 (R (.slice none 0 0) h)
 (let h_ : Heap := (h).push (.cells #[] 4); ∃ ys : List Value, ReadL h_ sA ys ∧ ys.length = sN * 1 ∧ AppS h_ (some ⟨h.size, 0, none⟩) 0 0 4 1 1 #[.bool false] ys sN fun apA apN apC h_1 => R (.slice apA apN apC) h_1)
theorem vc75 (P : Program) (sA : Option Addr) (sN sC : Nat) (R : Value → Heap → Prop) (h : Heap) : fnC P ret75 code75 [.slice sA sN sC] h R = VC75 P sA sN sC R h := by kernel_rfl
theorem run75 (sA : Option Addr) (sN sC : Nat) (R : Value → Heap → Prop) (h : Heap) (hv : VC75 Try.prog sA sN sC R h) : CallsH Try.prog 75 #[.slice sA sN sC] h R := calls_of_fnC (Checked.mixed Try.checked) Try.func75 comp75 (Nat.le_of_ble_eq_true rfl) (by rw [vc75]; exact hv)
end Go.Proofs.Ytpmpacdjcfijbaa
