/- Words and facts that the claim's proof leans on. No condition. -/
import Derived.Test.YtdpbdjdgdmheiaaGreatHxV
import Derived.Test.YtdpbdjdgdmheiaaGreatChecked
set_option maxRecDepth 100000
set_option linter.unusedVariables false
namespace Go.Proofs.YtdpbdjdgdmheiaaGreat
open Go.Hx
/-! 78: slices.Clone[[]bool,bool] -/
def loops78 : List (List (Nat × Shp)) := []
noncomputable def code78 : SCode := ((compF Tryz.prog Tryz.f78 loops78).elim .skip fun x => x.2.2)
def ret78 : List RV := [.tmp 2]
theorem comp78 : compF Tryz.prog Tryz.f78 loops78 = some (8, ret78, code78) := by kernel_rfl
def VC78 (P : Program) (sA : Option Addr) (sN sC : Nat) (R : Value → Heap → Prop) (h : Heap) : Prop :=
 PIf ((sA : Option Addr) = none)
 (R (.slice none 0 0) h)
 (let h_ : Heap := (h).push (.cells #[] 4); ∃ ys : List Value, ReadL h_ sA ys ∧ ys.length = sN * 1 ∧ AppS h_ (some ⟨h.size, 0, none⟩) 0 0 4 1 1 #[.bool false] ys sN fun apA apN apC h_1 => R (.slice apA apN apC) h_1)
theorem run78 (sA : Option Addr) (sN sC : Nat) (R : Value → Heap → Prop) (h : Heap) (hv : VC78 Tryz.prog sA sN sC R h) : CallsH Tryz.prog 78 #[.slice sA sN sC] h R := calls_of_fnC (Checked.mixed Tryz.checked) Tryz.func78 comp78 (Nat.le_of_ble_eq_true rfl) (Eq.mp (by kernel_rfl) hv)
end Go.Proofs.YtdpbdjdgdmheiaaGreat
