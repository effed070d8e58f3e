/- Words and facts that the claim's proof leans on. No condition. -/
import Derived.Test.YtobageabpfkpcaaGreatDoorHxV
import Derived.Test.YtobageabpfkpcaaGreatDoorChecked
set_option maxRecDepth 100000
set_option linter.unusedVariables false
namespace Go.Proofs.YtobageabpfkpcaaGreatDoor
open Go.Hx
def loops141:List (List (Nat×Shp)):=[]
noncomputable def code141:SCode:=((compF Tryz.prog Tryz.f141 loops141).elim .skip fun x=>x.2.2)
def ret141:List RV:=[.tmp 4]
theorem comp141:compF Tryz.prog Tryz.f141 loops141=some (8,ret141,code141):=by kernel_rfl
def VC141 (P:Program) (s pfx:ByteArray) (R:Value->Heap->Prop) (h:Heap):Prop:=
 CallsH P 163 #[.string s,.string pfx] h fun v h_=>
 ∃ (t:ByteArray),v=(.string t)/\R (.string t) h_
theorem vc141 (P:Program) (s pfx:ByteArray) (R:Value->Heap->Prop) (h:Heap):fnC P ret141 code141 [.string s,.string pfx] h R=VC141 P s pfx R h:=by kernel_rfl
theorem run141 (s pfx:ByteArray) (R:Value->Heap->Prop) (h:Heap) (hv:VC141 Tryz.prog s pfx R h):CallsH Tryz.prog 141 #[.string s,.string pfx] h R:=calls_of_fnC (Checked.mixed Tryz.checked) Tryz.func141 comp141 (Nat.le_of_ble_eq_true rfl) (by rw [vc141];exact hv)
def loops163:List (List (Nat×Shp)):=[]
noncomputable def code163:SCode:=((compF Tryz.prog Tryz.f163 loops163).elim .skip fun x=>x.2.2)
def ret163:List RV:=[.tmp 4]
theorem comp163:compF Tryz.prog Tryz.f163 loops163=some (13,ret163,code163):=by kernel_rfl
def VC163 (P:Program) (s pfx:ByteArray) (R:Value->Heap->Prop) (h:Heap):Prop:=
 CallsH P 88 #[.string s,.string pfx] h fun v h_=>
 ∃ (t:Bool),v=(.bool t)/\BIf t (0≤(((pfx.size:Nat):Int):Int)/\(((pfx.size:Nat):Int):Int)≤((s.size:Nat):Int)/\(((s.size:Nat):Int):Int)≤(s.size:Nat)/\R (.string (s.extract (Int.toNat ((pfx.size:Nat):Int)) (Int.toNat ((s.size:Nat):Int)))) h_) (R (.string s) h_)
theorem vc163 (P:Program) (s pfx:ByteArray) (R:Value->Heap->Prop) (h:Heap):fnC P ret163 code163 [.string s,.string pfx] h R=VC163 P s pfx R h:=by kernel_rfl
theorem run163 (s pfx:ByteArray) (R:Value->Heap->Prop) (h:Heap) (hv:VC163 Tryz.prog s pfx R h):CallsH Tryz.prog 163 #[.string s,.string pfx] h R:=calls_of_fnC (Checked.mixed Tryz.checked) Tryz.func163 comp163 (Nat.le_of_ble_eq_true rfl) (by rw [vc163];exact hv)
end Go.Proofs.YtobageabpfkpcaaGreatDoor
