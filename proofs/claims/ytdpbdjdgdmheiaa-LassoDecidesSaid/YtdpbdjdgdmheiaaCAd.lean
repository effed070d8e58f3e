/- Words and facts that the claim's proof leans on. No condition. -/
import Derived.Test.YtdpbdjdgdmheiaaHxV
import Derived.Test.YtdpbdjdgdmheiaaChecked
set_option maxRecDepth 100000
set_option linter.unusedVariables false
namespace Go.Proofs.Ytdpbdjdgdmheiaa
open Go.Hx
def loops51:List (List (Nat×Shp)):=[]
noncomputable def code51:SCode:=((compF Try.prog Try.f51 loops51).elim .skip fun x=>x.2.2)
def ret51:List RV:=[.tmp 2]
theorem comp51:compF Try.prog Try.f51 loops51=some (8,ret51,code51):=by kernel_rfl
def VC51 (P:Program) (sA:Option Addr) (sN sC:Nat) (R:Value->Heap->Prop) (h:Heap):Prop:=
 PIf ((sA:Option Addr)=none)
 (R (.slice none 0 0) h)
 (let h_:Heap:=(h).push (.cells #[] 4);∃ ys:List Value,ReadL h_ sA ys/\ys.length=sN*1/\AppS h_ (some ⟨h.size,0,none⟩) 0 0 4 1 1 #[.bool false] ys sN fun apA apN apC h_1=>R (.slice apA apN apC) h_1)
theorem run51 (sA:Option Addr) (sN sC:Nat) (R:Value->Heap->Prop) (h:Heap) (hv:VC51 Try.prog sA sN sC R h):CallsH Try.prog 51 #[.slice sA sN sC] h R:=calls_of_fnC (Checked.mixed Try.checked) Try.func51 comp51 (Nat.le_of_ble_eq_true rfl) (Eq.mp (by kernel_rfl) hv)
end Go.Proofs.Ytdpbdjdgdmheiaa
