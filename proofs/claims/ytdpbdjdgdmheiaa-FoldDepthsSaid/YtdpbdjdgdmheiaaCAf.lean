/- Words and facts that the claim's proof leans on. No condition. -/
import Derived.Test.YtdpbdjdgdmheiaaHxV
import Derived.Test.YtdpbdjdgdmheiaaChecked
set_option maxRecDepth 100000
set_option linter.unusedVariables false
namespace Go.Proofs.Ytdpbdjdgdmheiaa
open Go.Hx
def loops97:List (List (Nat×Shp)):=[]
noncomputable def code97:SCode:=((compF Try.prog Try.f97 loops97).elim .skip fun x=>x.2.2)
def ret97:List RV:=[.tmp 2,.tmp 3]
theorem comp97:compF Try.prog Try.f97 loops97=some (18,ret97,code97):=by kernel_rfl
def VC97 (P:Program) (c:CV) (R:Value->Heap->Prop) (h:Heap):Prop:=
 let h_:Heap:=(h).push (.cells (Value.cells c.v) 29);LdC h_ ⟨h.size,0,none⟩ fun t=>CallsH P 52 #[t.v] h_ fun v h_1=>
 ∃ (t1:Option Addr) (t2 t3:Int),v=(.tuple #[.pointer t1,.int .i64 t2,.int .i64 t3])/\PIf (t3=0)
 (CallsH P 111 #[.pointer t1] h_1 fun v1 h_2=>
 ∃ (A10:Option Addr) (N10 C10:Nat),v1=(.slice A10 N10 C10)/\R (.tuple #[.slice A10 N10 C10,.int .i64 0]) h_2)
 (R (.tuple #[.slice none 0 0,.int .i64 t3]) h_1)
theorem run97 (c:CV) (R:Value->Heap->Prop) (h:Heap) (hv:VC97 Try.prog c R h):CallsH Try.prog 97 #[c.v] h R:=calls_of_fnC (Checked.mixed Try.checked) Try.func97 comp97 (Nat.le_of_ble_eq_true rfl) (Eq.mp (by kernel_rfl) hv)
def loops60:List (List (Nat×Shp)):=[]
noncomputable def code60:SCode:=((compF Try.prog Try.f60 loops60).elim .skip fun x=>x.2.2)
def ret60:List RV:=[.tmp 4]
theorem comp60:compF Try.prog Try.f60 loops60=some (9,ret60,code60):=by kernel_rfl
def VC60 (P:Program) (sA:Option Addr) (sN sC:Nat) (f:Value) (R:Value->Heap->Prop) (h:Heap):Prop:=
 CallsH P 91 #[.slice sA sN sC,f] h fun v h_=>
 ∃ (t:Int),v=(.int .i64 t)/\PIf ((0:Int)≤t)
 (R (.bool true) h_)
 (R (.bool false) h_)
theorem run60 (sA:Option Addr) (sN sC:Nat) (f:Value) (R:Value->Heap->Prop) (h:Heap) (hv:VC60 Try.prog sA sN sC f R h):CallsH Try.prog 60 #[.slice sA sN sC,f] h R:=calls_of_fnC (Checked.mixed Try.checked) Try.func60 comp60 (Nat.le_of_ble_eq_true rfl) (Eq.mp (by kernel_rfl) hv)
def loops91:List (List (Nat×Shp)):=[[(8,.int .i64)]]
noncomputable def code91:SCode:=((compF Try.prog Try.f91 loops91).elim .skip fun x=>x.2.2)
def ret91:List RV:=[.tmp 4]
theorem comp91:compF Try.prog Try.f91 loops91=some (19,ret91,code91):=by kernel_rfl
def J91_1  (P:Program) (R:Value->Heap->Prop) (sA:(Option Addr)) (sN:Nat) (f:Value) (t:Int) (next_:(Int->Heap->Prop)) (h_1:Heap):Prop:=
 0≤t/\t<(sN:Nat)/\AtP sA fun ad=>∃ (t1:Int),cellH h_1 (Addr.add ad (Int.toNat t*1))=some (.int .i64 t1)/\CallV P f [.int .i64 t1] h_1 fun v h_2=>
 ∃ (t2:Bool),v=(.bool t2)/\BIf t2 (R (.int .i64 t) h_2) (next_ (IntKind.wrap .i64 (t+1)) h_2)
def J91_0  (R:Value->Heap->Prop) (h_3:Heap):Prop:=
 R (.int .i64 (-1)) h_3
def B91_3 (P:Program) (R:Value->Heap->Prop) (sA:(Option Addr)) (sN:Nat) (f:Value) (t:Int) (h_:Heap) (next_:Int->Heap->Prop):Prop:=
 PIf (t<((sN:Nat):Int))
 (J91_1 P R sA sN f t next_ h_)
 (J91_0 R h_)
def VC91 (P:Program) (sA:Option Addr) (sN sC:Nat) (f:Value) (R:Value->Heap->Prop) (h:Heap):Prop:=
 LoopT (σ:=Int) (fun st_ h_st nx_st=>B91_3 P R sA sN f (st_) h_st nx_st) (0) h
theorem run91 (sA:Option Addr) (sN sC:Nat) (f:Value) (R:Value->Heap->Prop) (h:Heap) (hv:VC91 Try.prog sA sN sC f R h):CallsH Try.prog 91 #[.slice sA sN sC,f] h R:=calls_of_fnC (Checked.mixed Try.checked) Try.func91 comp91 (Nat.le_of_ble_eq_true rfl) (Eq.mp (by kernel_rfl) hv)
end Go.Proofs.Ytdpbdjdgdmheiaa
