/- Words and facts that the claim's proof leans on. No condition. -/
import Derived.Test.YtdpbdjdgdmheiaaGreatHxV
import Derived.Test.YtdpbdjdgdmheiaaGreatChecked
set_option maxRecDepth 100000
set_option linter.unusedVariables false
namespace Go.Proofs.YtdpbdjdgdmheiaaGreat
open Go.Hx
def loops161:List (List (Nat×Shp)):=[]
noncomputable def code161:SCode:=((compF Tryz.prog Tryz.f161 loops161).elim .skip fun x=>x.2.2)
def ret161:List RV:=[.tmp 2,.tmp 3]
theorem comp161:compF Tryz.prog Tryz.f161 loops161=some (18,ret161,code161):=by kernel_rfl
def VC161 (P:Program) (c:CV) (R:Value->Heap->Prop) (h:Heap):Prop:=
 let h_:Heap:=(h).push (.cells (Value.cells c.v) 29);LdC h_ ⟨h.size,0,none⟩ fun t=>CallsH P 146 #[t.v] h_ fun v h_1=>
 ∃ (t1:Option Addr) (t2 t3:Int),v=(.tuple #[.pointer t1,.int .i64 t2,.int .i64 t3])/\PIf (t3=0)
 (CallsH P 180 #[.pointer t1] h_1 fun v1 h_2=>
 ∃ (A10:Option Addr) (N10 C10:Nat),v1=(.slice A10 N10 C10)/\R (.tuple #[.slice A10 N10 C10,.int .i64 0]) h_2)
 (R (.tuple #[.slice none 0 0,.int .i64 t3]) h_1)
theorem run161 (c:CV) (R:Value->Heap->Prop) (h:Heap) (hv:VC161 Tryz.prog c R h):CallsH Tryz.prog 161 #[c.v] h R:=calls_of_fnC (Checked.mixed Tryz.checked) Tryz.func161 comp161 (Nat.le_of_ble_eq_true rfl) (Eq.mp (by kernel_rfl) hv)
def loops90:List (List (Nat×Shp)):=[]
noncomputable def code90:SCode:=((compF Tryz.prog Tryz.f90 loops90).elim .skip fun x=>x.2.2)
def ret90:List RV:=[.tmp 4]
theorem comp90:compF Tryz.prog Tryz.f90 loops90=some (9,ret90,code90):=by kernel_rfl
def VC90 (P:Program) (sA:Option Addr) (sN sC:Nat) (f:Value) (R:Value->Heap->Prop) (h:Heap):Prop:=
 CallsH P 130 #[.slice sA sN sC,f] h fun v h_=>
 ∃ (t:Int),v=(.int .i64 t)/\PIf ((0:Int)≤t)
 (R (.bool true) h_)
 (R (.bool false) h_)
theorem run90 (sA:Option Addr) (sN sC:Nat) (f:Value) (R:Value->Heap->Prop) (h:Heap) (hv:VC90 Tryz.prog sA sN sC f R h):CallsH Tryz.prog 90 #[.slice sA sN sC,f] h R:=calls_of_fnC (Checked.mixed Tryz.checked) Tryz.func90 comp90 (Nat.le_of_ble_eq_true rfl) (Eq.mp (by kernel_rfl) hv)
def loops130:List (List (Nat×Shp)):=[[(8,.int .i64)]]
noncomputable def code130:SCode:=((compF Tryz.prog Tryz.f130 loops130).elim .skip fun x=>x.2.2)
def ret130:List RV:=[.tmp 4]
theorem comp130:compF Tryz.prog Tryz.f130 loops130=some (19,ret130,code130):=by kernel_rfl
def J130_1  (P:Program) (R:Value->Heap->Prop) (sA:(Option Addr)) (sN:Nat) (f:Value) (t:Int) (next_:(Int->Heap->Prop)) (h_1:Heap):Prop:=
 0≤t/\t<(sN:Nat)/\AtP sA fun ad=>∃ (t1:Int),cellH h_1 (Addr.add ad (Int.toNat t*1))=some (.int .i64 t1)/\CallV P f [.int .i64 t1] h_1 fun v h_2=>
 ∃ (t2:Bool),v=(.bool t2)/\BIf t2 (R (.int .i64 t) h_2) (next_ (IntKind.wrap .i64 (t+1)) h_2)
def J130_0  (R:Value->Heap->Prop) (h_3:Heap):Prop:=
 R (.int .i64 (-1)) h_3
def B130_3 (P:Program) (R:Value->Heap->Prop) (sA:(Option Addr)) (sN:Nat) (f:Value) (t:Int) (h_:Heap) (next_:Int->Heap->Prop):Prop:=
 PIf (t<((sN:Nat):Int))
 (J130_1 P R sA sN f t next_ h_)
 (J130_0 R h_)
def VC130 (P:Program) (sA:Option Addr) (sN sC:Nat) (f:Value) (R:Value->Heap->Prop) (h:Heap):Prop:=
 LoopT (σ:=Int) (fun st_ h_st nx_st=>B130_3 P R sA sN f (st_) h_st nx_st) (0) h
theorem run130 (sA:Option Addr) (sN sC:Nat) (f:Value) (R:Value->Heap->Prop) (h:Heap) (hv:VC130 Tryz.prog sA sN sC f R h):CallsH Tryz.prog 130 #[.slice sA sN sC,f] h R:=calls_of_fnC (Checked.mixed Tryz.checked) Tryz.func130 comp130 (Nat.le_of_ble_eq_true rfl) (Eq.mp (by kernel_rfl) hv)
end Go.Proofs.YtdpbdjdgdmheiaaGreat
