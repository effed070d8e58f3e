/- Words and facts that the claim's proof leans on. No condition. -/
import Derived.Test.YtobageabpfkpcaaGreatDoorHxV
import Derived.Test.YtobageabpfkpcaaGreatDoorChecked
set_option maxRecDepth 100000
set_option linter.unusedVariables false
namespace Go.Proofs.YtobageabpfkpcaaGreatDoor
open Go.Hx
def loops34:List (List (Nat×Shp)):=[[(22,.int .i64)]]
noncomputable def code34:SCode:=((compF Tryz.prog Tryz.f34 loops34).elim .skip fun x=>x.2.2)
def ret34:List RV:=[.tmp 2,.tmp 3]
theorem comp34:compF Tryz.prog Tryz.f34 loops34=some (36,ret34,code34):=by kernel_rfl
def J34_3  (P:Program) (R:Value->Heap->Prop) (h:Heap) (A1:(Option Addr)) (N1:Nat) (t2:Int) (next_:(Int->Heap->Prop)) (h_4:Heap):Prop:=
 0≤t2/\t2<(N1:Nat)/\AtP A1 fun ad=>∃ (A2:Option Addr) (N2 C2:Nat),cellH h_4 (Addr.add ad (Int.toNat t2*1))=some (.slice A2 N2 C2)/\∃ (t3:Int),cellH h_4 (Addr.add ⟨h.size,0,none⟩ 0)=some (.int .i64 t3)/\CallsH P 57 #[.slice A2 N2 C2,.int .i64 t3] h_4 fun v h_5=>
 ∃ (t4:Int),v=(.int .i64 t4)/\PIf (t4=0)
 (next_ (IntKind.wrap .i64 (t2+1)) h_5)
 (R (.tuple #[.int .i64 t2,.int .i64 t4]) h_5)
def J34_2  (R:Value->Heap->Prop) (h_6:Heap):Prop:=
 R (.tuple #[.int .i64 0,.int .i64 0]) h_6
def B34_5 (P:Program) (R:Value->Heap->Prop) (h:Heap) (A1:(Option Addr)) (N1:Nat) (t2:Int) (h_3:Heap) (next_:Int->Heap->Prop):Prop:=
 PIf (t2<((N1:Nat):Int))
 (J34_3 P R h A1 N1 t2 next_ h_3)
 (J34_2 R h_3)
def J34_1  (P:Program) (R:Value->Heap->Prop) (h h_2:Heap):Prop:=
 ∃ (A1:Option Addr) (N1 C1:Nat),cellH h_2 (Addr.add ⟨h.size,0,none⟩ 1)=some (.slice A1 N1 C1)/\LoopT (σ:=Int) (fun st_ h_st nx_st=>B34_5 P R h A1 N1 (st_) h_st nx_st) (0) h_2
def J34_0  (P:Program) (R:Value->Heap->Prop) (h h_1:Heap):Prop:=
 ∃ (A:Option Addr) (N C:Nat),cellH h_1 (Addr.add ⟨h.size,0,none⟩ 1)=some (.slice A N C)/\PIf ((524288:Int)<((N:Nat):Int))
 (R (.tuple #[.int .i64 0,.int .i64 2]) h_1)
 (J34_1 P R h h_1)
def VC34 (P:Program) (f:Int) (fA:Option Addr) (fN fC:Nat) (R:Value->Heap->Prop) (h:Heap):Prop:=
 let h_:Heap:=(h).push (.cells (Value.cells (.agg #[.int .i64 f,.slice fA fN fC])) 24);∃ (t:Int),cellH h_ (Addr.add ⟨h.size,0,none⟩ 0)=some (.int .i64 t)/\PIf (t<0)
 (R (.tuple #[.int .i64 0,.int .i64 1]) h_)
 (∃ (t1:Int),cellH h_ (Addr.add ⟨h.size,0,none⟩ 0)=some (.int .i64 t1)/\PIf ((262144:Int)<t1)
 (R (.tuple #[.int .i64 0,.int .i64 1]) h_)
 (J34_0 P R h h_))
theorem vc34 (P:Program) (f:Int) (fA:Option Addr) (fN fC:Nat) (R:Value->Heap->Prop) (h:Heap):fnC P ret34 code34 [(.agg #[.int .i64 f,.slice fA fN fC])] h R=VC34 P f fA fN fC R h:=by kernel_rfl
theorem run34 (f:Int) (fA:Option Addr) (fN fC:Nat) (R:Value->Heap->Prop) (h:Heap) (hv:VC34 Tryz.prog f fA fN fC R h):CallsH Tryz.prog 34 #[(.agg #[.int .i64 f,.slice fA fN fC])] h R:=calls_of_fnC (Checked.mixed Tryz.checked) Tryz.func34 comp34 (Nat.le_of_ble_eq_true rfl) (by rw [vc34];exact hv)
def loops57:List (List (Nat×Shp)):=[]
noncomputable def code57:SCode:=((compF Tryz.prog Tryz.f57 loops57).elim .skip fun x=>x.2.2)
def ret57:List RV:=[.tmp 4]
theorem comp57:compF Tryz.prog Tryz.f57 loops57=some (11,ret57,code57):=by kernel_rfl
def J57_0  (P:Program) (R:Value->Heap->Prop) (h:Heap) (lA:(Option Addr)) (lN lC:Nat) (h_1:Heap):Prop:=
 CallsH P 95 #[.slice lA lN lC,(.func (.func 96) #[] #[(.pointer (some ⟨h.size,0,none⟩))])] h_1 fun v h_2=>
 ∃ (t:Bool),v=(.bool t)/\BIf t (R (.int .i64 141) h_2) (R (.int .i64 0) h_2)
def VC57 (P:Program) (lA:Option Addr) (lN lC:Nat) (vars:Int) (R:Value->Heap->Prop) (h:Heap):Prop:=
 let h_:Heap:=(h).push (.cells #[.int .i64 vars] 3);PIf ((16384:Int)<((lN:Nat):Int))
 (R (.int .i64 2) h_)
 (J57_0 P R h lA lN lC h_)
theorem vc57 (P:Program) (lA:Option Addr) (lN lC:Nat) (vars:Int) (R:Value->Heap->Prop) (h:Heap):fnC P ret57 code57 [.slice lA lN lC,.int .i64 vars] h R=VC57 P lA lN lC vars R h:=by kernel_rfl
theorem run57 (lA:Option Addr) (lN lC:Nat) (vars:Int) (R:Value->Heap->Prop) (h:Heap) (hv:VC57 Tryz.prog lA lN lC vars R h):CallsH Tryz.prog 57 #[.slice lA lN lC,.int .i64 vars] h R:=calls_of_fnC (Checked.mixed Tryz.checked) Tryz.func57 comp57 (Nat.le_of_ble_eq_true rfl) (by rw [vc57];exact hv)
def loops96:List (List (Nat×Shp)):=[]
noncomputable def code96:SCode:=((compF Tryz.prog Tryz.f96 loops96).elim .skip fun x=>x.2.2)
def ret96:List RV:=[.tmp 3]
theorem comp96:compF Tryz.prog Tryz.f96 loops96=some (17,ret96,code96):=by kernel_rfl
def VC96 (P:Program) (x:Int) (t:Option Addr) (R:Value->Heap->Prop) (h:Heap):Prop:=
 PIf (x=0)
 (R (.bool true) h)
 (AtP t fun ad=>∃ (t1:Int),cellH h ad=some (.int .i64 t1)/\PIf (x<(IntKind.wrap .i64 (0-t1)))
 (R (.bool true) h)
 (AtP t fun ad1=>∃ (t2:Int),cellH h ad1=some (.int .i64 t2)/\PIf (t2<x)
 (R (.bool true) h)
 (R (.bool false) h)))
theorem vc96 (P:Program) (x:Int) (t:Option Addr) (R:Value->Heap->Prop) (h:Heap):fnC P ret96 code96 [.int .i64 x,.pointer t] h R=VC96 P x t R h:=by kernel_rfl
theorem run96 (x:Int) (t:Option Addr) (R:Value->Heap->Prop) (h:Heap) (hv:VC96 Tryz.prog x t R h):CallsH Tryz.prog 96 #[.int .i64 x,.pointer t] h R:=calls_of_fnC (Checked.mixed Tryz.checked) Tryz.func96 comp96 (Nat.le_of_ble_eq_true rfl) (by rw [vc96];exact hv)
def loops95:List (List (Nat×Shp)):=[]
noncomputable def code95:SCode:=((compF Tryz.prog Tryz.f95 loops95).elim .skip fun x=>x.2.2)
def ret95:List RV:=[.tmp 4]
theorem comp95:compF Tryz.prog Tryz.f95 loops95=some (9,ret95,code95):=by kernel_rfl
def VC95 (P:Program) (sA:Option Addr) (sN sC:Nat) (f:Value) (R:Value->Heap->Prop) (h:Heap):Prop:=
 CallsH P 121 #[.slice sA sN sC,f] h fun v h_=>
 ∃ (t:Int),v=(.int .i64 t)/\PIf ((0:Int)≤t)
 (R (.bool true) h_)
 (R (.bool false) h_)
theorem vc95 (P:Program) (sA:Option Addr) (sN sC:Nat) (f:Value) (R:Value->Heap->Prop) (h:Heap):fnC P ret95 code95 [.slice sA sN sC,f] h R=VC95 P sA sN sC f R h:=by kernel_rfl
theorem run95 (sA:Option Addr) (sN sC:Nat) (f:Value) (R:Value->Heap->Prop) (h:Heap) (hv:VC95 Tryz.prog sA sN sC f R h):CallsH Tryz.prog 95 #[.slice sA sN sC,f] h R:=calls_of_fnC (Checked.mixed Tryz.checked) Tryz.func95 comp95 (Nat.le_of_ble_eq_true rfl) (by rw [vc95];exact hv)
def loops121:List (List (Nat×Shp)):=[[(8,.int .i64)]]
noncomputable def code121:SCode:=((compF Tryz.prog Tryz.f121 loops121).elim .skip fun x=>x.2.2)
def ret121:List RV:=[.tmp 4]
theorem comp121:compF Tryz.prog Tryz.f121 loops121=some (19,ret121,code121):=by kernel_rfl
def J121_1  (P:Program) (R:Value->Heap->Prop) (sA:(Option Addr)) (sN:Nat) (f:Value) (t:Int) (next_:(Int->Heap->Prop)) (h_1:Heap):Prop:=
 0≤t/\t<(sN:Nat)/\AtP sA fun ad=>∃ (t1:Int),cellH h_1 (Addr.add ad (Int.toNat t*1))=some (.int .i64 t1)/\CallV P f [.int .i64 t1] h_1 fun v h_2=>
 ∃ (t2:Bool),v=(.bool t2)/\BIf t2 (R (.int .i64 t) h_2) (next_ (IntKind.wrap .i64 (t+1)) h_2)
def J121_0  (R:Value->Heap->Prop) (h_3:Heap):Prop:=
 R (.int .i64 (-1)) h_3
def B121_3 (P:Program) (R:Value->Heap->Prop) (sA:(Option Addr)) (sN:Nat) (f:Value) (t:Int) (h_:Heap) (next_:Int->Heap->Prop):Prop:=
 PIf (t<((sN:Nat):Int))
 (J121_1 P R sA sN f t next_ h_)
 (J121_0 R h_)
def VC121 (P:Program) (sA:Option Addr) (sN sC:Nat) (f:Value) (R:Value->Heap->Prop) (h:Heap):Prop:=
 LoopT (σ:=Int) (fun st_ h_st nx_st=>B121_3 P R sA sN f (st_) h_st nx_st) (0) h
theorem vc121 (P:Program) (sA:Option Addr) (sN sC:Nat) (f:Value) (R:Value->Heap->Prop) (h:Heap):fnC P ret121 code121 [.slice sA sN sC,f] h R=VC121 P sA sN sC f R h:=by kernel_rfl
theorem run121 (sA:Option Addr) (sN sC:Nat) (f:Value) (R:Value->Heap->Prop) (h:Heap) (hv:VC121 Tryz.prog sA sN sC f R h):CallsH Tryz.prog 121 #[.slice sA sN sC,f] h R:=calls_of_fnC (Checked.mixed Tryz.checked) Tryz.func121 comp121 (Nat.le_of_ble_eq_true rfl) (by rw [vc121];exact hv)
end Go.Proofs.YtobageabpfkpcaaGreatDoor
