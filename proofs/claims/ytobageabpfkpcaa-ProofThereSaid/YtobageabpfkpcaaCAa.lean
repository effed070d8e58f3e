/- Words and facts that the claim's proof leans on. No condition. -/
import Derived.Test.YtobageabpfkpcaaHxV
import Derived.Test.YtobageabpfkpcaaChecked
set_option maxRecDepth 100000
set_option linter.unusedVariables false
namespace Go.Proofs.Ytobageabpfkpcaa
open Go.Hx
def loops17:List (List (Nat×Shp)):=[[(22,.int .i64)]]
noncomputable def code17:SCode:=((compF Try.prog Try.f17 loops17).elim .skip fun x=>x.2.2)
def ret17:List RV:=[.tmp 2,.tmp 3]
theorem comp17:compF Try.prog Try.f17 loops17=some (36,ret17,code17):=by kernel_rfl
def J17_3  (P:Program) (R:Value->Heap->Prop) (h:Heap) (A1:(Option Addr)) (N1:Nat) (t2:Int) (next_:(Int->Heap->Prop)) (h_4:Heap):Prop:=
 0≤t2/\t2<(N1:Nat)/\AtP A1 fun ad=>∃ (A2:Option Addr) (N2 C2:Nat),cellH h_4 (Addr.add ad (Int.toNat t2*1))=some (.slice A2 N2 C2)/\∃ (t3:Int),cellH h_4 (Addr.add ⟨h.size,0,none⟩ 0)=some (.int .i64 t3)/\CallsH P 30 #[.slice A2 N2 C2,.int .i64 t3] h_4 fun v h_5=>
 ∃ (t4:Int),v=(.int .i64 t4)/\PIf (t4=0)
 (next_ (IntKind.wrap .i64 (t2+1)) h_5)
 (R (.tuple #[.int .i64 t2,.int .i64 t4]) h_5)
def J17_2  (R:Value->Heap->Prop) (h_6:Heap):Prop:=
 R (.tuple #[.int .i64 0,.int .i64 0]) h_6
def B17_5 (P:Program) (R:Value->Heap->Prop) (h:Heap) (A1:(Option Addr)) (N1:Nat) (t2:Int) (h_3:Heap) (next_:Int->Heap->Prop):Prop:=
 PIf (t2<((N1:Nat):Int))
 (J17_3 P R h A1 N1 t2 next_ h_3)
 (J17_2 R h_3)
def J17_1  (P:Program) (R:Value->Heap->Prop) (h h_2:Heap):Prop:=
 ∃ (A1:Option Addr) (N1 C1:Nat),cellH h_2 (Addr.add ⟨h.size,0,none⟩ 1)=some (.slice A1 N1 C1)/\LoopT (σ:=Int) (fun st_ h_st nx_st=>B17_5 P R h A1 N1 (st_) h_st nx_st) (0) h_2
def J17_0  (P:Program) (R:Value->Heap->Prop) (h h_1:Heap):Prop:=
 ∃ (A:Option Addr) (N C:Nat),cellH h_1 (Addr.add ⟨h.size,0,none⟩ 1)=some (.slice A N C)/\PIf ((524288:Int)<((N:Nat):Int))
 (R (.tuple #[.int .i64 0,.int .i64 2]) h_1)
 (J17_1 P R h h_1)
def VC17 (P:Program) (f:Int) (fA:Option Addr) (fN fC:Nat) (R:Value->Heap->Prop) (h:Heap):Prop:=
 let h_:Heap:=(h).push (.cells (Value.cells (.agg #[.int .i64 f,.slice fA fN fC])) 24);∃ (t:Int),cellH h_ (Addr.add ⟨h.size,0,none⟩ 0)=some (.int .i64 t)/\PIf (t<0)
 (R (.tuple #[.int .i64 0,.int .i64 1]) h_)
 (∃ (t1:Int),cellH h_ (Addr.add ⟨h.size,0,none⟩ 0)=some (.int .i64 t1)/\PIf ((262144:Int)<t1)
 (R (.tuple #[.int .i64 0,.int .i64 1]) h_)
 (J17_0 P R h h_))
theorem vc17 (P:Program) (f:Int) (fA:Option Addr) (fN fC:Nat) (R:Value->Heap->Prop) (h:Heap):fnC P ret17 code17 [(.agg #[.int .i64 f,.slice fA fN fC])] h R=VC17 P f fA fN fC R h:=by kernel_rfl
theorem run17 (f:Int) (fA:Option Addr) (fN fC:Nat) (R:Value->Heap->Prop) (h:Heap) (hv:VC17 Try.prog f fA fN fC R h):CallsH Try.prog 17 #[(.agg #[.int .i64 f,.slice fA fN fC])] h R:=calls_of_fnC (Checked.mixed Try.checked) Try.func17 comp17 (Nat.le_of_ble_eq_true rfl) (by rw [vc17];exact hv)
def loops30:List (List (Nat×Shp)):=[]
noncomputable def code30:SCode:=((compF Try.prog Try.f30 loops30).elim .skip fun x=>x.2.2)
def ret30:List RV:=[.tmp 4]
theorem comp30:compF Try.prog Try.f30 loops30=some (11,ret30,code30):=by kernel_rfl
def J30_0  (P:Program) (R:Value->Heap->Prop) (h:Heap) (lA:(Option Addr)) (lN lC:Nat) (h_1:Heap):Prop:=
 CallsH P 41 #[.slice lA lN lC,(.func (.func 42) #[] #[(.pointer (some ⟨h.size,0,none⟩))])] h_1 fun v h_2=>
 ∃ (t:Bool),v=(.bool t)/\BIf t (R (.int .i64 141) h_2) (R (.int .i64 0) h_2)
def VC30 (P:Program) (lA:Option Addr) (lN lC:Nat) (vars:Int) (R:Value->Heap->Prop) (h:Heap):Prop:=
 let h_:Heap:=(h).push (.cells #[.int .i64 vars] 3);PIf ((16384:Int)<((lN:Nat):Int))
 (R (.int .i64 2) h_)
 (J30_0 P R h lA lN lC h_)
theorem vc30 (P:Program) (lA:Option Addr) (lN lC:Nat) (vars:Int) (R:Value->Heap->Prop) (h:Heap):fnC P ret30 code30 [.slice lA lN lC,.int .i64 vars] h R=VC30 P lA lN lC vars R h:=by kernel_rfl
theorem run30 (lA:Option Addr) (lN lC:Nat) (vars:Int) (R:Value->Heap->Prop) (h:Heap) (hv:VC30 Try.prog lA lN lC vars R h):CallsH Try.prog 30 #[.slice lA lN lC,.int .i64 vars] h R:=calls_of_fnC (Checked.mixed Try.checked) Try.func30 comp30 (Nat.le_of_ble_eq_true rfl) (by rw [vc30];exact hv)
def loops42:List (List (Nat×Shp)):=[]
noncomputable def code42:SCode:=((compF Try.prog Try.f42 loops42).elim .skip fun x=>x.2.2)
def ret42:List RV:=[.tmp 3]
theorem comp42:compF Try.prog Try.f42 loops42=some (17,ret42,code42):=by kernel_rfl
def VC42 (P:Program) (x:Int) (t:Option Addr) (R:Value->Heap->Prop) (h:Heap):Prop:=
 PIf (x=0)
 (R (.bool true) h)
 (AtP t fun ad=>∃ (t1:Int),cellH h ad=some (.int .i64 t1)/\PIf (x<(IntKind.wrap .i64 (0-t1)))
 (R (.bool true) h)
 (AtP t fun ad1=>∃ (t2:Int),cellH h ad1=some (.int .i64 t2)/\PIf (t2<x)
 (R (.bool true) h)
 (R (.bool false) h)))
theorem vc42 (P:Program) (x:Int) (t:Option Addr) (R:Value->Heap->Prop) (h:Heap):fnC P ret42 code42 [.int .i64 x,.pointer t] h R=VC42 P x t R h:=by kernel_rfl
theorem run42 (x:Int) (t:Option Addr) (R:Value->Heap->Prop) (h:Heap) (hv:VC42 Try.prog x t R h):CallsH Try.prog 42 #[.int .i64 x,.pointer t] h R:=calls_of_fnC (Checked.mixed Try.checked) Try.func42 comp42 (Nat.le_of_ble_eq_true rfl) (by rw [vc42];exact hv)
def loops41:List (List (Nat×Shp)):=[]
noncomputable def code41:SCode:=((compF Try.prog Try.f41 loops41).elim .skip fun x=>x.2.2)
def ret41:List RV:=[.tmp 4]
theorem comp41:compF Try.prog Try.f41 loops41=some (9,ret41,code41):=by kernel_rfl
def VC41 (P:Program) (sA:Option Addr) (sN sC:Nat) (f:Value) (R:Value->Heap->Prop) (h:Heap):Prop:=
 CallsH P 58 #[.slice sA sN sC,f] h fun v h_=>
 ∃ (t:Int),v=(.int .i64 t)/\PIf ((0:Int)≤t)
 (R (.bool true) h_)
 (R (.bool false) h_)
theorem vc41 (P:Program) (sA:Option Addr) (sN sC:Nat) (f:Value) (R:Value->Heap->Prop) (h:Heap):fnC P ret41 code41 [.slice sA sN sC,f] h R=VC41 P sA sN sC f R h:=by kernel_rfl
theorem run41 (sA:Option Addr) (sN sC:Nat) (f:Value) (R:Value->Heap->Prop) (h:Heap) (hv:VC41 Try.prog sA sN sC f R h):CallsH Try.prog 41 #[.slice sA sN sC,f] h R:=calls_of_fnC (Checked.mixed Try.checked) Try.func41 comp41 (Nat.le_of_ble_eq_true rfl) (by rw [vc41];exact hv)
def loops58:List (List (Nat×Shp)):=[[(8,.int .i64)]]
noncomputable def code58:SCode:=((compF Try.prog Try.f58 loops58).elim .skip fun x=>x.2.2)
def ret58:List RV:=[.tmp 4]
theorem comp58:compF Try.prog Try.f58 loops58=some (19,ret58,code58):=by kernel_rfl
def J58_1  (P:Program) (R:Value->Heap->Prop) (sA:(Option Addr)) (sN:Nat) (f:Value) (t:Int) (next_:(Int->Heap->Prop)) (h_1:Heap):Prop:=
 0≤t/\t<(sN:Nat)/\AtP sA fun ad=>∃ (t1:Int),cellH h_1 (Addr.add ad (Int.toNat t*1))=some (.int .i64 t1)/\CallV P f [.int .i64 t1] h_1 fun v h_2=>
 ∃ (t2:Bool),v=(.bool t2)/\BIf t2 (R (.int .i64 t) h_2) (next_ (IntKind.wrap .i64 (t+1)) h_2)
def J58_0  (R:Value->Heap->Prop) (h_3:Heap):Prop:=
 R (.int .i64 (-1)) h_3
def B58_3 (P:Program) (R:Value->Heap->Prop) (sA:(Option Addr)) (sN:Nat) (f:Value) (t:Int) (h_:Heap) (next_:Int->Heap->Prop):Prop:=
 PIf (t<((sN:Nat):Int))
 (J58_1 P R sA sN f t next_ h_)
 (J58_0 R h_)
def VC58 (P:Program) (sA:Option Addr) (sN sC:Nat) (f:Value) (R:Value->Heap->Prop) (h:Heap):Prop:=
 LoopT (σ:=Int) (fun st_ h_st nx_st=>B58_3 P R sA sN f (st_) h_st nx_st) (0) h
theorem vc58 (P:Program) (sA:Option Addr) (sN sC:Nat) (f:Value) (R:Value->Heap->Prop) (h:Heap):fnC P ret58 code58 [.slice sA sN sC,f] h R=VC58 P sA sN sC f R h:=by kernel_rfl
theorem run58 (sA:Option Addr) (sN sC:Nat) (f:Value) (R:Value->Heap->Prop) (h:Heap) (hv:VC58 Try.prog sA sN sC f R h):CallsH Try.prog 58 #[.slice sA sN sC,f] h R:=calls_of_fnC (Checked.mixed Try.checked) Try.func58 comp58 (Nat.le_of_ble_eq_true rfl) (by rw [vc58];exact hv)
end Go.Proofs.Ytobageabpfkpcaa
