/- Words and facts that the claim's proof leans on. No condition. -/
import Derived.Test.YtobageabpfkpcaaGreatDoorHxV
import Derived.Test.YtobageabpfkpcaaGreatDoorChecked
set_option maxRecDepth 100000
set_option linter.unusedVariables false
namespace Go.Proofs.YtobageabpfkpcaaGreatDoor
open Go.Hx
def loops34:List (List (Nat×Shp)):=[[(22,.int .i64)]]
noncomputable def code34:SCode:=((compF Tryz.prog Tryz.f34 loops34).elim .skip fun x=>x.2.2)
def ret34:List RV:=[.tmp 2,.tmp 3]
theorem comp34:compF Tryz.prog Tryz.f34 loops34=some (36,ret34,code34):=by kernel_rfl
def J34_3  (P:Program) (R:Value->Heap->Prop) (h:Heap) (A1:(Option Addr)) (N1:Nat) (t2:Int) (next_:(Int->Heap->Prop)) (h_4:Heap):Prop:=
 0≤t2/\t2<(N1:Nat)/\AtP A1 fun ad=>∃ (A2:Option Addr) (N2 C2:Nat),cellH h_4 (Addr.add ad (Int.toNat t2*1))=some (.slice A2 N2 C2)/\∃ (t3:Int),cellH h_4 (Addr.add ⟨h.size,0,none⟩ 0)=some (.int .i64 t3)/\CallsH P 57 #[.slice A2 N2 C2,.int .i64 t3] h_4 fun v h_5=>
 ∃ (t4:Int),v=(.int .i64 t4)/\PIf (t4=0)
 (next_ (IntKind.wrap .i64 (t2+1)) h_5)
 (R (.tuple #[.int .i64 t2,.int .i64 t4]) h_5)
def J34_2  (R:Value->Heap->Prop) (h_6:Heap):Prop:=
 R (.tuple #[.int .i64 0,.int .i64 0]) h_6
def B34_5 (P:Program) (R:Value->Heap->Prop) (h:Heap) (A1:(Option Addr)) (N1:Nat) (t2:Int) (h_3:Heap) (next_:Int->Heap->Prop):Prop:=
 PIf (t2<((N1:Nat):Int))
 (J34_3 P R h A1 N1 t2 next_ h_3)
 (J34_2 R h_3)
def J34_1  (P:Program) (R:Value->Heap->Prop) (h h_2:Heap):Prop:=
 ∃ (A1:Option Addr) (N1 C1:Nat),cellH h_2 (Addr.add ⟨h.size,0,none⟩ 1)=some (.slice A1 N1 C1)/\LoopT (σ:=Int) (fun st_ h_st nx_st=>B34_5 P R h A1 N1 (st_) h_st nx_st) (0) h_2
def J34_0  (P:Program) (R:Value->Heap->Prop) (h h_1:Heap):Prop:=
 ∃ (A:Option Addr) (N C:Nat),cellH h_1 (Addr.add ⟨h.size,0,none⟩ 1)=some (.slice A N C)/\PIf ((524288:Int)<((N:Nat):Int))
 (R (.tuple #[.int .i64 0,.int .i64 2]) h_1)
 (J34_1 P R h h_1)
def VC34 (P:Program) (f:Int) (fA:Option Addr) (fN fC:Nat) (R:Value->Heap->Prop) (h:Heap):Prop:=
 let h_:Heap:=(h).push (.cells (Value.cells (.agg #[.int .i64 f,.slice fA fN fC])) 24);∃ (t:Int),cellH h_ (Addr.add ⟨h.size,0,none⟩ 0)=some (.int .i64 t)/\PIf (t<0)
 (R (.tuple #[.int .i64 0,.int .i64 1]) h_)
 (∃ (t1:Int),cellH h_ (Addr.add ⟨h.size,0,none⟩ 0)=some (.int .i64 t1)/\PIf ((262144:Int)<t1)
 (R (.tuple #[.int .i64 0,.int .i64 1]) h_)
 (J34_0 P R h h_))
theorem vc34 (P:Program) (f:Int) (fA:Option Addr) (fN fC:Nat) (R:Value->Heap->Prop) (h:Heap):fnC P ret34 code34 [(.agg #[.int .i64 f,.slice fA fN fC])] h R=VC34 P f fA fN fC R h:=by kernel_rfl
theorem run34 (f:Int) (fA:Option Addr) (fN fC:Nat) (R:Value->Heap->Prop) (h:Heap) (hv:VC34 Tryz.prog f fA fN fC R h):CallsH Tryz.prog 34 #[(.agg #[.int .i64 f,.slice fA fN fC])] h R:=calls_of_fnC (Checked.mixed Tryz.checked) Tryz.func34 comp34 (Nat.le_of_ble_eq_true rfl) (by rw [vc34];exact hv)
def loops57:List (List (Nat×Shp)):=[]
noncomputable def code57:SCode:=((compF Tryz.prog Tryz.f57 loops57).elim .skip fun x=>x.2.2)
def ret57:List RV:=[.tmp 4]
theorem comp57:compF Tryz.prog Tryz.f57 loops57=some (11,ret57,code57):=by kernel_rfl
def J57_0  (P:Program) (R:Value->Heap->Prop) (h:Heap) (lA:(Option Addr)) (lN lC:Nat) (h_1:Heap):Prop:=
 CallsH P 95 #[.slice lA lN lC,(.func (.func 96) #[] #[(.pointer (some ⟨h.size,0,none⟩))])] h_1 fun v h_2=>
 ∃ (t:Bool),v=(.bool t)/\BIf t (R (.int .i64 141) h_2) (R (.int .i64 0) h_2)
def VC57 (P:Program) (lA:Option Addr) (lN lC:Nat) (vars:Int) (R:Value->Heap->Prop) (h:Heap):Prop:=
 let h_:Heap:=(h).push (.cells #[.int .i64 vars] 3);PIf ((16384:Int)<((lN:Nat):Int))
 (R (.int .i64 2) h_)
 (J57_0 P R h lA lN lC h_)
theorem vc57 (P:Program) (lA:Option Addr) (lN lC:Nat) (vars:Int) (R:Value->Heap->Prop) (h:Heap):fnC P ret57 code57 [.slice lA lN lC,.int .i64 vars] h R=VC57 P lA lN lC vars R h:=by kernel_rfl
theorem run57 (lA:Option Addr) (lN lC:Nat) (vars:Int) (R:Value->Heap->Prop) (h:Heap) (hv:VC57 Tryz.prog lA lN lC vars R h):CallsH Tryz.prog 57 #[.slice lA lN lC,.int .i64 vars] h R:=calls_of_fnC (Checked.mixed Tryz.checked) Tryz.func57 comp57 (Nat.le_of_ble_eq_true rfl) (by rw [vc57];exact hv)
def loops96:List (List (Nat×Shp)):=[]
noncomputable def code96:SCode:=((compF Tryz.prog Tryz.f96 loops96).elim .skip fun x=>x.2.2)
def ret96:List RV:=[.tmp 3]
theorem comp96:compF Tryz.prog Tryz.f96 loops96=some (17,ret96,code96):=by kernel_rfl
def VC96 (P:Program) (x:Int) (t:Option Addr) (R:Value->Heap->Prop) (h:Heap):Prop:=
 PIf (x=0)
 (R (.bool true) h)
 (AtP t fun ad=>∃ (t1:Int),cellH h ad=some (.int .i64 t1)/\PIf (x<(IntKind.wrap .i64 (0-t1)))
 (R (.bool true) h)
 (AtP t fun ad1=>∃ (t2:Int),cellH h ad1=some (.int .i64 t2)/\PIf (t2<x)
 (R (.bool true) h)
 (R (.bool false) h)))
theorem vc96 (P:Program) (x:Int) (t:Option Addr) (R:Value->Heap->Prop) (h:Heap):fnC P ret96 code96 [.int .i64 x,.pointer t] h R=VC96 P x t R h:=by kernel_rfl
theorem run96 (x:Int) (t:Option Addr) (R:Value->Heap->Prop) (h:Heap) (hv:VC96 Tryz.prog x t R h):CallsH Tryz.prog 96 #[.int .i64 x,.pointer t] h R:=calls_of_fnC (Checked.mixed Tryz.checked) Tryz.func96 comp96 (Nat.le_of_ble_eq_true rfl) (by rw [vc96];exact hv)
def loops95:List (List (Nat×Shp)):=[]
noncomputable def code95:SCode:=((compF Tryz.prog Tryz.f95 loops95).elim .skip fun x=>x.2.2)
def ret95:List RV:=[.tmp 4]
theorem comp95:compF Tryz.prog Tryz.f95 loops95=some (9,ret95,code95):=by kernel_rfl
def VC95 (P:Program) (sA:Option Addr) (sN sC:Nat) (f:Value) (R:Value->Heap->Prop) (h:Heap):Prop:=
 CallsH P 121 #[.slice sA sN sC,f] h fun v h_=>
 ∃ (t:Int),v=(.int .i64 t)/\PIf ((0:Int)≤t)
 (R (.bool true) h_)
 (R (.bool false) h_)
theorem vc95 (P:Program) (sA:Option Addr) (sN sC:Nat) (f:Value) (R:Value->Heap->Prop) (h:Heap):fnC P ret95 code95 [.slice sA sN sC,f] h R=VC95 P sA sN sC f R h:=by kernel_rfl
theorem run95 (sA:Option Addr) (sN sC:Nat) (f:Value) (R:Value->Heap->Prop) (h:Heap) (hv:VC95 Tryz.prog sA sN sC f R h):CallsH Tryz.prog 95 #[.slice sA sN sC,f] h R:=calls_of_fnC (Checked.mixed Tryz.checked) Tryz.func95 comp95 (Nat.le_of_ble_eq_true rfl) (by rw [vc95];exact hv)
def loops121:List (List (Nat×Shp)):=[[(8,.int .i64)]]
noncomputable def code121:SCode:=((compF Tryz.prog Tryz.f121 loops121).elim .skip fun x=>x.2.2)
def ret121:List RV:=[.tmp 4]
theorem comp121:compF Tryz.prog Tryz.f121 loops121=some (19,ret121,code121):=by kernel_rfl
def J121_1  (P:Program) (R:Value->Heap->Prop) (sA:(Option Addr)) (sN:Nat) (f:Value) (t:Int) (next_:(Int->Heap->Prop)) (h_1:Heap):Prop:=
 0≤t/\t<(sN:Nat)/\AtP sA fun ad=>∃ (t1:Int),cellH h_1 (Addr.add ad (Int.toNat t*1))=some (.int .i64 t1)/\CallV P f [.int .i64 t1] h_1 fun v h_2=>
 ∃ (t2:Bool),v=(.bool t2)/\BIf t2 (R (.int .i64 t) h_2) (next_ (IntKind.wrap .i64 (t+1)) h_2)
def J121_0  (R:Value->Heap->Prop) (h_3:Heap):Prop:=
 R (.int .i64 (-1)) h_3
def B121_3 (P:Program) (R:Value->Heap->Prop) (sA:(Option Addr)) (sN:Nat) (f:Value) (t:Int) (h_:Heap) (next_:Int->Heap->Prop):Prop:=
 PIf (t<((sN:Nat):Int))
 (J121_1 P R sA sN f t next_ h_)
 (J121_0 R h_)
def VC121 (P:Program) (sA:Option Addr) (sN sC:Nat) (f:Value) (R:Value->Heap->Prop) (h:Heap):Prop:=
 LoopT (σ:=Int) (fun st_ h_st nx_st=>B121_3 P R sA sN f (st_) h_st nx_st) (0) h
theorem vc121 (P:Program) (sA:Option Addr) (sN sC:Nat) (f:Value) (R:Value->Heap->Prop) (h:Heap):fnC P ret121 code121 [.slice sA sN sC,f] h R=VC121 P sA sN sC f R h:=by kernel_rfl
theorem run121 (sA:Option Addr) (sN sC:Nat) (f:Value) (R:Value->Heap->Prop) (h:Heap) (hv:VC121 Tryz.prog sA sN sC f R h):CallsH Tryz.prog 121 #[.slice sA sN sC,f] h R:=calls_of_fnC (Checked.mixed Tryz.checked) Tryz.func121 comp121 (Nat.le_of_ble_eq_true rfl) (by rw [vc121];exact hv)
def loops35:List (List (Nat×Shp)):=[[(4,.int .i64)]]
noncomputable def code35:SCode:=((compF Tryz.prog Tryz.f35 loops35).elim .skip fun x=>x.2.2)
def ret35:List RV:=[.tmp 2,.tmp 3]
theorem comp35:compF Tryz.prog Tryz.f35 loops35=some (37,ret35,code35):=by kernel_rfl
def J35_3  (P:Program) (R:Value->Heap->Prop) (h:Heap) (i:Int) (next_:(Int->Heap->Prop)) (h_4:Heap):Prop:=
 ∃ (A2:Option Addr) (N2 C2:Nat),cellH h_4 (Addr.add ⟨h.size,0,none⟩ 1)=some (.slice A2 N2 C2)/\0≤i/\i<(N2:Nat)/\AtP A2 fun ad=>∃ (A3:Option Addr) (N3 C3:Nat),cellH h_4 (Addr.add ad (Int.toNat i*1))=some (.slice A3 N3 C3)/\∃ (t2:Int),cellH h_4 (Addr.add ⟨h.size,0,none⟩ 0)=some (.int .i64 t2)/\CallsH P 61 #[.slice A3 N3 C3,.int .i64 t2] h_4 fun v h_5=>
 ∃ (t3:Int),v=(.int .i64 t3)/\PIf (t3=0)
 (next_ (IntKind.wrap .i64 (i+1)) h_5)
 (R (.tuple #[.int .i64 i,.int .i64 t3]) h_5)
def J35_2  (R:Value->Heap->Prop) (h_6:Heap):Prop:=
 R (.tuple #[.int .i64 0,.int .i64 0]) h_6
def B35_4 (P:Program) (R:Value->Heap->Prop) (h:Heap) (i:Int) (h_3:Heap) (next_:Int->Heap->Prop):Prop:=
 ∃ (A1:Option Addr) (N1 C1:Nat),cellH h_3 (Addr.add ⟨h.size,0,none⟩ 1)=some (.slice A1 N1 C1)/\PIf (i<((N1:Nat):Int))
 (J35_3 P R h i next_ h_3)
 (J35_2 R h_3)
def J35_1  (P:Program) (R:Value->Heap->Prop) (h h_2:Heap):Prop:=
 LoopT (σ:=Int) (fun st_ h_st nx_st=>B35_4 P R h (st_) h_st nx_st) (0) h_2
def J35_0  (P:Program) (R:Value->Heap->Prop) (h h_1:Heap):Prop:=
 ∃ (A:Option Addr) (N C:Nat),cellH h_1 (Addr.add ⟨h.size,0,none⟩ 1)=some (.slice A N C)/\PIf ((524288:Int)<((N:Nat):Int))
 (R (.tuple #[.int .i64 0,.int .i64 2]) h_1)
 (J35_1 P R h h_1)
def VC35 (P:Program) (f:Int) (fA:Option Addr) (fN fC:Nat) (R:Value->Heap->Prop) (h:Heap):Prop:=
 let h_:Heap:=(h).push (.cells (Value.cells (.agg #[.int .i64 f,.slice fA fN fC])) 24);∃ (t:Int),cellH h_ (Addr.add ⟨h.size,0,none⟩ 0)=some (.int .i64 t)/\PIf (t<0)
 (R (.tuple #[.int .i64 0,.int .i64 1]) h_)
 (∃ (t1:Int),cellH h_ (Addr.add ⟨h.size,0,none⟩ 0)=some (.int .i64 t1)/\PIf ((262144:Int)<t1)
 (R (.tuple #[.int .i64 0,.int .i64 1]) h_)
 (J35_0 P R h h_))
theorem vc35 (P:Program) (f:Int) (fA:Option Addr) (fN fC:Nat) (R:Value->Heap->Prop) (h:Heap):fnC P ret35 code35 [(.agg #[.int .i64 f,.slice fA fN fC])] h R=VC35 P f fA fN fC R h:=by kernel_rfl
theorem run35 (f:Int) (fA:Option Addr) (fN fC:Nat) (R:Value->Heap->Prop) (h:Heap) (hv:VC35 Tryz.prog f fA fN fC R h):CallsH Tryz.prog 35 #[(.agg #[.int .i64 f,.slice fA fN fC])] h R:=calls_of_fnC (Checked.mixed Tryz.checked) Tryz.func35 comp35 (Nat.le_of_ble_eq_true rfl) (by rw [vc35];exact hv)
def loops61:List (List (Nat×Shp)):=[[(5,.int .i64)]]
noncomputable def code61:SCode:=((compF Tryz.prog Tryz.f61 loops61).elim .skip fun x=>x.2.2)
def ret61:List RV:=[.tmp 4]
theorem comp61:compF Tryz.prog Tryz.f61 loops61=some (37,ret61,code61):=by kernel_rfl
def J61_2  (R:Value->Heap->Prop) (cA:(Option Addr)) (cN:Nat) (vars i:Int) (next_:(Int->Heap->Prop)) (h_2:Heap):Prop:=
 0≤i/\i<(cN:Nat)/\AtP cA fun ad=>∃ (t:Int),cellH h_2 (Addr.add ad (Int.toNat i*1))=some (.int .i64 t)/\PIf (t=0)
 (R (.int .i64 141) h_2)
 (0≤i/\i<(cN:Nat)/\AtP cA fun ad1=>∃ (t1:Int),cellH h_2 (Addr.add ad1 (Int.toNat i*1))=some (.int .i64 t1)/\PIf (vars<t1)
 (R (.int .i64 141) h_2)
 (0≤i/\i<(cN:Nat)/\AtP cA fun ad2=>∃ (t2:Int),cellH h_2 (Addr.add ad2 (Int.toNat i*1))=some (.int .i64 t2)/\PIf (t2<(IntKind.wrap .i64 (0-vars)))
 (R (.int .i64 141) h_2)
 (next_ (IntKind.wrap .i64 (i+1)) h_2)))
def J61_1  (R:Value->Heap->Prop) (h_3:Heap):Prop:=
 R (.int .i64 0) h_3
def B61_3 (R:Value->Heap->Prop) (cA:(Option Addr)) (cN:Nat) (vars i:Int) (h_1:Heap) (next_:Int->Heap->Prop):Prop:=
 PIf (i<((cN:Nat):Int))
 (J61_2 R cA cN vars i next_ h_1)
 (J61_1 R h_1)
def J61_0  (R:Value->Heap->Prop) (cA:(Option Addr)) (cN:Nat) (vars:Int) (h_:Heap):Prop:=
 LoopT (σ:=Int) (fun st_ h_st nx_st=>B61_3 R cA cN vars (st_) h_st nx_st) (0) h_
def VC61 (P:Program) (cA:Option Addr) (cN cC:Nat) (vars:Int) (R:Value->Heap->Prop) (h:Heap):Prop:=
 PIf ((16384:Int)<((cN:Nat):Int))
 (R (.int .i64 2) h)
 (J61_0 R cA cN vars h)
theorem vc61 (P:Program) (cA:Option Addr) (cN cC:Nat) (vars:Int) (R:Value->Heap->Prop) (h:Heap):fnC P ret61 code61 [.slice cA cN cC,.int .i64 vars] h R=VC61 P cA cN cC vars R h:=by kernel_rfl
theorem run61 (cA:Option Addr) (cN cC:Nat) (vars:Int) (R:Value->Heap->Prop) (h:Heap) (hv:VC61 Tryz.prog cA cN cC vars R h):CallsH Tryz.prog 61 #[.slice cA cN cC,.int .i64 vars] h R:=calls_of_fnC (Checked.mixed Tryz.checked) Tryz.func61 comp61 (Nat.le_of_ble_eq_true rfl) (by rw [vc61];exact hv)
def loops14:List (List (Nat×Shp)):=[]
noncomputable def code14:SCode:=((compF Tryz.prog Tryz.f14 loops14).elim .skip fun x=>x.2.2)
def ret14:List RV:=[.tmp 4]
theorem comp14:compF Tryz.prog Tryz.f14 loops14=some (17,ret14,code14):=by kernel_rfl
def VC14 (P:Program) (a:Int) (aA:Option Addr) (aN aC:Nat) (b:Int) (bA:Option Addr) (bN bC:Nat) (R:Value->Heap->Prop) (h:Heap):Prop:=
 let h_:Heap:=(h).push (.cells (Value.cells (.agg #[.int .i64 a,.slice aA aN aC])) 24);let h_1:Heap:=(h_).push (.cells (Value.cells (.agg #[.int .i64 b,.slice bA bN bC])) 24);∃ (t:Int),cellH h_1 (Addr.add ⟨h.size,0,none⟩ 0)=some (.int .i64 t)/\∃ (t1:Int),cellH h_1 (Addr.add ⟨h_.size,0,none⟩ 0)=some (.int .i64 t1)/\PIf (t=t1)
 (∃ (A:Option Addr) (N C:Nat),cellH h_1 (Addr.add ⟨h.size,0,none⟩ 1)=some (.slice A N C)/\∃ (A1:Option Addr) (N1 C1:Nat),cellH h_1 (Addr.add ⟨h_.size,0,none⟩ 1)=some (.slice A1 N1 C1)/\CallsH P 55 #[.slice A N C,.slice A1 N1 C1] h_1 fun v h_2=>
 ∃ (t2:Bool),v=(.bool t2)/\R (.bool t2) h_2)
 (R (.bool false) h_1)
theorem vc14 (P:Program) (a:Int) (aA:Option Addr) (aN aC:Nat) (b:Int) (bA:Option Addr) (bN bC:Nat) (R:Value->Heap->Prop) (h:Heap):fnC P ret14 code14 [(.agg #[.int .i64 a,.slice aA aN aC]),(.agg #[.int .i64 b,.slice bA bN bC])] h R=VC14 P a aA aN aC b bA bN bC R h:=by kernel_rfl
theorem run14 (a:Int) (aA:Option Addr) (aN aC:Nat) (b:Int) (bA:Option Addr) (bN bC:Nat) (R:Value->Heap->Prop) (h:Heap) (hv:VC14 Tryz.prog a aA aN aC b bA bN bC R h):CallsH Tryz.prog 14 #[(.agg #[.int .i64 a,.slice aA aN aC]),(.agg #[.int .i64 b,.slice bA bN bC])] h R:=calls_of_fnC (Checked.mixed Tryz.checked) Tryz.func14 comp14 (Nat.le_of_ble_eq_true rfl) (by rw [vc14];exact hv)
def loops55:List (List (Nat×Shp)):=[[(5,.int .i64)]]
noncomputable def code55:SCode:=((compF Tryz.prog Tryz.f55 loops55).elim .skip fun x=>x.2.2)
def ret55:List RV:=[.tmp 4]
theorem comp55:compF Tryz.prog Tryz.f55 loops55=some (27,ret55,code55):=by kernel_rfl
def J55_2  (P:Program) (R:Value->Heap->Prop) (aA:(Option Addr)) (aN:Nat) (bA:(Option Addr)) (bN:Nat) (i:Int) (next_:(Int->Heap->Prop)) (h_2:Heap):Prop:=
 0≤i/\i<(aN:Nat)/\AtP aA fun ad=>∃ (A:Option Addr) (N C:Nat),cellH h_2 (Addr.add ad (Int.toNat i*1))=some (.slice A N C)/\0≤i/\i<(bN:Nat)/\AtP bA fun ad1=>∃ (A1:Option Addr) (N1 C1:Nat),cellH h_2 (Addr.add ad1 (Int.toNat i*1))=some (.slice A1 N1 C1)/\CallsH P 21 #[.slice A N C,.slice A1 N1 C1] h_2 fun v h_3=>
 ∃ (t:Bool),v=(.bool t)/\BIf (!t) (R (.bool false) h_3) (next_ (IntKind.wrap .i64 (i+1)) h_3)
def J55_1  (R:Value->Heap->Prop) (h_4:Heap):Prop:=
 R (.bool true) h_4
def B55_3 (P:Program) (R:Value->Heap->Prop) (aA:(Option Addr)) (aN:Nat) (bA:(Option Addr)) (bN:Nat) (i:Int) (h_1:Heap) (next_:Int->Heap->Prop):Prop:=
 PIf (i<((aN:Nat):Int))
 (J55_2 P R aA aN bA bN i next_ h_1)
 (J55_1 R h_1)
def J55_0  (P:Program) (R:Value->Heap->Prop) (aA:(Option Addr)) (aN:Nat) (bA:(Option Addr)) (bN:Nat) (h_:Heap):Prop:=
 LoopT (σ:=Int) (fun st_ h_st nx_st=>B55_3 P R aA aN bA bN (st_) h_st nx_st) (0) h_
def VC55 (P:Program) (aA:Option Addr) (aN aC:Nat) (bA:Option Addr) (bN bC:Nat) (R:Value->Heap->Prop) (h:Heap):Prop:=
 PIf ((((aN:Nat):Int):Int)=((bN:Nat):Int))
 (J55_0 P R aA aN bA bN h)
 (R (.bool false) h)
theorem vc55 (P:Program) (aA:Option Addr) (aN aC:Nat) (bA:Option Addr) (bN bC:Nat) (R:Value->Heap->Prop) (h:Heap):fnC P ret55 code55 [.slice aA aN aC,.slice bA bN bC] h R=VC55 P aA aN aC bA bN bC R h:=by kernel_rfl
theorem run55 (aA:Option Addr) (aN aC:Nat) (bA:Option Addr) (bN bC:Nat) (R:Value->Heap->Prop) (h:Heap) (hv:VC55 Tryz.prog aA aN aC bA bN bC R h):CallsH Tryz.prog 55 #[.slice aA aN aC,.slice bA bN bC] h R:=calls_of_fnC (Checked.mixed Tryz.checked) Tryz.func55 comp55 (Nat.le_of_ble_eq_true rfl) (by rw [vc55];exact hv)
def loops21:List (List (Nat×Shp)):=[[(5,.int .i64)]]
noncomputable def code21:SCode:=((compF Tryz.prog Tryz.f21 loops21).elim .skip fun x=>x.2.2)
def ret21:List RV:=[.tmp 4]
theorem comp21:compF Tryz.prog Tryz.f21 loops21=some (26,ret21,code21):=by kernel_rfl
def J21_2  (R:Value->Heap->Prop) (aA:(Option Addr)) (aN:Nat) (bA:(Option Addr)) (bN:Nat) (i:Int) (next_:(Int->Heap->Prop)) (h_2:Heap):Prop:=
 0≤i/\i<(aN:Nat)/\AtP aA fun ad=>∃ (t:Int),cellH h_2 (Addr.add ad (Int.toNat i*1))=some (.int .i64 t)/\0≤i/\i<(bN:Nat)/\AtP bA fun ad1=>∃ (t1:Int),cellH h_2 (Addr.add ad1 (Int.toNat i*1))=some (.int .i64 t1)/\PIf (t=t1)
 (next_ (IntKind.wrap .i64 (i+1)) h_2)
 (R (.bool false) h_2)
def J21_1  (R:Value->Heap->Prop) (h_3:Heap):Prop:=
 R (.bool true) h_3
def B21_3 (R:Value->Heap->Prop) (aA:(Option Addr)) (aN:Nat) (bA:(Option Addr)) (bN:Nat) (i:Int) (h_1:Heap) (next_:Int->Heap->Prop):Prop:=
 PIf (i<((aN:Nat):Int))
 (J21_2 R aA aN bA bN i next_ h_1)
 (J21_1 R h_1)
def J21_0  (R:Value->Heap->Prop) (aA:(Option Addr)) (aN:Nat) (bA:(Option Addr)) (bN:Nat) (h_:Heap):Prop:=
 LoopT (σ:=Int) (fun st_ h_st nx_st=>B21_3 R aA aN bA bN (st_) h_st nx_st) (0) h_
def VC21 (P:Program) (aA:Option Addr) (aN aC:Nat) (bA:Option Addr) (bN bC:Nat) (R:Value->Heap->Prop) (h:Heap):Prop:=
 PIf ((((aN:Nat):Int):Int)=((bN:Nat):Int))
 (J21_0 R aA aN bA bN h)
 (R (.bool false) h)
theorem vc21 (P:Program) (aA:Option Addr) (aN aC:Nat) (bA:Option Addr) (bN bC:Nat) (R:Value->Heap->Prop) (h:Heap):fnC P ret21 code21 [.slice aA aN aC,.slice bA bN bC] h R=VC21 P aA aN aC bA bN bC R h:=by kernel_rfl
theorem run21 (aA:Option Addr) (aN aC:Nat) (bA:Option Addr) (bN bC:Nat) (R:Value->Heap->Prop) (h:Heap) (hv:VC21 Tryz.prog aA aN aC bA bN bC R h):CallsH Tryz.prog 21 #[.slice aA aN aC,.slice bA bN bC] h R:=calls_of_fnC (Checked.mixed Tryz.checked) Tryz.func21 comp21 (Nat.le_of_ble_eq_true rfl) (by rw [vc21];exact hv)
def loops17:List (List (Nat×Shp)):=[[(4,.int .i64)]]
noncomputable def code17:SCode:=((compF Tryz.prog Tryz.f17 loops17).elim .skip fun x=>x.2.2)
def ret17:List RV:=[.cellN 2 [.int .i64,.slice]]
theorem comp17:compF Tryz.prog Tryz.f17 loops17=some (37,ret17,code17):=by kernel_rfl
def J17_1  (P:Program) (h h_1:Heap) (i:Int) (next_:(Int->Heap->Prop)) (h_5:Heap):Prop:=
 (Addr.block (Addr.add ⟨h_1.size,0,none⟩ 1))<(h_5).size/\∃ (A1:Option Addr) (N1 C1:Nat),cellH h_5 (Addr.add ⟨h_1.size,0,none⟩ 1)=some (.slice A1 N1 C1)/\(Addr.block (Addr.add ⟨h.size,0,none⟩ 1))<(h_5).size/\∃ (A2:Option Addr) (N2 C2:Nat),cellH h_5 (Addr.add ⟨h.size,0,none⟩ 1)=some (.slice A2 N2 C2)/\0≤i/\i<(N2:Nat)/\AtP A2 fun ad=>(Addr.block (Addr.add ad (Int.toNat i*1)))<(h_5).size/\∃ (A3:Option Addr) (N3 C3:Nat),cellH h_5 (Addr.add ad (Int.toNat i*1))=some (.slice A3 N3 C3)/\CallsH P 18 #[.slice A3 N3 C3] h_5 fun v h_6=>
 ∃ (A4:Option Addr) (N4 C4:Nat),v=(.slice A4 N4 C4)/\AgreeH (h_5).size h_5 h_6/\let h_7:Heap:=(h_6).push (.cells #[.slice A4 N4 C4] 65);AgreeH (h_5).size h_6 h_7/\∃ ys:List Value,ReadL h_7 (some ⟨h_6.size,0,none⟩) ys/\ys.length=1*1/\AppS h_7 A1 N1 C1 65 24 1 #[.slice none 0 0] ys 1 fun apA apN apC h_8=>StoreH h_8 (Addr.add ⟨h_1.size,0,none⟩ 1) [.slice apA apN apC] fun h_9=>next_ (IntKind.wrap .i64 (i+1)) h_9
def J17_0  (R:Value->Heap->Prop) (h h_ h_1 h_10:Heap):Prop:=
 ∃ zn:Zone,Zone.hasL zn h_10 (Addr.add ⟨h_1.size,0,none⟩ 1)/\∃ (A5:Option Addr) (N5 C5:Nat),cellH h_10 (Addr.add ⟨h_1.size,0,none⟩ 1)=some (.slice A5 N5 C5)/\let h_11:Heap:=(h_10).push (.cells #[(.int .i64 (-77))] 3);Zone.r zn h_10 h_11/\let h_12:Heap:=(h_11).push (.cells #[(.slice (some ⟨h_10.size,0,none⟩) 1 1)] 65);Zone.r zn h_11 h_12/\∃ ys1:List Value,ReadL h_12 (some ⟨h_11.size,0,none⟩) ys1/\ys1.length=1*1/\AppS h_12 A5 N5 C5 65 24 1 #[.slice none 0 0] ys1 1 fun apA1 apN1 apC1 h_13=>Zone.r zn h_12 h_13/\Zone.hasL zn h_13 (Addr.add ⟨h.size,0,none⟩ 1)/\∃ (A6:Option Addr) (N6 C6:Nat),cellH h_13 (Addr.add ⟨h.size,0,none⟩ 1)=some (.slice A6 N6 C6)/\0≤(0:Int)/\(0:Int)≤((N6:Nat):Int)/\(((N6:Nat):Int):Int)≤(apC1:Nat)/\StoreH h_13 (Addr.add ⟨h_1.size,0,none⟩ 1) [(.slice (cutA 1 apA1 apC1 (Int.toNat 0)) (Int.toNat ((N6:Nat):Int)-Int.toNat 0) (apC1-Int.toNat 0))] fun h_14=>∃ (t1:Int) (A7:Option Addr) (N7 C7:Nat),cellsH h_14 ⟨h_1.size,0,none⟩ 0 [.int .i64 t1,.slice A7 N7 C7]/\StoreH h_14 ⟨h_.size,0,none⟩ [.int .i64 t1,.slice A7 N7 C7] fun h_15=>∃ (t2:Int) (A8:Option Addr) (N8 C8:Nat),cellsH h_15 ⟨h_.size,0,none⟩ 0 [.int .i64 t2,.slice A8 N8 C8]/\R (.agg #[.int .i64 t2,.slice A8 N8 C8]) h_15
def B17_2 (P:Program) (R:Value->Heap->Prop) (h h_ h_1:Heap) (i:Int) (h_4:Heap) (next_:Int->Heap->Prop):Prop:=
 ∃ (A:Option Addr) (N C:Nat),cellH h_4 (Addr.add ⟨h.size,0,none⟩ 1)=some (.slice A N C)/\PIf (i<((N:Nat):Int))
 (J17_1 P h h_1 i next_ h_4)
 (J17_0 R h h_ h_1 h_4)
def VC17 (P:Program) (f:Int) (fA:Option Addr) (fN fC:Nat) (R:Value->Heap->Prop) (h:Heap):Prop:=
 let h_:Heap:=(h).push (.cells (Value.cells (.agg #[.int .i64 f,.slice fA fN fC])) 24);let h_1:Heap:=(h_).push (.cells #[.int .i64 0,.slice none 0 0] 24);∃ (t:Int),cellH h_1 (Addr.add ⟨h.size,0,none⟩ 0)=some (.int .i64 t)/\let h_2:Heap:=(h_1).push (.cells #[.int .i64 0,.slice none 0 0] 24);StoreH h_2 ⟨h_1.size,0,none⟩ [.int .i64 t,.slice none 0 0] fun h_3=>LoopT (σ:=Int) (fun st_ h_st nx_st=>B17_2 P R h h_ h_1 (st_) h_st nx_st) (0) h_3
theorem vc17 (P:Program) (f:Int) (fA:Option Addr) (fN fC:Nat) (R:Value->Heap->Prop) (h:Heap):fnC P ret17 code17 [(.agg #[.int .i64 f,.slice fA fN fC])] h R=VC17 P f fA fN fC R h:=by kernel_rfl
theorem run17 (f:Int) (fA:Option Addr) (fN fC:Nat) (R:Value->Heap->Prop) (h:Heap) (hv:VC17 Tryz.prog f fA fN fC R h):CallsH Tryz.prog 17 #[(.agg #[.int .i64 f,.slice fA fN fC])] h R:=calls_of_fnC (Checked.mixed Tryz.checked) Tryz.func17 comp17 (Nat.le_of_ble_eq_true rfl) (by rw [vc17];exact hv)
def loops18:List (List (Nat×Shp)):=[]
noncomputable def code18:SCode:=((compF Tryz.prog Tryz.f18 loops18).elim .skip fun x=>x.2.2)
def ret18:List RV:=[.tmp 2]
theorem comp18:compF Tryz.prog Tryz.f18 loops18=some (10,ret18,code18):=by kernel_rfl
def VC18 (P:Program) (lA:Option Addr) (lN lC:Nat) (R:Value->Heap->Prop) (h:Heap):Prop:=
 CallsH P 56 #[.slice lA lN lC] h fun v h_=>
 ∃ (A:Option Addr) (N C:Nat),v=(.slice A N C)/\let h_1:Heap:=(h_).push (.cells #[(.int .i64 (-77))] 3);∃ ys:List Value,ReadL h_1 (some ⟨h_.size,0,none⟩) ys/\ys.length=1*1/\AppS h_1 A N C 3 8 1 #[.int .i64 0] ys 1 fun apA apN apC h_2=>0≤(0:Int)/\(0:Int)≤((lN:Nat):Int)/\(((lN:Nat):Int):Int)≤(apC:Nat)/\R (.slice (cutA 1 apA apC (Int.toNat 0)) (Int.toNat ((lN:Nat):Int)-Int.toNat 0) (apC-Int.toNat 0)) h_2
theorem vc18 (P:Program) (lA:Option Addr) (lN lC:Nat) (R:Value->Heap->Prop) (h:Heap):fnC P ret18 code18 [.slice lA lN lC] h R=VC18 P lA lN lC R h:=by kernel_rfl
theorem run18 (lA:Option Addr) (lN lC:Nat) (R:Value->Heap->Prop) (h:Heap) (hv:VC18 Tryz.prog lA lN lC R h):CallsH Tryz.prog 18 #[.slice lA lN lC] h R:=calls_of_fnC (Checked.mixed Tryz.checked) Tryz.func18 comp18 (Nat.le_of_ble_eq_true rfl) (by rw [vc18];exact hv)
def loops56:List (List (Nat×Shp)):=[]
noncomputable def code56:SCode:=((compF Tryz.prog Tryz.f56 loops56).elim .skip fun x=>x.2.2)
def ret56:List RV:=[.tmp 2]
theorem comp56:compF Tryz.prog Tryz.f56 loops56=some (6,ret56,code56):=by kernel_rfl
def VC56 (P:Program) (lA:Option Addr) (lN lC:Nat) (R:Value->Heap->Prop) (h:Heap):Prop:=
 let h_:Heap:=(h).push (.cells #[] 3);∃ ys:List Value,ReadL h_ lA ys/\ys.length=lN*1/\AppS h_ (some ⟨h.size,0,none⟩) 0 0 3 8 1 #[.int .i64 0] ys lN fun apA apN apC h_1=>R (.slice apA apN apC) h_1
theorem vc56 (P:Program) (lA:Option Addr) (lN lC:Nat) (R:Value->Heap->Prop) (h:Heap):fnC P ret56 code56 [.slice lA lN lC] h R=VC56 P lA lN lC R h:=by kernel_rfl
theorem run56 (lA:Option Addr) (lN lC:Nat) (R:Value->Heap->Prop) (h:Heap) (hv:VC56 Tryz.prog lA lN lC R h):CallsH Tryz.prog 56 #[.slice lA lN lC] h R:=calls_of_fnC (Checked.mixed Tryz.checked) Tryz.func56 comp56 (Nat.le_of_ble_eq_true rfl) (by rw [vc56];exact hv)
def loops23:List (List (Nat×Shp)):=[[(5,.int .i64)]]
noncomputable def code23:SCode:=((compF Tryz.prog Tryz.f23 loops23).elim .skip fun x=>x.2.2)
def ret23:List RV:=[.tmp 4]
theorem comp23:compF Tryz.prog Tryz.f23 loops23=some (45,ret23,code23):=by kernel_rfl
def J23_2  (P:Program) (R:Value->Heap->Prop) (h h_:Heap) (i:Int) (next_:(Int->Heap->Prop)) (h_5:Heap):Prop:=
 ∃ (A7:Option Addr) (N7 C7:Nat),cellH h_5 (Addr.add ⟨h.size,0,none⟩ 1)=some (.slice A7 N7 C7)/\0≤i/\i<(N7:Nat)/\AtP A7 fun ad1=>∃ (A8:Option Addr) (N8 C8:Nat),cellH h_5 (Addr.add ad1 (Int.toNat i*1))=some (.slice A8 N8 C8)/\∃ (A9:Option Addr) (N9 C9:Nat),cellH h_5 (Addr.add ⟨h_.size,0,none⟩ 1)=some (.slice A9 N9 C9)/\0≤i/\i<(N9:Nat)/\AtP A9 fun ad2=>∃ (A10:Option Addr) (N10 C10:Nat),cellH h_5 (Addr.add ad2 (Int.toNat i*1))=some (.slice A10 N10 C10)/\CallsH P 24 #[.slice A8 N8 C8,.slice A10 N10 C10] h_5 fun v1 h_6=>
 ∃ (t3:Bool),v1=(.bool t3)/\BIf (!t3) (R (.bool false) h_6) (next_ (IntKind.wrap .i64 (i+1)) h_6)
def J23_1  (R:Value->Heap->Prop) (h_7:Heap):Prop:=
 R (.bool true) h_7
def B23_3 (P:Program) (R:Value->Heap->Prop) (h h_:Heap) (i:Int) (h_4:Heap) (next_:Int->Heap->Prop):Prop:=
 ∃ (A6:Option Addr) (N6 C6:Nat),cellH h_4 (Addr.add ⟨h_.size,0,none⟩ 1)=some (.slice A6 N6 C6)/\PIf (i<((N6:Nat):Int))
 (J23_2 P R h h_ i next_ h_4)
 (J23_1 R h_4)
def J23_0  (P:Program) (R:Value->Heap->Prop) (h h_ h_3:Heap):Prop:=
 LoopT (σ:=Int) (fun st_ h_st nx_st=>B23_3 P R h h_ (st_) h_st nx_st) (0) h_3
def VC23 (P:Program) (f:Int) (fA:Option Addr) (fN fC:Nat) (was:Int) (wasA:Option Addr) (wasN wasC:Nat) (R:Value->Heap->Prop) (h:Heap):Prop:=
 let h_:Heap:=(h).push (.cells (Value.cells (.agg #[.int .i64 f,.slice fA fN fC])) 24);let h_1:Heap:=(h_).push (.cells (Value.cells (.agg #[.int .i64 was,.slice wasA wasN wasC])) 24);∃ (t:Int) (A:Option Addr) (N C:Nat),cellsH h_1 ⟨h.size,0,none⟩ 0 [.int .i64 t,.slice A N C]/\∃ (t1:Int) (A1:Option Addr) (N1 C1:Nat),cellsH h_1 ⟨h_.size,0,none⟩ 0 [.int .i64 t1,.slice A1 N1 C1]/\CallsH P 14 #[(.agg #[.int .i64 t,.slice A N C]),(.agg #[.int .i64 t1,.slice A1 N1 C1])] h_1 fun v h_2=>
 ∃ (t2:Bool),v=(.bool t2)/\BIf (!t2) (R (.bool false) h_2) (∃ (A2:Option Addr) (N2 C2:Nat),cellH h_2 (Addr.add ⟨h.size,0,none⟩ 1)=some (.slice A2 N2 C2)/\∃ (A3:Option Addr) (N3 C3:Nat),cellH h_2 (Addr.add ⟨h_.size,0,none⟩ 1)=some (.slice A3 N3 C3)/\0≤(0:Int)/\(0:Int)≤(IntKind.wrap .i64 (((N3:Nat):Int)+1))/\((IntKind.wrap .i64 (((N3:Nat):Int)+1)):Int)≤(C2:Nat)/\∃ (A4:Option Addr) (N4 C4:Nat),cellH h_2 (Addr.add ⟨h_.size,0,none⟩ 1)=some (.slice A4 N4 C4)/\0≤(((N4:Nat):Int):Int)/\(((N4:Nat):Int):Int)<((Int.toNat (IntKind.wrap .i64 (((N3:Nat):Int)+1))-Int.toNat 0):Nat)/\AtP (cutA 1 A2 C2 (Int.toNat 0)) fun ad=>∃ (A5:Option Addr) (N5 C5:Nat),cellH h_2 (Addr.add ad (Int.toNat ((N4:Nat):Int)*1))=some (.slice A5 N5 C5)/\PIf ((((N5:Nat):Int):Int)=1)
 (J23_0 P R h h_ h_2)
 (R (.bool false) h_2))
theorem vc23 (P:Program) (f:Int) (fA:Option Addr) (fN fC:Nat) (was:Int) (wasA:Option Addr) (wasN wasC:Nat) (R:Value->Heap->Prop) (h:Heap):fnC P ret23 code23 [(.agg #[.int .i64 f,.slice fA fN fC]),(.agg #[.int .i64 was,.slice wasA wasN wasC])] h R=VC23 P f fA fN fC was wasA wasN wasC R h:=by kernel_rfl
theorem run23 (f:Int) (fA:Option Addr) (fN fC:Nat) (was:Int) (wasA:Option Addr) (wasN wasC:Nat) (R:Value->Heap->Prop) (h:Heap) (hv:VC23 Tryz.prog f fA fN fC was wasA wasN wasC R h):CallsH Tryz.prog 23 #[(.agg #[.int .i64 f,.slice fA fN fC]),(.agg #[.int .i64 was,.slice wasA wasN wasC])] h R:=calls_of_fnC (Checked.mixed Tryz.checked) Tryz.func23 comp23 (Nat.le_of_ble_eq_true rfl) (by rw [vc23];exact hv)
def loops24:List (List (Nat×Shp)):=[]
noncomputable def code24:SCode:=((compF Tryz.prog Tryz.f24 loops24).elim .skip fun x=>x.2.2)
def ret24:List RV:=[.tmp 4]
theorem comp24:compF Tryz.prog Tryz.f24 loops24=some (20,ret24,code24):=by kernel_rfl
def VC24 (P:Program) (lA:Option Addr) (lN lC:Nat) (wasA:Option Addr) (wasN wasC:Nat) (R:Value->Heap->Prop) (h:Heap):Prop:=
 CallsH P 21 #[.slice lA lN lC,.slice wasA wasN wasC] h fun v h_=>
 ∃ (t:Bool),v=(.bool t)/\BIf t (0≤(0:Int)/\(0:Int)≤(IntKind.wrap .i64 (((wasN:Nat):Int)+1))/\((IntKind.wrap .i64 (((wasN:Nat):Int)+1)):Int)≤(lC:Nat)/\0≤(((wasN:Nat):Int):Int)/\(((wasN:Nat):Int):Int)<((Int.toNat (IntKind.wrap .i64 (((wasN:Nat):Int)+1))-Int.toNat 0):Nat)/\AtP (cutA 1 lA lC (Int.toNat 0)) fun ad=>∃ (t1:Int),cellH h_ (Addr.add ad (Int.toNat ((wasN:Nat):Int)*1))=some (.int .i64 t1)/\PIf (t1=(-77))
 (R (.bool true) h_)
 (R (.bool false) h_)) (R (.bool false) h_)
theorem vc24 (P:Program) (lA:Option Addr) (lN lC:Nat) (wasA:Option Addr) (wasN wasC:Nat) (R:Value->Heap->Prop) (h:Heap):fnC P ret24 code24 [.slice lA lN lC,.slice wasA wasN wasC] h R=VC24 P lA lN lC wasA wasN wasC R h:=by kernel_rfl
theorem run24 (lA:Option Addr) (lN lC:Nat) (wasA:Option Addr) (wasN wasC:Nat) (R:Value->Heap->Prop) (h:Heap) (hv:VC24 Tryz.prog lA lN lC wasA wasN wasC R h):CallsH Tryz.prog 24 #[.slice lA lN lC,.slice wasA wasN wasC] h R:=calls_of_fnC (Checked.mixed Tryz.checked) Tryz.func24 comp24 (Nat.le_of_ble_eq_true rfl) (by rw [vc24];exact hv)
def loops33:List (List (Nat×Shp)):=[]
noncomputable def code33:SCode:=((compF Tryz.prog Tryz.f33 loops33).elim .skip fun x=>x.2.2)
def ret33:List RV:=[.tmp 0]
theorem comp33:compF Tryz.prog Tryz.f33 loops33=some (1,ret33,code33):=by kernel_rfl
def VC33 (P:Program) (R:Value->Heap->Prop) (h:Heap):Prop:=
 R (.bool true) h
theorem vc33 (P:Program) (R:Value->Heap->Prop) (h:Heap):fnC P ret33 code33 [] h R=VC33 P R h:=by kernel_rfl
theorem run33 (R:Value->Heap->Prop) (h:Heap) (hv:VC33 Tryz.prog R h):CallsH Tryz.prog 33 #[] h R:=calls_of_fnC (Checked.mixed Tryz.checked) Tryz.func33 comp33 (Nat.le_of_ble_eq_true rfl) (by rw [vc33];exact hv)
end Go.Proofs.YtobageabpfkpcaaGreatDoor
