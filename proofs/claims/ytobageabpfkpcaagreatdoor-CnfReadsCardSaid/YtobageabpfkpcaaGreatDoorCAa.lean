/- Words and facts that the claim's proof leans on. No condition. -/
import Derived.Test.YtobageabpfkpcaaGreatDoorHxV
import Derived.Test.YtobageabpfkpcaaGreatDoorChecked
set_option maxRecDepth 100000
set_option linter.unusedVariables false
namespace Go.Proofs.YtobageabpfkpcaaGreatDoor
open Go.Hx
def loops34:List (List (Nat×Shp)):=[[(22,.int .i64)]]
noncomputable def code34:SCode:=((compF Tryz.prog Tryz.f34 loops34).elim .skip fun x=>x.2.2)
def ret34:List RV:=[.tmp 2,.tmp 3]
theorem comp34:compF Tryz.prog Tryz.f34 loops34=some (36,ret34,code34):=by kernel_rfl
def J34_3  (P:Program) (R:Value->Heap->Prop) (h:Heap) (A1:(Option Addr)) (N1:Nat) (t2:Int) (next_:(Int->Heap->Prop)) (h_4:Heap):Prop:=
 0≤t2/\t2<(N1:Nat)/\AtP A1 fun ad=>∃ (A2:Option Addr) (N2 C2:Nat),cellH h_4 (Addr.add ad (Int.toNat t2*1))=some (.slice A2 N2 C2)/\∃ (t3:Int),cellH h_4 (Addr.add ⟨h.size,0,none⟩ 0)=some (.int .i64 t3)/\CallsH P 57 #[.slice A2 N2 C2,.int .i64 t3] h_4 fun v h_5=>
 ∃ (t4:Int),v=(.int .i64 t4)/\PIf (t4=0)
 (next_ (IntKind.wrap .i64 (t2+1)) h_5)
 (R (.tuple #[.int .i64 t2,.int .i64 t4]) h_5)
def J34_2  (R:Value->Heap->Prop) (h_6:Heap):Prop:=
 R (.tuple #[.int .i64 0,.int .i64 0]) h_6
def B34_5 (P:Program) (R:Value->Heap->Prop) (h:Heap) (A1:(Option Addr)) (N1:Nat) (t2:Int) (h_3:Heap) (next_:Int->Heap->Prop):Prop:=
 PIf (t2<((N1:Nat):Int))
 (J34_3 P R h A1 N1 t2 next_ h_3)
 (J34_2 R h_3)
def J34_1  (P:Program) (R:Value->Heap->Prop) (h h_2:Heap):Prop:=
 ∃ (A1:Option Addr) (N1 C1:Nat),cellH h_2 (Addr.add ⟨h.size,0,none⟩ 1)=some (.slice A1 N1 C1)/\LoopT (σ:=Int) (fun st_ h_st nx_st=>B34_5 P R h A1 N1 (st_) h_st nx_st) (0) h_2
def J34_0  (P:Program) (R:Value->Heap->Prop) (h h_1:Heap):Prop:=
 ∃ (A:Option Addr) (N C:Nat),cellH h_1 (Addr.add ⟨h.size,0,none⟩ 1)=some (.slice A N C)/\PIf ((524288:Int)<((N:Nat):Int))
 (R (.tuple #[.int .i64 0,.int .i64 2]) h_1)
 (J34_1 P R h h_1)
def VC34 (P:Program) (f:Int) (fA:Option Addr) (fN fC:Nat) (R:Value->Heap->Prop) (h:Heap):Prop:=
 let h_:Heap:=(h).push (.cells (Value.cells (.agg #[.int .i64 f,.slice fA fN fC])) 24);∃ (t:Int),cellH h_ (Addr.add ⟨h.size,0,none⟩ 0)=some (.int .i64 t)/\PIf (t<0)
 (R (.tuple #[.int .i64 0,.int .i64 1]) h_)
 (∃ (t1:Int),cellH h_ (Addr.add ⟨h.size,0,none⟩ 0)=some (.int .i64 t1)/\PIf ((262144:Int)<t1)
 (R (.tuple #[.int .i64 0,.int .i64 1]) h_)
 (J34_0 P R h h_))
theorem vc34 (P:Program) (f:Int) (fA:Option Addr) (fN fC:Nat) (R:Value->Heap->Prop) (h:Heap):fnC P ret34 code34 [(.agg #[.int .i64 f,.slice fA fN fC])] h R=VC34 P f fA fN fC R h:=by kernel_rfl
theorem run34 (f:Int) (fA:Option Addr) (fN fC:Nat) (R:Value->Heap->Prop) (h:Heap) (hv:VC34 Tryz.prog f fA fN fC R h):CallsH Tryz.prog 34 #[(.agg #[.int .i64 f,.slice fA fN fC])] h R:=calls_of_fnC (Checked.mixed Tryz.checked) Tryz.func34 comp34 (Nat.le_of_ble_eq_true rfl) (by rw [vc34];exact hv)
def loops57:List (List (Nat×Shp)):=[]
noncomputable def code57:SCode:=((compF Tryz.prog Tryz.f57 loops57).elim .skip fun x=>x.2.2)
def ret57:List RV:=[.tmp 4]
theorem comp57:compF Tryz.prog Tryz.f57 loops57=some (11,ret57,code57):=by kernel_rfl
def J57_0  (P:Program) (R:Value->Heap->Prop) (h:Heap) (lA:(Option Addr)) (lN lC:Nat) (h_1:Heap):Prop:=
 CallsH P 95 #[.slice lA lN lC,(.func (.func 96) #[] #[(.pointer (some ⟨h.size,0,none⟩))])] h_1 fun v h_2=>
 ∃ (t:Bool),v=(.bool t)/\BIf t (R (.int .i64 141) h_2) (R (.int .i64 0) h_2)
def VC57 (P:Program) (lA:Option Addr) (lN lC:Nat) (vars:Int) (R:Value->Heap->Prop) (h:Heap):Prop:=
 let h_:Heap:=(h).push (.cells #[.int .i64 vars] 3);PIf ((16384:Int)<((lN:Nat):Int))
 (R (.int .i64 2) h_)
 (J57_0 P R h lA lN lC h_)
theorem vc57 (P:Program) (lA:Option Addr) (lN lC:Nat) (vars:Int) (R:Value->Heap->Prop) (h:Heap):fnC P ret57 code57 [.slice lA lN lC,.int .i64 vars] h R=VC57 P lA lN lC vars R h:=by kernel_rfl
theorem run57 (lA:Option Addr) (lN lC:Nat) (vars:Int) (R:Value->Heap->Prop) (h:Heap) (hv:VC57 Tryz.prog lA lN lC vars R h):CallsH Tryz.prog 57 #[.slice lA lN lC,.int .i64 vars] h R:=calls_of_fnC (Checked.mixed Tryz.checked) Tryz.func57 comp57 (Nat.le_of_ble_eq_true rfl) (by rw [vc57];exact hv)
def loops96:List (List (Nat×Shp)):=[]
noncomputable def code96:SCode:=((compF Tryz.prog Tryz.f96 loops96).elim .skip fun x=>x.2.2)
def ret96:List RV:=[.tmp 3]
theorem comp96:compF Tryz.prog Tryz.f96 loops96=some (17,ret96,code96):=by kernel_rfl
def VC96 (P:Program) (x:Int) (t:Option Addr) (R:Value->Heap->Prop) (h:Heap):Prop:=
 PIf (x=0)
 (R (.bool true) h)
 (AtP t fun ad=>∃ (t1:Int),cellH h ad=some (.int .i64 t1)/\PIf (x<(IntKind.wrap .i64 (0-t1)))
 (R (.bool true) h)
 (AtP t fun ad1=>∃ (t2:Int),cellH h ad1=some (.int .i64 t2)/\PIf (t2<x)
 (R (.bool true) h)
 (R (.bool false) h)))
theorem vc96 (P:Program) (x:Int) (t:Option Addr) (R:Value->Heap->Prop) (h:Heap):fnC P ret96 code96 [.int .i64 x,.pointer t] h R=VC96 P x t R h:=by kernel_rfl
theorem run96 (x:Int) (t:Option Addr) (R:Value->Heap->Prop) (h:Heap) (hv:VC96 Tryz.prog x t R h):CallsH Tryz.prog 96 #[.int .i64 x,.pointer t] h R:=calls_of_fnC (Checked.mixed Tryz.checked) Tryz.func96 comp96 (Nat.le_of_ble_eq_true rfl) (by rw [vc96];exact hv)
def loops95:List (List (Nat×Shp)):=[]
noncomputable def code95:SCode:=((compF Tryz.prog Tryz.f95 loops95).elim .skip fun x=>x.2.2)
def ret95:List RV:=[.tmp 4]
theorem comp95:compF Tryz.prog Tryz.f95 loops95=some (9,ret95,code95):=by kernel_rfl
def VC95 (P:Program) (sA:Option Addr) (sN sC:Nat) (f:Value) (R:Value->Heap->Prop) (h:Heap):Prop:=
 CallsH P 121 #[.slice sA sN sC,f] h fun v h_=>
 ∃ (t:Int),v=(.int .i64 t)/\PIf ((0:Int)≤t)
 (R (.bool true) h_)
 (R (.bool false) h_)
theorem vc95 (P:Program) (sA:Option Addr) (sN sC:Nat) (f:Value) (R:Value->Heap->Prop) (h:Heap):fnC P ret95 code95 [.slice sA sN sC,f] h R=VC95 P sA sN sC f R h:=by kernel_rfl
theorem run95 (sA:Option Addr) (sN sC:Nat) (f:Value) (R:Value->Heap->Prop) (h:Heap) (hv:VC95 Tryz.prog sA sN sC f R h):CallsH Tryz.prog 95 #[.slice sA sN sC,f] h R:=calls_of_fnC (Checked.mixed Tryz.checked) Tryz.func95 comp95 (Nat.le_of_ble_eq_true rfl) (by rw [vc95];exact hv)
def loops121:List (List (Nat×Shp)):=[[(8,.int .i64)]]
noncomputable def code121:SCode:=((compF Tryz.prog Tryz.f121 loops121).elim .skip fun x=>x.2.2)
def ret121:List RV:=[.tmp 4]
theorem comp121:compF Tryz.prog Tryz.f121 loops121=some (19,ret121,code121):=by kernel_rfl
def J121_1  (P:Program) (R:Value->Heap->Prop) (sA:(Option Addr)) (sN:Nat) (f:Value) (t:Int) (next_:(Int->Heap->Prop)) (h_1:Heap):Prop:=
 0≤t/\t<(sN:Nat)/\AtP sA fun ad=>∃ (t1:Int),cellH h_1 (Addr.add ad (Int.toNat t*1))=some (.int .i64 t1)/\CallV P f [.int .i64 t1] h_1 fun v h_2=>
 ∃ (t2:Bool),v=(.bool t2)/\BIf t2 (R (.int .i64 t) h_2) (next_ (IntKind.wrap .i64 (t+1)) h_2)
def J121_0  (R:Value->Heap->Prop) (h_3:Heap):Prop:=
 R (.int .i64 (-1)) h_3
def B121_3 (P:Program) (R:Value->Heap->Prop) (sA:(Option Addr)) (sN:Nat) (f:Value) (t:Int) (h_:Heap) (next_:Int->Heap->Prop):Prop:=
 PIf (t<((sN:Nat):Int))
 (J121_1 P R sA sN f t next_ h_)
 (J121_0 R h_)
def VC121 (P:Program) (sA:Option Addr) (sN sC:Nat) (f:Value) (R:Value->Heap->Prop) (h:Heap):Prop:=
 LoopT (σ:=Int) (fun st_ h_st nx_st=>B121_3 P R sA sN f (st_) h_st nx_st) (0) h
theorem vc121 (P:Program) (sA:Option Addr) (sN sC:Nat) (f:Value) (R:Value->Heap->Prop) (h:Heap):fnC P ret121 code121 [.slice sA sN sC,f] h R=VC121 P sA sN sC f R h:=by kernel_rfl
theorem run121 (sA:Option Addr) (sN sC:Nat) (f:Value) (R:Value->Heap->Prop) (h:Heap) (hv:VC121 Tryz.prog sA sN sC f R h):CallsH Tryz.prog 121 #[.slice sA sN sC,f] h R:=calls_of_fnC (Checked.mixed Tryz.checked) Tryz.func121 comp121 (Nat.le_of_ble_eq_true rfl) (by rw [vc121];exact hv)
def loops14:List (List (Nat×Shp)):=[]
noncomputable def code14:SCode:=((compF Tryz.prog Tryz.f14 loops14).elim .skip fun x=>x.2.2)
def ret14:List RV:=[.tmp 4]
theorem comp14:compF Tryz.prog Tryz.f14 loops14=some (17,ret14,code14):=by kernel_rfl
def VC14 (P:Program) (a:Int) (aA:Option Addr) (aN aC:Nat) (b:Int) (bA:Option Addr) (bN bC:Nat) (R:Value->Heap->Prop) (h:Heap):Prop:=
 let h_:Heap:=(h).push (.cells (Value.cells (.agg #[.int .i64 a,.slice aA aN aC])) 24);let h_1:Heap:=(h_).push (.cells (Value.cells (.agg #[.int .i64 b,.slice bA bN bC])) 24);∃ (t:Int),cellH h_1 (Addr.add ⟨h.size,0,none⟩ 0)=some (.int .i64 t)/\∃ (t1:Int),cellH h_1 (Addr.add ⟨h_.size,0,none⟩ 0)=some (.int .i64 t1)/\PIf (t=t1)
 (∃ (A:Option Addr) (N C:Nat),cellH h_1 (Addr.add ⟨h.size,0,none⟩ 1)=some (.slice A N C)/\∃ (A1:Option Addr) (N1 C1:Nat),cellH h_1 (Addr.add ⟨h_.size,0,none⟩ 1)=some (.slice A1 N1 C1)/\CallsH P 55 #[.slice A N C,.slice A1 N1 C1] h_1 fun v h_2=>
 ∃ (t2:Bool),v=(.bool t2)/\R (.bool t2) h_2)
 (R (.bool false) h_1)
theorem vc14 (P:Program) (a:Int) (aA:Option Addr) (aN aC:Nat) (b:Int) (bA:Option Addr) (bN bC:Nat) (R:Value->Heap->Prop) (h:Heap):fnC P ret14 code14 [(.agg #[.int .i64 a,.slice aA aN aC]),(.agg #[.int .i64 b,.slice bA bN bC])] h R=VC14 P a aA aN aC b bA bN bC R h:=by kernel_rfl
theorem run14 (a:Int) (aA:Option Addr) (aN aC:Nat) (b:Int) (bA:Option Addr) (bN bC:Nat) (R:Value->Heap->Prop) (h:Heap) (hv:VC14 Tryz.prog a aA aN aC b bA bN bC R h):CallsH Tryz.prog 14 #[(.agg #[.int .i64 a,.slice aA aN aC]),(.agg #[.int .i64 b,.slice bA bN bC])] h R:=calls_of_fnC (Checked.mixed Tryz.checked) Tryz.func14 comp14 (Nat.le_of_ble_eq_true rfl) (by rw [vc14];exact hv)
def loops55:List (List (Nat×Shp)):=[[(5,.int .i64)]]
noncomputable def code55:SCode:=((compF Tryz.prog Tryz.f55 loops55).elim .skip fun x=>x.2.2)
def ret55:List RV:=[.tmp 4]
theorem comp55:compF Tryz.prog Tryz.f55 loops55=some (27,ret55,code55):=by kernel_rfl
def J55_2  (P:Program) (R:Value->Heap->Prop) (aA:(Option Addr)) (aN:Nat) (bA:(Option Addr)) (bN:Nat) (i:Int) (next_:(Int->Heap->Prop)) (h_2:Heap):Prop:=
 0≤i/\i<(aN:Nat)/\AtP aA fun ad=>∃ (A:Option Addr) (N C:Nat),cellH h_2 (Addr.add ad (Int.toNat i*1))=some (.slice A N C)/\0≤i/\i<(bN:Nat)/\AtP bA fun ad1=>∃ (A1:Option Addr) (N1 C1:Nat),cellH h_2 (Addr.add ad1 (Int.toNat i*1))=some (.slice A1 N1 C1)/\CallsH P 21 #[.slice A N C,.slice A1 N1 C1] h_2 fun v h_3=>
 ∃ (t:Bool),v=(.bool t)/\BIf (!t) (R (.bool false) h_3) (next_ (IntKind.wrap .i64 (i+1)) h_3)
def J55_1  (R:Value->Heap->Prop) (h_4:Heap):Prop:=
 R (.bool true) h_4
def B55_3 (P:Program) (R:Value->Heap->Prop) (aA:(Option Addr)) (aN:Nat) (bA:(Option Addr)) (bN:Nat) (i:Int) (h_1:Heap) (next_:Int->Heap->Prop):Prop:=
 PIf (i<((aN:Nat):Int))
 (J55_2 P R aA aN bA bN i next_ h_1)
 (J55_1 R h_1)
def J55_0  (P:Program) (R:Value->Heap->Prop) (aA:(Option Addr)) (aN:Nat) (bA:(Option Addr)) (bN:Nat) (h_:Heap):Prop:=
 LoopT (σ:=Int) (fun st_ h_st nx_st=>B55_3 P R aA aN bA bN (st_) h_st nx_st) (0) h_
def VC55 (P:Program) (aA:Option Addr) (aN aC:Nat) (bA:Option Addr) (bN bC:Nat) (R:Value->Heap->Prop) (h:Heap):Prop:=
 PIf ((((aN:Nat):Int):Int)=((bN:Nat):Int))
 (J55_0 P R aA aN bA bN h)
 (R (.bool false) h)
theorem vc55 (P:Program) (aA:Option Addr) (aN aC:Nat) (bA:Option Addr) (bN bC:Nat) (R:Value->Heap->Prop) (h:Heap):fnC P ret55 code55 [.slice aA aN aC,.slice bA bN bC] h R=VC55 P aA aN aC bA bN bC R h:=by kernel_rfl
theorem run55 (aA:Option Addr) (aN aC:Nat) (bA:Option Addr) (bN bC:Nat) (R:Value->Heap->Prop) (h:Heap) (hv:VC55 Tryz.prog aA aN aC bA bN bC R h):CallsH Tryz.prog 55 #[.slice aA aN aC,.slice bA bN bC] h R:=calls_of_fnC (Checked.mixed Tryz.checked) Tryz.func55 comp55 (Nat.le_of_ble_eq_true rfl) (by rw [vc55];exact hv)
def loops21:List (List (Nat×Shp)):=[[(5,.int .i64)]]
noncomputable def code21:SCode:=((compF Tryz.prog Tryz.f21 loops21).elim .skip fun x=>x.2.2)
def ret21:List RV:=[.tmp 4]
theorem comp21:compF Tryz.prog Tryz.f21 loops21=some (26,ret21,code21):=by kernel_rfl
def J21_2  (R:Value->Heap->Prop) (aA:(Option Addr)) (aN:Nat) (bA:(Option Addr)) (bN:Nat) (i:Int) (next_:(Int->Heap->Prop)) (h_2:Heap):Prop:=
 0≤i/\i<(aN:Nat)/\AtP aA fun ad=>∃ (t:Int),cellH h_2 (Addr.add ad (Int.toNat i*1))=some (.int .i64 t)/\0≤i/\i<(bN:Nat)/\AtP bA fun ad1=>∃ (t1:Int),cellH h_2 (Addr.add ad1 (Int.toNat i*1))=some (.int .i64 t1)/\PIf (t=t1)
 (next_ (IntKind.wrap .i64 (i+1)) h_2)
 (R (.bool false) h_2)
def J21_1  (R:Value->Heap->Prop) (h_3:Heap):Prop:=
 R (.bool true) h_3
def B21_3 (R:Value->Heap->Prop) (aA:(Option Addr)) (aN:Nat) (bA:(Option Addr)) (bN:Nat) (i:Int) (h_1:Heap) (next_:Int->Heap->Prop):Prop:=
 PIf (i<((aN:Nat):Int))
 (J21_2 R aA aN bA bN i next_ h_1)
 (J21_1 R h_1)
def J21_0  (R:Value->Heap->Prop) (aA:(Option Addr)) (aN:Nat) (bA:(Option Addr)) (bN:Nat) (h_:Heap):Prop:=
 LoopT (σ:=Int) (fun st_ h_st nx_st=>B21_3 R aA aN bA bN (st_) h_st nx_st) (0) h_
def VC21 (P:Program) (aA:Option Addr) (aN aC:Nat) (bA:Option Addr) (bN bC:Nat) (R:Value->Heap->Prop) (h:Heap):Prop:=
 PIf ((((aN:Nat):Int):Int)=((bN:Nat):Int))
 (J21_0 R aA aN bA bN h)
 (R (.bool false) h)
theorem vc21 (P:Program) (aA:Option Addr) (aN aC:Nat) (bA:Option Addr) (bN bC:Nat) (R:Value->Heap->Prop) (h:Heap):fnC P ret21 code21 [.slice aA aN aC,.slice bA bN bC] h R=VC21 P aA aN aC bA bN bC R h:=by kernel_rfl
theorem run21 (aA:Option Addr) (aN aC:Nat) (bA:Option Addr) (bN bC:Nat) (R:Value->Heap->Prop) (h:Heap) (hv:VC21 Tryz.prog aA aN aC bA bN bC R h):CallsH Tryz.prog 21 #[.slice aA aN aC,.slice bA bN bC] h R:=calls_of_fnC (Checked.mixed Tryz.checked) Tryz.func21 comp21 (Nat.le_of_ble_eq_true rfl) (by rw [vc21];exact hv)
def loops15:List (List (Nat×Shp)):=[[(4,.int .i64)]]
noncomputable def code15:SCode:=((compF Tryz.prog Tryz.f15 loops15).elim .skip fun x=>x.2.2)
def ret15:List RV:=[]
theorem comp15:compF Tryz.prog Tryz.f15 loops15=some (25,ret15,code15):=by kernel_rfl
def J15_0  (P:Program) (h:Heap) (mark i:Int) (next_:(Int->Heap->Prop)) (h_2:Heap):Prop:=
 ∃ (A1:Option Addr) (N1 C1:Nat),cellH h_2 (Addr.add ⟨h.size,0,none⟩ 1)=some (.slice A1 N1 C1)/\0≤i/\i<(N1:Nat)/\AtP A1 fun ad=>∃ (A2:Option Addr) (N2 C2:Nat),cellH h_2 (Addr.add ad (Int.toNat i*1))=some (.slice A2 N2 C2)/\CallsH P 22 #[.slice A2 N2 C2,.int .i64 mark] h_2 fun v h_3=>
 v=(.tuple #[])/\∃ (A3:Option Addr) (N3 C3:Nat),cellH h_3 (Addr.add ⟨h.size,0,none⟩ 1)=some (.slice A3 N3 C3)/\let h_4:Heap:=(h_3).push (.cells #[.int .i64 mark] 3);0≤i/\i<(N3:Nat)/\AtP A3 fun ad1=>StoreH h_4 (Addr.add ad1 (Int.toNat i*1)) [(.slice (some ⟨h_3.size,0,none⟩) 1 1)] fun h_5=>next_ (IntKind.wrap .i64 (i+1)) h_5
def B15_1 (P:Program) (R:Value->Heap->Prop) (h:Heap) (mark i:Int) (h_1:Heap) (next_:Int->Heap->Prop):Prop:=
 ∃ (A:Option Addr) (N C:Nat),cellH h_1 (Addr.add ⟨h.size,0,none⟩ 1)=some (.slice A N C)/\PIf (i<((N:Nat):Int))
 (J15_0 P h mark i next_ h_1)
 (R (.tuple #[]) h_1)
def VC15 (P:Program) (f:Int) (fA:Option Addr) (fN fC:Nat) (mark:Int) (R:Value->Heap->Prop) (h:Heap):Prop:=
 let h_:Heap:=(h).push (.cells (Value.cells (.agg #[.int .i64 f,.slice fA fN fC])) 24);LoopT (σ:=Int) (fun st_ h_st nx_st=>B15_1 P R h mark (st_) h_st nx_st) (0) h_
theorem vc15 (P:Program) (f:Int) (fA:Option Addr) (fN fC:Nat) (mark:Int) (R:Value->Heap->Prop) (h:Heap):fnC P ret15 code15 [(.agg #[.int .i64 f,.slice fA fN fC]),.int .i64 mark] h R=VC15 P f fA fN fC mark R h:=by kernel_rfl
theorem run15 (f:Int) (fA:Option Addr) (fN fC:Nat) (mark:Int) (R:Value->Heap->Prop) (h:Heap) (hv:VC15 Tryz.prog f fA fN fC mark R h):CallsH Tryz.prog 15 #[(.agg #[.int .i64 f,.slice fA fN fC]),.int .i64 mark] h R:=calls_of_fnC (Checked.mixed Tryz.checked) Tryz.func15 comp15 (Nat.le_of_ble_eq_true rfl) (by rw [vc15];exact hv)
def loops22:List (List (Nat×Shp)):=[[(4,.int .i64)]]
noncomputable def code22:SCode:=((compF Tryz.prog Tryz.f22 loops22).elim .skip fun x=>x.2.2)
def ret22:List RV:=[]
theorem comp22:compF Tryz.prog Tryz.f22 loops22=some (29,ret22,code22):=by kernel_rfl
def J22_0  (R:Value->Heap->Prop) (lA:(Option Addr)) (lN lC:Nat) (mark:Int) (h_2:Heap):Prop:=
 PIf ((((lN:Nat):Int):Int)<((lC:Nat):Int))
 (0≤(0:Int)/\(0:Int)≤(IntKind.wrap .i64 (((lN:Nat):Int)+1))/\((IntKind.wrap .i64 (((lN:Nat):Int)+1)):Int)≤(lC:Nat)/\0≤(((lN:Nat):Int):Int)/\(((lN:Nat):Int):Int)<((Int.toNat (IntKind.wrap .i64 (((lN:Nat):Int)+1))-Int.toNat 0):Nat)/\AtP (cutA 1 lA lC (Int.toNat 0)) fun ad1=>StoreH h_2 (Addr.add ad1 (Int.toNat ((lN:Nat):Int)*1)) [.int .i64 mark] fun h_3=>R (.tuple #[]) h_3)
 (R (.tuple #[]) h_2)
def B22_1 (R:Value->Heap->Prop) (lA:(Option Addr)) (lN lC:Nat) (mark i:Int) (h_:Heap) (next_:Int->Heap->Prop):Prop:=
 PIf (i<((lN:Nat):Int))
 (0≤i/\i<(lN:Nat)/\AtP lA fun ad=>StoreH h_ (Addr.add ad (Int.toNat i*1)) [.int .i64 mark] fun h_1=>next_ (IntKind.wrap .i64 (i+1)) h_1)
 (J22_0 R lA lN lC mark h_)
def VC22 (P:Program) (lA:Option Addr) (lN lC:Nat) (mark:Int) (R:Value->Heap->Prop) (h:Heap):Prop:=
 LoopT (σ:=Int) (fun st_ h_st nx_st=>B22_1 R lA lN lC mark (st_) h_st nx_st) (0) h
theorem vc22 (P:Program) (lA:Option Addr) (lN lC:Nat) (mark:Int) (R:Value->Heap->Prop) (h:Heap):fnC P ret22 code22 [.slice lA lN lC,.int .i64 mark] h R=VC22 P lA lN lC mark R h:=by kernel_rfl
theorem run22 (lA:Option Addr) (lN lC:Nat) (mark:Int) (R:Value->Heap->Prop) (h:Heap) (hv:VC22 Tryz.prog lA lN lC mark R h):CallsH Tryz.prog 22 #[.slice lA lN lC,.int .i64 mark] h R:=calls_of_fnC (Checked.mixed Tryz.checked) Tryz.func22 comp22 (Nat.le_of_ble_eq_true rfl) (by rw [vc22];exact hv)
end Go.Proofs.YtobageabpfkpcaaGreatDoor
