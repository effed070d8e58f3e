/- Words and facts that the claim's proof leans on. No condition. -/
import Derived.Test.YtdpbdjdgdmheiaaGreatHxV
import Derived.Test.YtdpbdjdgdmheiaaGreatChecked
set_option maxRecDepth 100000
set_option linter.unusedVariables false
namespace Go.Proofs.YtdpbdjdgdmheiaaGreat
open Go.Hx
def loops83:List (List (Nat×Shp)):=[[(10,.int .i64)],[(11,.int .i64)],[(12,.int .i64)]]
noncomputable def code83:SCode:=((compF Tryz.prog Tryz.f83 loops83).elim .skip fun x=>x.2.2)
def ret83:List RV:=[.tmp 8]
theorem comp83:compF Tryz.prog Tryz.f83 loops83=some (87,ret83,code83):=by kernel_rfl
def J83_1  (h:Heap) (rowA:(Option Addr)) (rowN:Nat) (h_:Heap) (t i:Int) (next_:(Int->Heap->Prop)) (h_3:Heap):Prop:=
 ∃ (A1:Option Addr) (N1 C1:Nat),cellH h_3 (Addr.add ⟨h.size,0,none⟩ 1)=some (.slice A1 N1 C1)/\0≤i/\i<(N1:Nat)/\AtP A1 fun ad=>∃ (t1:Int),cellH h_3 (Addr.add ad (Int.toNat i*1))=some (.int .i64 t1)/\0≤i/\i<(rowN:Nat)/\AtP rowA fun ad1=>∃ (t2:Bool),cellH h_3 (Addr.add ad1 (Int.toNat i*1))=some (.bool t2)/\0≤((IntKind.wrap .i64 (Int.tdiv t1 2)):Int)/\((IntKind.wrap .i64 (Int.tdiv t1 2)):Int)<((Int.toNat (IntKind.wrap .i64 (t+1))):Nat)/\StoreH h_3 (Addr.add ⟨h_.size,0,none⟩ (Int.toNat (IntKind.wrap .i64 (Int.tdiv t1 2))*1)) [.bool t2] fun h_4=>next_ (IntKind.wrap .i64 (i+1)) h_4
def J83_3  (h:Heap) (stateA:(Option Addr)) (stateN:Nat) (h_:Heap) (t i1:Int) (next_1:(Int->Heap->Prop)) (h_7:Heap):Prop:=
 ∃ (A3:Option Addr) (N3 C3:Nat),cellH h_7 (Addr.add ⟨h.size,0,none⟩ 2)=some (.slice A3 N3 C3)/\0≤i1/\i1<(N3:Nat)/\AtP A3 fun ad2=>∃ (t3:Int),cellH h_7 (Addr.add (Addr.add ad2 (Int.toNat i1*3)) 0)=some (.int .i64 t3)/\0≤i1/\i1<(stateN:Nat)/\AtP stateA fun ad3=>∃ (t4:Bool),cellH h_7 (Addr.add ad3 (Int.toNat i1*1))=some (.bool t4)/\0≤((IntKind.wrap .i64 (Int.tdiv t3 2)):Int)/\((IntKind.wrap .i64 (Int.tdiv t3 2)):Int)<((Int.toNat (IntKind.wrap .i64 (t+1))):Nat)/\StoreH h_7 (Addr.add ⟨h_.size,0,none⟩ (Int.toNat (IntKind.wrap .i64 (Int.tdiv t3 2))*1)) [.bool t4] fun h_8=>next_1 (IntKind.wrap .i64 (i1+1)) h_8
def J83_5  (P:Program) (h:Heap) (orderA:(Option Addr)) (orderN:Nat) (h_:Heap) (t i2:Int) (next_2:(Int->Heap->Prop)) (h_11:Heap):Prop:=
 (Addr.block (Addr.add ⟨h.size,0,none⟩ 8))<(h_11).size/\∃ (A4:Option Addr) (N4 C4:Nat),cellH h_11 (Addr.add ⟨h.size,0,none⟩ 8)=some (.slice A4 N4 C4)/\0≤i2/\i2<(orderN:Nat)/\AtP orderA fun ad4=>(Addr.block (Addr.add ad4 (Int.toNat i2*1)))<(h_11).size/\∃ (t5:Int),cellH h_11 (Addr.add ad4 (Int.toNat i2*1))=some (.int .i64 t5)/\0≤t5/\t5<(N4:Nat)/\AtP A4 fun ad5=>(Addr.block (Addr.add ad5 (Int.toNat t5*3)))<(h_11).size/\∃ (t6 t7 t8:Int),cellsH h_11 (Addr.add ad5 (Int.toNat t5*3)) 0 [.int .i64 t6,.int .i64 t7,.int .i64 t8]/\let h_12:Heap:=(h_11).push (.cells #[.int .i64 0,.int .i64 0,.int .i64 0] 67);AgreeH (h_11).size h_11 h_12/\StoreH h_12 ⟨h_11.size,0,none⟩ [.int .i64 t6,.int .i64 t7,.int .i64 t8] fun h_13=>(Addr.block (Addr.add ⟨h_11.size,0,none⟩ 0))<(h_13).size/\∃ (t9:Int),cellH h_13 (Addr.add ⟨h_11.size,0,none⟩ 0)=some (.int .i64 t9)/\(Addr.block (Addr.add ⟨h_11.size,0,none⟩ 1))<(h_13).size/\∃ (t10:Int),cellH h_13 (Addr.add ⟨h_11.size,0,none⟩ 1)=some (.int .i64 t10)/\CallsH P 58 #[(.slice (some ⟨h_.size,0,none⟩) (Int.toNat (IntKind.wrap .i64 (t+1))) (Int.toNat (IntKind.wrap .i64 (t+1)))),.int .i64 t10] h_13 fun v h_14=>
 ∃ (t11:Bool),v=(.bool t11)/\AgreeH (h_13).size h_13 h_14/\BIf t11 ((Addr.block (Addr.add ⟨h_11.size,0,none⟩ 2))<(h_13).size/\∃ (t12:Int),cellH h_14 (Addr.add ⟨h_11.size,0,none⟩ 2)=some (.int .i64 t12)/\CallsH P 58 #[(.slice (some ⟨h_.size,0,none⟩) (Int.toNat (IntKind.wrap .i64 (t+1))) (Int.toNat (IntKind.wrap .i64 (t+1)))),.int .i64 t12] h_14 fun v1 h_15=>
 ∃ (t13:Bool),v1=(.bool t13)/\AgreeH (h_13).size h_14 h_15/\0≤((IntKind.wrap .i64 (Int.tdiv t9 2)):Int)/\((IntKind.wrap .i64 (Int.tdiv t9 2)):Int)<((Int.toNat (IntKind.wrap .i64 (t+1))):Nat)/\StoreH h_15 (Addr.add ⟨h_.size,0,none⟩ (Int.toNat (IntKind.wrap .i64 (Int.tdiv t9 2))*1)) [.bool t13] fun h_16=>next_2 (IntKind.wrap .i64 (i2+1)) h_16) (0≤((IntKind.wrap .i64 (Int.tdiv t9 2)):Int)/\((IntKind.wrap .i64 (Int.tdiv t9 2)):Int)<((Int.toNat (IntKind.wrap .i64 (t+1))):Nat)/\StoreH h_14 (Addr.add ⟨h_.size,0,none⟩ (Int.toNat (IntKind.wrap .i64 (Int.tdiv t9 2))*1)) [.bool false] fun h_17=>next_2 (IntKind.wrap .i64 (i2+1)) h_17)
def J83_4  (R:Value->Heap->Prop) (h_:Heap) (t:Int) (h_18:Heap):Prop:=
 R (.slice (some ⟨h_.size,0,none⟩) (Int.toNat (IntKind.wrap .i64 (t+1))) (Int.toNat (IntKind.wrap .i64 (t+1)))) h_18
def B83_6 (P:Program) (R:Value->Heap->Prop) (h:Heap) (orderA:(Option Addr)) (orderN:Nat) (h_:Heap) (t i2:Int) (h_10:Heap) (next_2:Int->Heap->Prop):Prop:=
 PIf (i2<((orderN:Nat):Int))
 (J83_5 P h orderA orderN h_ t i2 next_2 h_10)
 (J83_4 R h_ t h_10)
def J83_2  (P:Program) (R:Value->Heap->Prop) (h:Heap) (orderA:(Option Addr)) (orderN:Nat) (h_:Heap) (t:Int) (h_9:Heap):Prop:=
 LoopT (σ:=Int) (fun st_ h_st nx_st=>B83_6 P R h orderA orderN h_ t (st_) h_st nx_st) (0) h_9
def B83_7 (P:Program) (R:Value->Heap->Prop) (h:Heap) (orderA:(Option Addr)) (orderN:Nat) (stateA:(Option Addr)) (stateN:Nat) (h_:Heap) (t i1:Int) (h_6:Heap) (next_1:Int->Heap->Prop):Prop:=
 ∃ (A2:Option Addr) (N2 C2:Nat),cellH h_6 (Addr.add ⟨h.size,0,none⟩ 2)=some (.slice A2 N2 C2)/\PIf (i1<((N2:Nat):Int))
 (J83_3 h stateA stateN h_ t i1 next_1 h_6)
 (J83_2 P R h orderA orderN h_ t h_6)
def J83_0  (P:Program) (R:Value->Heap->Prop) (h:Heap) (orderA:(Option Addr)) (orderN:Nat) (stateA:(Option Addr)) (stateN:Nat) (h_:Heap) (t:Int) (h_5:Heap):Prop:=
 LoopT (σ:=Int) (fun st_ h_st nx_st=>B83_7 P R h orderA orderN stateA stateN h_ t (st_) h_st nx_st) (0) h_5
def B83_8 (P:Program) (R:Value->Heap->Prop) (h:Heap) (orderA:(Option Addr)) (orderN:Nat) (stateA:(Option Addr)) (stateN:Nat) (rowA:(Option Addr)) (rowN:Nat) (h_:Heap) (t i:Int) (h_2:Heap) (next_:Int->Heap->Prop):Prop:=
 ∃ (A:Option Addr) (N C:Nat),cellH h_2 (Addr.add ⟨h.size,0,none⟩ 1)=some (.slice A N C)/\PIf (i<((N:Nat):Int))
 (J83_1 h rowA rowN h_ t i next_ h_2)
 (J83_0 P R h orderA orderN stateA stateN h_ t h_2)
def VC83 (P:Program) (c:CV) (orderA:Option Addr) (orderN orderC:Nat) (stateA:Option Addr) (stateN stateC:Nat) (rowA:Option Addr) (rowN rowC:Nat) (R:Value->Heap->Prop) (h:Heap):Prop:=
 let h_:Heap:=(h).push (.cells (Value.cells c.v) 29);∃ (t:Int),cellH h_ (Addr.add ⟨h.size,0,none⟩ 0)=some (.int .i64 t)/\0≤((IntKind.wrap .i64 (t+1)):Int)/\((IntKind.wrap .i64 (t+1)):Int)≤(IntKind.wrap .i64 (t+1))/\(1:Int)*(IntKind.wrap .i64 (t+1))≤281474976710656/\let h_1:Heap:=(h_).push (.cells (zeroRow #[.bool false] (Int.toNat (IntKind.wrap .i64 (t+1))*1)).toArray 4);LoopT (σ:=Int) (fun st_ h_st nx_st=>B83_8 P R h orderA orderN stateA stateN rowA rowN h_ t (st_) h_st nx_st) (0) h_1
theorem run83 (c:CV) (orderA:Option Addr) (orderN orderC:Nat) (stateA:Option Addr) (stateN stateC:Nat) (rowA:Option Addr) (rowN rowC:Nat) (R:Value->Heap->Prop) (h:Heap) (hv:VC83 Tryz.prog c orderA orderN orderC stateA stateN stateC rowA rowN rowC R h):CallsH Tryz.prog 83 #[c.v,.slice orderA orderN orderC,.slice stateA stateN stateC,.slice rowA rowN rowC] h R:=calls_of_fnC (Checked.mixed Tryz.checked) Tryz.func83 comp83 (Nat.le_of_ble_eq_true rfl) (Eq.mp (by kernel_rfl) hv)
def loops97:List (List (Nat×Shp)):=[[(6,.int .i64)]]
noncomputable def code97:SCode:=((compF Tryz.prog Tryz.f97 loops97).elim .skip fun x=>x.2.2)
def ret97:List RV:=[.tmp 4]
theorem comp97:compF Tryz.prog Tryz.f97 loops97=some (30,ret97,code97):=by kernel_rfl
def J97_1  (P:Program) (h:Heap) (valuesA:(Option Addr)) (valuesN valuesC:Nat) (h_:Heap) (N:Nat) (i:Int) (next_:(Int->Heap->Prop)) (h_3:Heap):Prop:=
 ∃ (A2:Option Addr) (N2 C2:Nat),cellH h_3 (Addr.add ⟨h.size,0,none⟩ 2)=some (.slice A2 N2 C2)/\0≤i/\i<(N2:Nat)/\AtP A2 fun ad=>∃ (t:Int),cellH h_3 (Addr.add (Addr.add ad (Int.toNat i*3)) 1)=some (.int .i64 t)/\CallsH P 58 #[.slice valuesA valuesN valuesC,.int .i64 t] h_3 fun v h_4=>
 ∃ (t1:Bool),v=(.bool t1)/\0≤i/\i<((Int.toNat ((N:Nat):Int)):Nat)/\StoreH h_4 (Addr.add ⟨h_.size,0,none⟩ (Int.toNat i*1)) [.bool t1] fun h_5=>next_ (IntKind.wrap .i64 (i+1)) h_5
def J97_0  (R:Value->Heap->Prop) (h_:Heap) (N:Nat) (h_6:Heap):Prop:=
 R (.slice (some ⟨h_.size,0,none⟩) (Int.toNat ((N:Nat):Int)) (Int.toNat ((N:Nat):Int))) h_6
def B97_2 (P:Program) (R:Value->Heap->Prop) (h:Heap) (valuesA:(Option Addr)) (valuesN valuesC:Nat) (h_:Heap) (N:Nat) (i:Int) (h_2:Heap) (next_:Int->Heap->Prop):Prop:=
 ∃ (A1:Option Addr) (N1 C1:Nat),cellH h_2 (Addr.add ⟨h.size,0,none⟩ 2)=some (.slice A1 N1 C1)/\PIf (i<((N1:Nat):Int))
 (J97_1 P h valuesA valuesN valuesC h_ N i next_ h_2)
 (J97_0 R h_ N h_2)
def VC97 (P:Program) (c:CV) (valuesA:Option Addr) (valuesN valuesC:Nat) (R:Value->Heap->Prop) (h:Heap):Prop:=
 let h_:Heap:=(h).push (.cells (Value.cells c.v) 29);∃ (A:Option Addr) (N C:Nat),cellH h_ (Addr.add ⟨h.size,0,none⟩ 2)=some (.slice A N C)/\0≤(((N:Nat):Int):Int)/\(((N:Nat):Int):Int)≤((N:Nat):Int)/\(1:Int)*((N:Nat):Int)≤281474976710656/\let h_1:Heap:=(h_).push (.cells (zeroRow #[.bool false] (Int.toNat ((N:Nat):Int)*1)).toArray 4);LoopT (σ:=Int) (fun st_ h_st nx_st=>B97_2 P R h valuesA valuesN valuesC h_ N (st_) h_st nx_st) (0) h_1
theorem run97 (c:CV) (valuesA:Option Addr) (valuesN valuesC:Nat) (R:Value->Heap->Prop) (h:Heap) (hv:VC97 Tryz.prog c valuesA valuesN valuesC R h):CallsH Tryz.prog 97 #[c.v,.slice valuesA valuesN valuesC] h R:=calls_of_fnC (Checked.mixed Tryz.checked) Tryz.func97 comp97 (Nat.le_of_ble_eq_true rfl) (Eq.mp (by kernel_rfl) hv)
def loops58:List (List (Nat×Shp)):=[]
noncomputable def code58:SCode:=((compF Tryz.prog Tryz.f58 loops58).elim .skip fun x=>x.2.2)
def ret58:List RV:=[.tmp 4]
theorem comp58:compF Tryz.prog Tryz.f58 loops58=some (14,ret58,code58):=by kernel_rfl
def VC58 (P:Program) (valuesA:Option Addr) (valuesN valuesC:Nat) (l:Int) (R:Value->Heap->Prop) (h:Heap):Prop:=
 0≤((IntKind.wrap .i64 (Int.tdiv l 2)):Int)/\((IntKind.wrap .i64 (Int.tdiv l 2)):Int)<(valuesN:Nat)/\AtP valuesA fun ad=>∃ (t:Bool),cellH h (Addr.add ad (Int.toNat (IntKind.wrap .i64 (Int.tdiv l 2))*1))=some (.bool t)/\PIf (((Int.tmod l 2):Int)=1)
 (PIf ((t:Bool)=true)
 (R (.bool false) h)
 (R (.bool true) h))
 (PIf ((t:Bool)=false)
 (R (.bool false) h)
 (R (.bool true) h))
theorem run58 (valuesA:Option Addr) (valuesN valuesC:Nat) (l:Int) (R:Value->Heap->Prop) (h:Heap) (hv:VC58 Tryz.prog valuesA valuesN valuesC l R h):CallsH Tryz.prog 58 #[.slice valuesA valuesN valuesC,.int .i64 l] h R:=calls_of_fnC (Checked.mixed Tryz.checked) Tryz.func58 comp58 (Nat.le_of_ble_eq_true rfl) (Eq.mp (by kernel_rfl) hv)
def loops95:List (List (Nat×Shp)):=[[(5,.int .i64)]]
noncomputable def code95:SCode:=((compF Tryz.prog Tryz.f95 loops95).elim .skip fun x=>x.2.2)
def ret95:List RV:=[.tmp 4]
theorem comp95:compF Tryz.prog Tryz.f95 loops95=some (19,ret95,code95):=by kernel_rfl
def J95_1  (P:Program) (R:Value->Heap->Prop) (valuesA:(Option Addr)) (valuesN valuesC:Nat) (lA:(Option Addr)) (lN:Nat) (i:Int) (next_:(Int->Heap->Prop)) (h_1:Heap):Prop:=
 0≤i/\i<(lN:Nat)/\AtP lA fun ad=>∃ (t:Int),cellH h_1 (Addr.add ad (Int.toNat i*1))=some (.int .i64 t)/\CallsH P 58 #[.slice valuesA valuesN valuesC,.int .i64 t] h_1 fun v h_2=>
 ∃ (t1:Bool),v=(.bool t1)/\BIf (!t1) (R (.bool false) h_2) (next_ (IntKind.wrap .i64 (i+1)) h_2)
def J95_0  (R:Value->Heap->Prop) (h_3:Heap):Prop:=
 R (.bool true) h_3
def B95_2 (P:Program) (R:Value->Heap->Prop) (valuesA:(Option Addr)) (valuesN valuesC:Nat) (lA:(Option Addr)) (lN:Nat) (i:Int) (h_:Heap) (next_:Int->Heap->Prop):Prop:=
 PIf (i<((lN:Nat):Int))
 (J95_1 P R valuesA valuesN valuesC lA lN i next_ h_)
 (J95_0 R h_)
def VC95 (P:Program) (valuesA:Option Addr) (valuesN valuesC:Nat) (lA:Option Addr) (lN lC:Nat) (R:Value->Heap->Prop) (h:Heap):Prop:=
 LoopT (σ:=Int) (fun st_ h_st nx_st=>B95_2 P R valuesA valuesN valuesC lA lN (st_) h_st nx_st) (0) h
theorem run95 (valuesA:Option Addr) (valuesN valuesC:Nat) (lA:Option Addr) (lN lC:Nat) (R:Value->Heap->Prop) (h:Heap) (hv:VC95 Tryz.prog valuesA valuesN valuesC lA lN lC R h):CallsH Tryz.prog 95 #[.slice valuesA valuesN valuesC,.slice lA lN lC] h R:=calls_of_fnC (Checked.mixed Tryz.checked) Tryz.func95 comp95 (Nat.le_of_ble_eq_true rfl) (Eq.mp (by kernel_rfl) hv)
end Go.Proofs.YtdpbdjdgdmheiaaGreat
