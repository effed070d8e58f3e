/- Words and facts that the claim's proof leans on. No condition. -/
import Derived.Test.YtdpbdjdgdmheiaaGreatHxV
import Derived.Test.YtdpbdjdgdmheiaaGreatChecked
set_option maxRecDepth 100000
set_option linter.unusedVariables false
namespace Go.Proofs.YtdpbdjdgdmheiaaGreat
open Go.Hx
def loops20:List (List (Nat×Shp)):=[[(45,.int .i64)]]
noncomputable def code20:SCode:=((compF Tryz.prog Tryz.f20 loops20).elim .skip fun x=>x.2.2)
def ret20:List RV:=[.cellN 4 [.slice,.slice,.int .i64],.tmp 5]
theorem comp20:compF Tryz.prog Tryz.f20 loops20=some (71,ret20,code20):=by kernel_rfl
def J20_4  (P:Program) (R:Value->Heap->Prop) (h:Heap) (i:Int) (h_:Heap) (t1:(Option Addr)) (t7:Int) (h_10:Heap) (A20:(Option Addr)) (N20:Nat) (t9:Int) (next_:(Int->Heap->Prop)) (h_14:Heap):Prop:=
 0≤t9/\t9<(N20:Nat)/\AtP A20 fun ad1=>∃ (t10:Int),cellsH h_14 (Addr.add ad1 (Int.toNat t9*1)) 0 [.int .u64 t10]/\let h_15:Heap:=(h_14).push (.cells #[.int .u64 0] 76);StoreH h_15 ⟨h_14.size,0,none⟩ [.int .u64 t10] fun h_16=>∃ (t11:Int),cellsH h_16 ⟨h_14.size,0,none⟩ 0 [.int .u64 t11]/\∃ (A21:Option Addr) (N21 C21:Nat),cellH h_16 (Addr.add ⟨h.size,0,none⟩ 4)=some (.slice A21 N21 C21)/\0≤i/\i<(N21:Nat)/\AtP A21 fun ad2=>∃ (t12:Int),cellH h_16 (Addr.add ad2 (Int.toNat i*1))=some (.int .i64 t12)/\CallsH P 54 #[.pointer t1,(.agg #[.int .u64 t11]),.int .i64 t12,.int .i64 t7,(.map (some (h_10).size))] h_16 fun v3 h_17=>
 ∃ (t13:Bool),v3=(.bool t13)/\BIf t13 (∃ (t14:Int),cellsH h_17 ⟨h_14.size,0,none⟩ 0 [.int .u64 t14]/\∃ (A22:Option Addr) (N22 C22:Nat),cellH h_17 (Addr.add ⟨h.size,0,none⟩ 4)=some (.slice A22 N22 C22)/\0≤i/\i<(N22:Nat)/\AtP A22 fun ad3=>∃ (t15:Int),cellH h_17 (Addr.add ad3 (Int.toNat i*1))=some (.int .i64 t15)/\CallsH P 55 #[.pointer t1,(.agg #[.int .u64 t14]),.int .i64 t15,.int .i64 t7,(.map (some (h_10).size))] h_17 fun v4 h_18=>
 ExTr fun t16=>v4=t16.v/\StoreH h_18 ⟨h_.size,0,none⟩ t16.cs fun h_19=>LdT h_19 ⟨h_.size,0,none⟩ fun t17=>R (.tuple #[t17.v,.int .i64 0]) h_19) (next_ (IntKind.wrap .i64 (t9+1)) h_17)
def J20_3  (R:Value->Heap->Prop) (h_ h_20:Heap):Prop:=
 StoreH h_20 ⟨h_.size,0,none⟩ TV.zero.cs fun h_21=>LdT h_21 ⟨h_.size,0,none⟩ fun t18=>R (.tuple #[t18.v,.int .i64 5]) h_21
def B20_6 (P:Program) (R:Value->Heap->Prop) (h:Heap) (i:Int) (h_:Heap) (t1:(Option Addr)) (t7:Int) (h_10:Heap) (A20:(Option Addr)) (N20:Nat) (t9:Int) (h_13:Heap) (next_:Int->Heap->Prop):Prop:=
 PIf (t9<((N20:Nat):Int))
 (J20_4 P R h i h_ t1 t7 h_10 A20 N20 t9 next_ h_13)
 (J20_3 R h_ h_13)
def J20_2  (P:Program) (R:Value->Heap->Prop) (h:Heap) (i:Int) (h_:Heap) (t1:(Option Addr)) (t7:Int) (h_10:Heap):Prop:=
 let h_11:Heap:=(h_10).push (.map #[] 0);CallsH P 53 #[.pointer t1] h_11 fun v2 h_12=>
 ∃ (A20:Option Addr) (N20 C20:Nat),v2=(.slice A20 N20 C20)/\LoopT (σ:=Int) (fun st_ h_st nx_st=>B20_6 P R h i h_ t1 t7 h_10 A20 N20 (st_) h_st nx_st) (0) h_12
def J20_1  (P:Program) (R:Value->Heap->Prop) (h:Heap) (i:Int) (h_:Heap) (t1:(Option Addr)) (h_7:Heap):Prop:=
 ∃ (A17:Option Addr) (N17 C17:Nat),cellH h_7 (Addr.add ⟨h.size,0,none⟩ 4)=some (.slice A17 N17 C17)/\0≤i/\i<(N17:Nat)/\AtP A17 fun ad=>∃ (t6:Int),cellH h_7 (Addr.add ad (Int.toNat i*1))=some (.int .i64 t6)/\CallsH P 51 #[.pointer t1,.int .i64 t6] h_7 fun v1 h_8=>
 ∃ (t7:Int),v1=(.int .i64 t7)/\PIf (t7<0)
 (StoreH h_8 ⟨h_.size,0,none⟩ TV.zero.cs fun h_9=>LdT h_9 ⟨h_.size,0,none⟩ fun t8=>R (.tuple #[t8.v,.int .i64 5]) h_9)
 (J20_2 P R h i h_ t1 t7 h_8)
def J20_0  (P:Program) (R:Value->Heap->Prop) (h:Heap) (i:Int) (h_:Heap) (t1:(Option Addr)) (h_4:Heap):Prop:=
 PIf (i<0)
 (StoreH h_4 ⟨h_.size,0,none⟩ TV.zero.cs fun h_5=>LdT h_5 ⟨h_.size,0,none⟩ fun t4=>R (.tuple #[t4.v,.int .i64 5]) h_5)
 (∃ (A14:Option Addr) (N14 C14:Nat),cellH h_4 (Addr.add ⟨h.size,0,none⟩ 4)=some (.slice A14 N14 C14)/\PIf ((((N14:Nat):Int):Int)≤i)
 (StoreH h_4 ⟨h_.size,0,none⟩ TV.zero.cs fun h_6=>LdT h_6 ⟨h_.size,0,none⟩ fun t5=>R (.tuple #[t5.v,.int .i64 5]) h_6)
 (J20_1 P R h i h_ t1 h_4))
def VC20 (P:Program) (c:CV) (i:Int) (R:Value->Heap->Prop) (h:Heap):Prop:=
 let h_:Heap:=(h).push (.cells (Value.cells c.v) 29);let h_1:Heap:=(h_).push (.cells TV.zero.cs.toArray 49);LdC h_1 ⟨h.size,0,none⟩ fun t=>CallsH P 42 #[t.v] h_1 fun v h_2=>
 ∃ (t1:Option Addr) (t2:Int),v=(.tuple #[.pointer t1,.int .i64 t2])/\PIf (t2=0)
 (J20_0 P R h i h_ t1 h_2)
 (StoreH h_2 ⟨h_.size,0,none⟩ TV.zero.cs fun h_3=>LdT h_3 ⟨h_.size,0,none⟩ fun t3=>R (.tuple #[t3.v,.int .i64 t2]) h_3)
theorem run20 (c:CV) (i:Int) (R:Value->Heap->Prop) (h:Heap) (hv:VC20 Tryz.prog c i R h):CallsH Tryz.prog 20 #[c.v,.int .i64 i] h R:=calls_of_fnC (Checked.mixed Tryz.checked) Tryz.func20 comp20 (Nat.le_of_ble_eq_true rfl) (Eq.mp (by kernel_rfl) hv)
def loops54:List (List (Nat×Shp)):=[[(36,.int .i64)]]
noncomputable def code54:SCode:=((compF Tryz.prog Tryz.f54 loops54).elim .skip fun x=>x.2.2)
def ret54:List RV:=[.tmp 10]
theorem comp54:compF Tryz.prog Tryz.f54 loops54=some (65,ret54,code54):=by kernel_rfl
def J54_2  (t10:Int) (h_6:Heap):Prop:=
 0≤t10/\t10<(0:Nat)/\False
def J54_1  (R:Value->Heap->Prop) (h_7:Heap):Prop:=
 R (.bool false) h_7
def B54_4 (R:Value->Heap->Prop) (t10:Int) (h_5:Heap) (next_:Int->Heap->Prop):Prop:=
 PIf (t10<((0:Nat):Int))
 (J54_2 t10 h_5)
 (J54_1 R h_5)
def J54_5  (P:Program) (R:Value->Heap->Prop) (w:(Option Addr)) (l d:Int) (memo:(Option Nat)) (h_:Heap) (A:(Option Addr)) (N:Nat) (t11:Int) (next_1:(Int->Heap->Prop)) (h_9:Heap):Prop:=
 0≤t11/\t11<(N:Nat)/\AtP A fun ad1=>∃ (t12 t13:Int) (A1:Option Addr) (N1 C1:Nat),cellsH h_9 (Addr.add ad1 (Int.toNat t11*3)) 0 [.int .i64 t12,.int .u64 t13,.slice A1 N1 C1]/\let h_10:Heap:=(h_9).push (.cells #[.int .i64 0,.int .u64 0,.slice none 0 0] 148);StoreH h_10 ⟨h_9.size,0,none⟩ [.int .i64 t12,.int .u64 t13,.slice A1 N1 C1] fun h_11=>PIf (d=0)
 (∃ (A2:Option Addr) (N2 C2:Nat),cellH h_11 (Addr.add ⟨h_9.size,0,none⟩ 2)=some (.slice A2 N2 C2)/\CallsH P 92 #[.slice A2 N2 C2,.int .i64 l] h_11 fun v h_12=>
 ∃ (t14:Bool),v=(.bool t14)/\BIf t14 (∃ (t19 t20:Int),cellsH h_12 ⟨h_.size,0,none⟩ 0 [.int .u64 t19,.int .u64 t20]/\MapPut (.flat [.int .u64,.int .u64]) (.agg #[.int .u64 t19,.int .u64 t20]) (.int .i64 1) h_12 memo fun h_15=>R (.bool true) h_15) (PIf ((0:Int)<d)
 (∃ (t15:Int),cellsH h_12 (Addr.add ⟨h_9.size,0,none⟩ 1) 0 [.int .u64 t15]/\CallsH P 54 #[.pointer w,(.agg #[.int .u64 t15]),.int .i64 l,(.int .i64 (IntKind.wrap .i64 (d-1))),(.map memo)] h_12 fun v1 h_13=>
 ∃ (t16:Bool),v1=(.bool t16)/\BIf t16 (∃ (t17 t18:Int),cellsH h_13 ⟨h_.size,0,none⟩ 0 [.int .u64 t17,.int .u64 t18]/\MapPut (.flat [.int .u64,.int .u64]) (.agg #[.int .u64 t17,.int .u64 t18]) (.int .i64 1) h_13 memo fun h_14=>R (.bool true) h_14) (next_1 (IntKind.wrap .i64 (t11+1)) h_13))
 (next_1 (IntKind.wrap .i64 (t11+1)) h_12)))
 (PIf ((0:Int)<d)
 (∃ (t21:Int),cellsH h_11 (Addr.add ⟨h_9.size,0,none⟩ 1) 0 [.int .u64 t21]/\CallsH P 54 #[.pointer w,(.agg #[.int .u64 t21]),.int .i64 l,(.int .i64 (IntKind.wrap .i64 (d-1))),(.map memo)] h_11 fun v2 h_16=>
 ∃ (t22:Bool),v2=(.bool t22)/\BIf t22 (∃ (t23 t24:Int),cellsH h_16 ⟨h_.size,0,none⟩ 0 [.int .u64 t23,.int .u64 t24]/\MapPut (.flat [.int .u64,.int .u64]) (.agg #[.int .u64 t23,.int .u64 t24]) (.int .i64 1) h_16 memo fun h_17=>R (.bool true) h_17) (next_1 (IntKind.wrap .i64 (t11+1)) h_16))
 (next_1 (IntKind.wrap .i64 (t11+1)) h_11))
def B54_7 (P:Program) (R:Value->Heap->Prop) (w:(Option Addr)) (l d:Int) (memo:(Option Nat)) (h_:Heap) (A:(Option Addr)) (N:Nat) (t11:Int) (h_8:Heap) (next_1:Int->Heap->Prop):Prop:=
 PIf (t11<((N:Nat):Int))
 (J54_5 P R w l d memo h_ A N t11 next_1 h_8)
 (J54_1 R h_8)
def J54_0  (P:Program) (R:Value->Heap->Prop) (h:Heap) (w:(Option Addr)) (l d:Int) (memo:(Option Nat)) (h_ h_3:Heap):Prop:=
 ∃ (t6 t7:Int),cellsH h_3 ⟨h_.size,0,none⟩ 0 [.int .u64 t6,.int .u64 t7]/\MapPut (.flat [.int .u64,.int .u64]) (.agg #[.int .u64 t6,.int .u64 t7]) (.int .i64 2) h_3 memo fun h_4=>AtP w fun ad=>∃ (t8:Option Nat),cellH h_4 (Addr.add ad 11)=some (.map t8)/\∃ (t9:Int),cellsH h_4 ⟨h.size,0,none⟩ 0 [.int .u64 t9]/\MapLook (.flat [.int .u64]) (.agg #[.int .u64 t9]) h_4 t8 none (LoopT (σ:=Int) (fun st_ h_st nx_st=>B54_4 R (st_) h_st nx_st) (0) h_4) fun u1=>∃ (A:Option Addr) (N C:Nat),u1=(.slice A N C)/\LoopT (σ:=Int) (fun st_ h_st nx_st=>B54_7 P R w l d memo h_ A N (st_) h_st nx_st) (0) h_4
def VC54 (P:Program) (w:Option Addr) (s l d:Int) (memo:Option Nat) (R:Value->Heap->Prop) (h:Heap):Prop:=
 let h_:Heap:=(h).push (.cells (Value.cells (.agg #[.int .u64 s])) 76);0≤(0:Int)/\(0:Int)<(1:Nat)/\∃ (t:Int),cellH h_ (Addr.add ⟨h.size,0,none⟩ (Int.toNat 0*1))=some (.int .u64 t)/\let h_1:Heap:=(h_).push (.cells #[.int .u64 0,.int .u64 0] 160);StoreH h_1 ⟨h_.size,0,none⟩ [.int .u64 t,(.int .u64 (IntKind.wrap .u64 d))] fun h_2=>∃ (t1 t2:Int),cellsH h_2 ⟨h_.size,0,none⟩ 0 [.int .u64 t1,.int .u64 t2]/\MapLook (.flat [.int .u64,.int .u64]) (.agg #[.int .u64 t1,.int .u64 t2]) h_2 memo none (PIf ((0:Int)<0)
 (∃ (t3 t4:Int),cellsH h_2 ⟨h_.size,0,none⟩ 0 [.int .u64 t3,.int .u64 t4]/\MapLook (.flat [.int .u64,.int .u64]) (.agg #[.int .u64 t3,.int .u64 t4]) h_2 memo none (PIf ((0:Int)=1)
 (R (.bool true) h_2)
 (R (.bool false) h_2)) fun u=>∃ (t5:Int),u=(.int .i64 t5)/\PIf (t5=1)
 (R (.bool true) h_2)
 (R (.bool false) h_2))
 (J54_0 P R h w l d memo h_ h_2)) fun u2=>∃ (t25:Int),u2=(.int .i64 t25)/\PIf ((0:Int)<t25)
 (∃ (t26 t27:Int),cellsH h_2 ⟨h_.size,0,none⟩ 0 [.int .u64 t26,.int .u64 t27]/\MapLook (.flat [.int .u64,.int .u64]) (.agg #[.int .u64 t26,.int .u64 t27]) h_2 memo none (PIf ((0:Int)=1)
 (R (.bool true) h_2)
 (R (.bool false) h_2)) fun u3=>∃ (t28:Int),u3=(.int .i64 t28)/\PIf (t28=1)
 (R (.bool true) h_2)
 (R (.bool false) h_2))
 (J54_0 P R h w l d memo h_ h_2)
theorem run54 (w:Option Addr) (s l d:Int) (memo:Option Nat) (R:Value->Heap->Prop) (h:Heap) (hv:VC54 Tryz.prog w s l d memo R h):CallsH Tryz.prog 54 #[.pointer w,(.agg #[.int .u64 s]),.int .i64 l,.int .i64 d,(.map memo)] h R:=calls_of_fnC (Checked.mixed Tryz.checked) Tryz.func54 comp54 (Nat.le_of_ble_eq_true rfl) (Eq.mp (by kernel_rfl) hv)
def loops55:List (List (Nat×Shp)):=[[(3,.int .i64)],[(35,.int .i64)]]
noncomputable def code55:SCode:=((compF Tryz.prog Tryz.f55 loops55).elim .skip fun x=>x.2.2)
def ret55:List RV:=[.cellN 10 [.slice,.slice,.int .i64]]
theorem comp55:compF Tryz.prog Tryz.f55 loops55=some (80,ret55,code55):=by kernel_rfl
def J55_3  (t3:Int) (h_10:Heap):Prop:=
 0≤t3/\t3<(0:Nat)/\False
def J55_2  (d1:Int) (next_:(Int->Heap->Prop)) (h_11:Heap):Prop:=
 next_ (IntKind.wrap .i64 (d1-1)) h_11
def B55_5 (d1:Int) (next_:(Int->Heap->Prop)) (t3:Int) (h_9:Heap) (next_1:Int->Heap->Prop):Prop:=
 PIf (t3<((0:Nat):Int))
 (J55_3 t3 h_9)
 (J55_2 d1 next_ h_9)
def J55_6  (P:Program) (h:Heap) (w:(Option Addr)) (l:Int) (memo:(Option Nat)) (b:Nat) (d1:Int) (next_:(Int->Heap->Prop)) (A2:(Option Addr)) (N2:Nat) (t4:Int) (next_2:(Int->Heap->Prop)) (h_13:Heap):Prop:=
 0≤t4/\t4<(N2:Nat)/\AtP A2 fun ad2=>∃ (t5 t6:Int) (A3:Option Addr) (N3 C3:Nat),cellsH h_13 (Addr.add ad2 (Int.toNat t4*3)) 0 [.int .i64 t5,.int .u64 t6,.slice A3 N3 C3]/\let h_14:Heap:=(h_13).push (.cells #[.int .i64 0,.int .u64 0,.slice none 0 0] 148);StoreH h_14 ⟨h_13.size,0,none⟩ [.int .i64 t5,.int .u64 t6,.slice A3 N3 C3] fun h_15=>PIf (d1=0)
 (∃ (A4:Option Addr) (N4 C4:Nat),cellH h_15 (Addr.add ⟨h_13.size,0,none⟩ 2)=some (.slice A4 N4 C4)/\CallsH P 92 #[.slice A4 N4 C4,.int .i64 l] h_15 fun v1 h_16=>
 ∃ (t7:Bool),v1=(.bool t7)/\BIf t7 ((Addr.block (Addr.add (Addr.mk b 0 none) 1))<(h_16).size/\∃ (A8:Option Addr) (N8 C8:Nat),cellH h_16 (Addr.add (Addr.mk b 0 none) 1)=some (.slice A8 N8 C8)/\(Addr.block (Addr.add ⟨h_13.size,0,none⟩ 0))<(h_16).size/\∃ (t12:Int),cellH h_16 (Addr.add ⟨h_13.size,0,none⟩ 0)=some (.int .i64 t12)/\AtP w fun ad4=>(Addr.block (Addr.add (Addr.add ad4 0) 1))<(h_16).size/\∃ (A9:Option Addr) (N9 C9:Nat),cellH h_16 (Addr.add (Addr.add ad4 0) 1)=some (.slice A9 N9 C9)/\CallsH P 88 #[(.int .u64 (IntKind.wrap .u64 t12)),(.int .i64 ((N9:Nat):Int))] h_16 fun v4 h_23=>
 ∃ (A10:Option Addr) (N10 C10:Nat),v4=(.slice A10 N10 C10)/\AgreeH (h_16).size h_16 h_23/\let h_24:Heap:=(h_23).push (.cells #[.slice A10 N10 C10] 46);AgreeH (h_16).size h_23 h_24/\∃ ys1:List Value,ReadL h_24 (some ⟨h_23.size,0,none⟩) ys1/\ys1.length=1*1/\AppS h_24 A8 N8 C8 46 24 1 #[.slice none 0 0] ys1 1 fun apA1 apN1 apC1 h_25=>StoreH h_25 (Addr.add (Addr.mk b 0 none) 1) [.slice apA1 apN1 apC1] fun h_26=>∃ (t13:Int),cellsH h_26 (Addr.add ⟨h_13.size,0,none⟩ 1) 0 [.int .u64 t13]/\StoreH h_26 ⟨h.size,0,none⟩ [.int .u64 t13] fun h_27=>J55_2 d1 next_ h_27) (PIf ((0:Int)<d1)
 (∃ (t8:Int),cellsH h_16 (Addr.add ⟨h_13.size,0,none⟩ 1) 0 [.int .u64 t8]/\CallsH P 54 #[.pointer w,(.agg #[.int .u64 t8]),.int .i64 l,(.int .i64 (IntKind.wrap .i64 (d1-1))),(.map memo)] h_16 fun v2 h_17=>
 ∃ (t9:Bool),v2=(.bool t9)/\BIf t9 ((Addr.block (Addr.add (Addr.mk b 0 none) 1))<(h_17).size/\∃ (A5:Option Addr) (N5 C5:Nat),cellH h_17 (Addr.add (Addr.mk b 0 none) 1)=some (.slice A5 N5 C5)/\(Addr.block (Addr.add ⟨h_13.size,0,none⟩ 0))<(h_17).size/\∃ (t10:Int),cellH h_17 (Addr.add ⟨h_13.size,0,none⟩ 0)=some (.int .i64 t10)/\AtP w fun ad3=>(Addr.block (Addr.add (Addr.add ad3 0) 1))<(h_17).size/\∃ (A6:Option Addr) (N6 C6:Nat),cellH h_17 (Addr.add (Addr.add ad3 0) 1)=some (.slice A6 N6 C6)/\CallsH P 88 #[(.int .u64 (IntKind.wrap .u64 t10)),(.int .i64 ((N6:Nat):Int))] h_17 fun v3 h_18=>
 ∃ (A7:Option Addr) (N7 C7:Nat),v3=(.slice A7 N7 C7)/\AgreeH (h_17).size h_17 h_18/\let h_19:Heap:=(h_18).push (.cells #[.slice A7 N7 C7] 46);AgreeH (h_17).size h_18 h_19/\∃ ys:List Value,ReadL h_19 (some ⟨h_18.size,0,none⟩) ys/\ys.length=1*1/\AppS h_19 A5 N5 C5 46 24 1 #[.slice none 0 0] ys 1 fun apA apN apC h_20=>StoreH h_20 (Addr.add (Addr.mk b 0 none) 1) [.slice apA apN apC] fun h_21=>∃ (t11:Int),cellsH h_21 (Addr.add ⟨h_13.size,0,none⟩ 1) 0 [.int .u64 t11]/\StoreH h_21 ⟨h.size,0,none⟩ [.int .u64 t11] fun h_22=>J55_2 d1 next_ h_22) (next_2 (IntKind.wrap .i64 (t4+1)) h_17))
 (next_2 (IntKind.wrap .i64 (t4+1)) h_16)))
 (PIf ((0:Int)<d1)
 (∃ (t14:Int),cellsH h_15 (Addr.add ⟨h_13.size,0,none⟩ 1) 0 [.int .u64 t14]/\CallsH P 54 #[.pointer w,(.agg #[.int .u64 t14]),.int .i64 l,(.int .i64 (IntKind.wrap .i64 (d1-1))),(.map memo)] h_15 fun v5 h_28=>
 ∃ (t15:Bool),v5=(.bool t15)/\BIf t15 ((Addr.block (Addr.add (Addr.mk b 0 none) 1))<(h_28).size/\∃ (A11:Option Addr) (N11 C11:Nat),cellH h_28 (Addr.add (Addr.mk b 0 none) 1)=some (.slice A11 N11 C11)/\(Addr.block (Addr.add ⟨h_13.size,0,none⟩ 0))<(h_28).size/\∃ (t16:Int),cellH h_28 (Addr.add ⟨h_13.size,0,none⟩ 0)=some (.int .i64 t16)/\AtP w fun ad5=>(Addr.block (Addr.add (Addr.add ad5 0) 1))<(h_28).size/\∃ (A12:Option Addr) (N12 C12:Nat),cellH h_28 (Addr.add (Addr.add ad5 0) 1)=some (.slice A12 N12 C12)/\CallsH P 88 #[(.int .u64 (IntKind.wrap .u64 t16)),(.int .i64 ((N12:Nat):Int))] h_28 fun v6 h_29=>
 ∃ (A13:Option Addr) (N13 C13:Nat),v6=(.slice A13 N13 C13)/\AgreeH (h_28).size h_28 h_29/\let h_30:Heap:=(h_29).push (.cells #[.slice A13 N13 C13] 46);AgreeH (h_28).size h_29 h_30/\∃ ys2:List Value,ReadL h_30 (some ⟨h_29.size,0,none⟩) ys2/\ys2.length=1*1/\AppS h_30 A11 N11 C11 46 24 1 #[.slice none 0 0] ys2 1 fun apA2 apN2 apC2 h_31=>StoreH h_31 (Addr.add (Addr.mk b 0 none) 1) [.slice apA2 apN2 apC2] fun h_32=>∃ (t17:Int),cellsH h_32 (Addr.add ⟨h_13.size,0,none⟩ 1) 0 [.int .u64 t17]/\StoreH h_32 ⟨h.size,0,none⟩ [.int .u64 t17] fun h_33=>J55_2 d1 next_ h_33) (next_2 (IntKind.wrap .i64 (t4+1)) h_28))
 (next_2 (IntKind.wrap .i64 (t4+1)) h_15))
def B55_8 (P:Program) (h:Heap) (w:(Option Addr)) (l:Int) (memo:(Option Nat)) (b:Nat) (d1:Int) (next_:(Int->Heap->Prop)) (A2:(Option Addr)) (N2:Nat) (t4:Int) (h_12:Heap) (next_2:Int->Heap->Prop):Prop:=
 PIf (t4<((N2:Nat):Int))
 (J55_6 P h w l memo b d1 next_ A2 N2 t4 next_2 h_12)
 (J55_2 d1 next_ h_12)
def J55_1  (P:Program) (h:Heap) (w:(Option Addr)) (l:Int) (memo:(Option Nat)) (b:Nat) (d1:Int) (next_:(Int->Heap->Prop)) (h_8:Heap):Prop:=
 AtP w fun ad1=>∃ (t1:Option Nat),cellH h_8 (Addr.add ad1 11)=some (.map t1)/\∃ (t2:Int),cellsH h_8 ⟨h.size,0,none⟩ 0 [.int .u64 t2]/\MapLook (.flat [.int .u64]) (.agg #[.int .u64 t2]) h_8 t1 none (LoopT (σ:=Int) (fun st_ h_st nx_st=>B55_5 d1 next_ (st_) h_st nx_st) (0) h_8) fun u=>∃ (A2:Option Addr) (N2 C2:Nat),u=(.slice A2 N2 C2)/\LoopT (σ:=Int) (fun st_ h_st nx_st=>B55_8 P h w l memo b d1 next_ A2 N2 (st_) h_st nx_st) (0) h_8
def J55_0  (R:Value->Heap->Prop) (h_:Heap) (b:Nat) (h_34:Heap):Prop:=
 LdT h_34 (Addr.mk b 0 none) fun t18=>StoreH h_34 ⟨h_.size,0,none⟩ t18.cs fun h_35=>LdT h_35 ⟨h_.size,0,none⟩ fun t19=>R t19.v h_35
def B55_9 (P:Program) (R:Value->Heap->Prop) (h:Heap) (w:(Option Addr)) (l:Int) (memo:(Option Nat)) (h_:Heap) (b:Nat) (d1:Int) (h_7:Heap) (next_:Int->Heap->Prop):Prop:=
 PIf ((0:Int)≤d1)
 (J55_1 P h w l memo b d1 next_ h_7)
 (J55_0 R h_ b h_7)
def VC55 (P:Program) (w:Option Addr) (s l d:Int) (memo:Option Nat) (R:Value->Heap->Prop) (h:Heap):Prop:=
 let h_:Heap:=(h).push (.cells (Value.cells (.agg #[.int .u64 s])) 76);let h_1:Heap:=(h_).push (.cells TV.zero.cs.toArray 49);0≤(0:Int)/\(0:Int)<(1:Nat)/\(Addr.block (Addr.add ⟨h.size,0,none⟩ (Int.toNat 0*1)))<(h_1).size/\∃ (t:Int),cellH h_1 (Addr.add ⟨h.size,0,none⟩ (Int.toNat 0*1))=some (.int .u64 t)/\AtP w fun ad=>(Addr.block (Addr.add (Addr.add ad 0) 2))<(h_1).size/\∃ (A:Option Addr) (N C:Nat),cellH h_1 (Addr.add (Addr.add ad 0) 2)=some (.slice A N C)/\∀ (U:Nat->Prop) (h_2:Heap),GrowH none' h_1 U h_2->CallsH P 88 #[.int .u64 t,(.int .i64 ((N:Nat):Int))] h_2 fun v h_3=>
 ∃ (A1:Option Addr) (N1 C1:Nat),v=(.slice A1 N1 C1)/\Keeps (h_1).size U h_2 h_3/\∀ (U1:Nat->Prop) (h_4:Heap) (b:Nat),GrowH U h_3 U1 h_4->U1 b->(h_4)[b]?=some (Obj.cells TV.zero.cs.toArray 49)->∀ (U2:Nat->Prop) (h_5:Heap),GrowH (minus U1 b) h_4 U2 h_5->StoreH h_5 (Addr.mk b 0 none) [.slice A1 N1 C1,.slice none 0 0,(.int .i64 (-1))] fun h_6=>(h_5).size≤(h_6).size/\LoopT (σ:=Int) (fun st_ h_st nx_st=>B55_9 P R h w l memo h_ b (st_) h_st nx_st) (d) h_6
theorem run55 (w:Option Addr) (s l d:Int) (memo:Option Nat) (R:Value->Heap->Prop) (h:Heap) (hv:VC55 Tryz.prog w s l d memo R h):CallsH Tryz.prog 55 #[.pointer w,(.agg #[.int .u64 s]),.int .i64 l,.int .i64 d,(.map memo)] h R:=calls_of_fnC (Checked.mixed Tryz.checked) Tryz.func55 comp55 (Nat.le_of_ble_eq_true rfl) (Eq.mp (by kernel_rfl) hv)
end Go.Proofs.YtdpbdjdgdmheiaaGreat
