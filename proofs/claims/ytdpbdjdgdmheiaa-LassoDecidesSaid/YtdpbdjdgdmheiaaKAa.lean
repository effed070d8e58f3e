/- Words and facts that the claim's proof leans on. No condition. -/
import Derived.Test.YtdpbdjdgdmheiaaHxV
import Derived.Test.YtdpbdjdgdmheiaaChecked
set_option maxRecDepth 100000
set_option linter.unusedVariables false
namespace Go.Proofs.Ytdpbdjdgdmheiaa
open Go.Hx
def loops24:List (List (Nat×Shp)):=[]
noncomputable def code24:SCode:=((compF Try.prog Try.f24 loops24).elim .skip fun x=>x.2.2)
def ret24:List RV:=[.cellN 4 [.int .i64,.slice,.slice,.slice,.slice,.slice,.slice,.slice,.slice,.slice,.slice],.tmp 5]
theorem comp24:compF Try.prog Try.f24 loops24=some (23,ret24,code24):=by kernel_rfl
def J24_0  (R:Value->Heap->Prop) (h_:Heap) (t1:(Option Addr)) (h_4:Heap):Prop:=
 AtP t1 fun ad=>LdC h_4 (Addr.add (Addr.add ad 0) 0) fun t4=>StoreH h_4 ⟨h_.size,0,none⟩ t4.cs fun h_5=>LdC h_5 ⟨h_.size,0,none⟩ fun t5=>R (.tuple #[t5.v,.int .i64 0]) h_5
def VC24 (P:Program) (c:CV) (j:Int) (R:Value->Heap->Prop) (h:Heap):Prop:=
 let h_:Heap:=(h).push (.cells (Value.cells c.v) 29);let h_1:Heap:=(h_).push (.cells CV.zero.cs.toArray 29);LdC h_1 ⟨h.size,0,none⟩ fun t=>CallsH P 48 #[t.v,.int .i64 j] h_1 fun v h_2=>
 ∃ (t1:Option Addr) (t2:Int),v=(.tuple #[.pointer t1,.int .i64 t2])/\PIf (t2=0)
 (J24_0 R h_ t1 h_2)
 (StoreH h_2 ⟨h_.size,0,none⟩ CV.zero.cs fun h_3=>LdC h_3 ⟨h_.size,0,none⟩ fun t3=>R (.tuple #[t3.v,.int .i64 t2]) h_3)
theorem run24 (c:CV) (j:Int) (R:Value->Heap->Prop) (h:Heap) (hv:VC24 Try.prog c j R h):CallsH Try.prog 24 #[c.v,.int .i64 j] h R:=calls_of_fnC (Checked.mixed Try.checked) Try.func24 comp24 (Nat.le_of_ble_eq_true rfl) (Eq.mp (by kernel_rfl) hv)
def loops25:List (List (Nat×Shp)):=[[(71,.int .i64)]]
noncomputable def code25:SCode:=((compF Try.prog Try.f25 loops25).elim .skip fun x=>x.2.2)
def ret25:List RV:=[.cellN 6 [.slice,.slice,.int .i64],.tmp 7]
theorem comp25:compF Try.prog Try.f25 loops25=some (91,ret25,code25):=by kernel_rfl
def J25_4  (P:Program) (h_ h_12:Heap) (apA:(Option Addr)) (apN:Nat) (t14:Int) (next_:(Int->Heap->Prop)) (h_22:Heap):Prop:=
 0≤t14/\t14<(apN:Nat)/\AtP apA fun ad2=>∃ (A39:Option Addr) (N39 C39:Nat),cellH h_22 (Addr.add ad2 (Int.toNat t14*1))=some (.slice A39 N39 C39)/\∃ zn1:Zone,Zone.Le (h_22).size zn1/\∀ (U3:Nat->Prop) (h_23:Heap),GrowH none' h_22 U3 h_23->CallsH P 51 #[.slice A39 N39 C39] h_23 fun v4 h_24=>
 ∃ (A40:Option Addr) (N40 C40:Nat),v4=(.slice A40 N40 C40)/\KeepsZ zn1 U3 h_23 h_24/\Zone.hasL zn1 h_24 (Addr.add ⟨h_.size,0,none⟩ 2)/\∃ (t15:Int),cellH h_24 (Addr.add ⟨h_.size,0,none⟩ 2)=some (.int .i64 t15)/\PIf (t14=t15)
 (∀ (U4:Nat->Prop) (h_25:Heap) (b1:Nat),GrowH U3 h_24 U4 h_25->U4 b1->(h_25)[b1]?=some (Obj.cells #[.bool true] 4)->∀ (U5:Nat->Prop) (h_26:Heap),GrowH (minus U4 b1) h_25 U5 h_26->∃ ys2:List Value,ReadL h_26 (some (Addr.mk b1 0 none)) ys2/\ys2.length=1*1/\AppS h_26 A40 N40 C40 4 1 1 #[.bool false] ys2 1 fun apA1 apN1 apC1 h_27=>KeepsZ zn1 U5 h_26 h_27/\Zone.hasL zn1 h_27 (Addr.add ⟨h_12.size,0,none⟩ 1)/\∃ (A41:Option Addr) (N41 C41:Nat),cellH h_27 (Addr.add ⟨h_12.size,0,none⟩ 1)=some (.slice A41 N41 C41)/\∀ (U6:Nat->Prop) (h_28:Heap) (b2:Nat),GrowH U5 h_27 U6 h_28->U6 b2->(h_28)[b2]?=some (Obj.cells #[.slice apA1 apN1 apC1] 44)->∀ (U7:Nat->Prop) (h_29:Heap),GrowH (minus U6 b2) h_28 U7 h_29->∃ ys3:List Value,ReadL h_29 (some (Addr.mk b2 0 none)) ys3/\ys3.length=1*1/\AppS h_29 A41 N41 C41 44 24 1 #[.slice none 0 0] ys3 1 fun apA2 apN2 apC2 h_30=>KeepsZ zn1 U7 h_29 h_30/\∀ (U8:Nat->Prop) (h_31:Heap),GrowH U7 h_30 U8 h_31->StoreH h_31 (Addr.add ⟨h_12.size,0,none⟩ 1) [.slice apA2 apN2 apC2] fun h_32=>(h_31).size≤(h_32).size/\next_ (IntKind.wrap .i64 (t14+1)) h_32)
 (∀ (U9:Nat->Prop) (h_33:Heap) (b3:Nat),GrowH U3 h_24 U9 h_33->U9 b3->(h_33)[b3]?=some (Obj.cells #[.bool false] 4)->∀ (U10:Nat->Prop) (h_34:Heap),GrowH (minus U9 b3) h_33 U10 h_34->∃ ys4:List Value,ReadL h_34 (some (Addr.mk b3 0 none)) ys4/\ys4.length=1*1/\AppS h_34 A40 N40 C40 4 1 1 #[.bool false] ys4 1 fun apA3 apN3 apC3 h_35=>KeepsZ zn1 U10 h_34 h_35/\Zone.hasL zn1 h_35 (Addr.add ⟨h_12.size,0,none⟩ 1)/\∃ (A42:Option Addr) (N42 C42:Nat),cellH h_35 (Addr.add ⟨h_12.size,0,none⟩ 1)=some (.slice A42 N42 C42)/\∀ (U11:Nat->Prop) (h_36:Heap) (b4:Nat),GrowH U10 h_35 U11 h_36->U11 b4->(h_36)[b4]?=some (Obj.cells #[.slice apA3 apN3 apC3] 44)->∀ (U12:Nat->Prop) (h_37:Heap),GrowH (minus U11 b4) h_36 U12 h_37->∃ ys5:List Value,ReadL h_37 (some (Addr.mk b4 0 none)) ys5/\ys5.length=1*1/\AppS h_37 A42 N42 C42 44 24 1 #[.slice none 0 0] ys5 1 fun apA4 apN4 apC4 h_38=>KeepsZ zn1 U12 h_37 h_38/\∀ (U13:Nat->Prop) (h_39:Heap),GrowH U12 h_38 U13 h_39->StoreH h_39 (Addr.add ⟨h_12.size,0,none⟩ 1) [.slice apA4 apN4 apC4] fun h_40=>(h_39).size≤(h_40).size/\next_ (IntKind.wrap .i64 (t14+1)) h_40)
def J25_3  (R:Value->Heap->Prop) (h_1 h_12 h_41:Heap):Prop:=
 LdT h_41 ⟨h_12.size,0,none⟩ fun t16=>StoreH h_41 ⟨h_1.size,0,none⟩ t16.cs fun h_42=>LdT h_42 ⟨h_1.size,0,none⟩ fun t17=>R (.tuple #[t17.v,.int .i64 0]) h_42
def B25_6 (P:Program) (R:Value->Heap->Prop) (h_ h_1 h_12:Heap) (apA:(Option Addr)) (apN:Nat) (t14:Int) (h_21:Heap) (next_:Int->Heap->Prop):Prop:=
 PIf (t14<((apN:Nat):Int))
 (J25_4 P h_ h_12 apA apN t14 next_ h_21)
 (J25_3 R h_1 h_12 h_21)
def J25_2  (P:Program) (R:Value->Heap->Prop) (h_ h_1:Heap) (t2:(Option Addr)) (h_11:Heap):Prop:=
 AtP t2 fun ad=>∃ (A32:Option Addr) (N32 C32:Nat),cellH h_11 (Addr.add (Addr.add (Addr.add ad 0) 0) 2)=some (.slice A32 N32 C32)/\0≤(((N32:Nat):Int):Int)/\(((N32:Nat):Int):Int)≤((N32:Nat):Int)/\(1:Int)*((N32:Nat):Int)≤281474976710656/\let h_12:Heap:=(h_11).push (.cells (zeroRow #[.bool false] (Int.toNat ((N32:Nat):Int)*1)).toArray 4);let h_13:Heap:=(h_12).push (.cells TV.zero.cs.toArray 53);StoreH h_13 ⟨h_12.size,0,none⟩ [(.slice (some ⟨h_11.size,0,none⟩) (Int.toNat ((N32:Nat):Int)) (Int.toNat ((N32:Nat):Int))),.slice none 0 0,(.int .i64 (-1))] fun h_14=>∃ (A33:Option Addr) (N33 C33:Nat),cellH h_14 (Addr.add ⟨h_12.size,0,none⟩ 0)=some (.slice A33 N33 C33)/\∃ (A34:Option Addr) (N34 C34:Nat),cellH h_14 (Addr.add ⟨h_.size,0,none⟩ 0)=some (.slice A34 N34 C34)/\∃ ys:List Value,ReadL h_14 A34 ys/\ys.length=(min N34 N33)*1/\CpyH h_14 A33 ys fun h_15=>∃ zn:Zone,Zone.Le (h_15).size zn/\Zone.hasL zn h_15 (Addr.add ⟨h_.size,0,none⟩ 1)/\∃ (A35:Option Addr) (N35 C35:Nat),cellH h_15 (Addr.add ⟨h_.size,0,none⟩ 1)=some (.slice A35 N35 C35)/\∀ (U:Nat->Prop) (h_16:Heap),GrowH none' h_15 U h_16->CallsH P 50 #[.slice A35 N35 C35] h_16 fun v3 h_17=>
 ∃ (A36:Option Addr) (N36 C36:Nat),v3=(.slice A36 N36 C36)/\KeepsZ zn U h_16 h_17/\Zone.hasL zn h_17 (Addr.add ⟨h_.size,0,none⟩ 1)/\∃ (A37:Option Addr) (N37 C37:Nat),cellH h_17 (Addr.add ⟨h_.size,0,none⟩ 1)=some (.slice A37 N37 C37)/\Zone.hasL zn h_17 (Addr.add ⟨h_.size,0,none⟩ 2)/\∃ (t13:Int),cellH h_17 (Addr.add ⟨h_.size,0,none⟩ 2)=some (.int .i64 t13)/\0≤t13/\t13<(N37:Nat)/\AtP A37 fun ad1=>Zone.hasL zn h_17 (Addr.add ad1 (Int.toNat t13*1))/\∃ (A38:Option Addr) (N38 C38:Nat),cellH h_17 (Addr.add ad1 (Int.toNat t13*1))=some (.slice A38 N38 C38)/\∀ (U1:Nat->Prop) (h_18:Heap) (b:Nat),GrowH U h_17 U1 h_18->U1 b->(h_18)[b]?=some (Obj.cells #[.slice A38 N38 C38] 44)->∀ (U2:Nat->Prop) (h_19:Heap),GrowH (minus U1 b) h_18 U2 h_19->∃ ys1:List Value,ReadL h_19 (some (Addr.mk b 0 none)) ys1/\ys1.length=1*1/\AppS h_19 A36 N36 C36 44 24 1 #[.slice none 0 0] ys1 1 fun apA apN apC h_20=>KeepsZ zn U2 h_19 h_20/\LoopT (σ:=Int) (fun st_ h_st nx_st=>B25_6 P R h_ h_1 h_12 apA apN (st_) h_st nx_st) (0) h_20
def J25_1  (P:Program) (R:Value->Heap->Prop) (h:Heap) (j:Int) (h_ h_1:Heap) (t2:(Option Addr)) (h_8:Heap):Prop:=
 LdC h_8 ⟨h.size,0,none⟩ fun t8=>LdT h_8 ⟨h_.size,0,none⟩ fun t9=>CallsH P 26 #[t8.v,.int .i64 j,t9.v] h_8 fun v2 h_9=>
 ∃ (t10 t11:Int),v2=(.tuple #[.int .i64 t10,.int .i64 t11])/\PIf (t11=0)
 (J25_2 P R h_ h_1 t2 h_9)
 (StoreH h_9 ⟨h_1.size,0,none⟩ TV.zero.cs fun h_10=>LdT h_10 ⟨h_1.size,0,none⟩ fun t12=>R (.tuple #[t12.v,.int .i64 260]) h_10)
def J25_0  (P:Program) (R:Value->Heap->Prop) (h:Heap) (j:Int) (h_ h_1:Heap) (t2:(Option Addr)) (h_5:Heap):Prop:=
 LdT h_5 ⟨h_.size,0,none⟩ fun t5=>∃ (A14:Option Addr) (N14 C14:Nat),cellH h_5 (Addr.add ⟨h.size,0,none⟩ 2)=some (.slice A14 N14 C14)/\∃ (A15:Option Addr) (N15 C15:Nat),cellH h_5 (Addr.add ⟨h.size,0,none⟩ 1)=some (.slice A15 N15 C15)/\CallsH P 49 #[t5.v,(.int .i64 ((N14:Nat):Int)),(.int .i64 ((N15:Nat):Int)),.int .i64 511] h_5 fun v1 h_6=>
 ∃ (t6:Bool),v1=(.bool t6)/\BIf (!t6) (StoreH h_6 ⟨h_1.size,0,none⟩ TV.zero.cs fun h_7=>LdT h_7 ⟨h_1.size,0,none⟩ fun t7=>R (.tuple #[t7.v,.int .i64 4]) h_7) (J25_1 P R h j h_ h_1 t2 h_6)
def VC25 (P:Program) (c:CV) (j:Int) (t:TV) (R:Value->Heap->Prop) (h:Heap):Prop:=
 let h_:Heap:=(h).push (.cells (Value.cells c.v) 29);let h_1:Heap:=(h_).push (.cells (Value.cells t.v) 53);let h_2:Heap:=(h_1).push (.cells TV.zero.cs.toArray 53);LdC h_2 ⟨h.size,0,none⟩ fun t1=>CallsH P 48 #[t1.v,.int .i64 j] h_2 fun v h_3=>
 ∃ (t2:Option Addr) (t3:Int),v=(.tuple #[.pointer t2,.int .i64 t3])/\PIf (t3=0)
 (J25_0 P R h j h_ h_1 t2 h_3)
 (StoreH h_3 ⟨h_1.size,0,none⟩ TV.zero.cs fun h_4=>LdT h_4 ⟨h_1.size,0,none⟩ fun t4=>R (.tuple #[t4.v,.int .i64 t3]) h_4)
theorem run25 (c:CV) (j:Int) (t:TV) (R:Value->Heap->Prop) (h:Heap) (hv:VC25 Try.prog c j t R h):CallsH Try.prog 25 #[c.v,.int .i64 j,t.v] h R:=calls_of_fnC (Checked.mixed Try.checked) Try.func25 comp25 (Nat.le_of_ble_eq_true rfl) (Eq.mp (by kernel_rfl) hv)
def loops48:List (List (Nat×Shp)):=[]
noncomputable def code48:SCode:=((compF Try.prog Try.f48 loops48).elim .skip fun x=>x.2.2)
def ret48:List RV:=[.tmp 4,.tmp 5]
theorem comp48:compF Try.prog Try.f48 loops48=some (133,ret48,code48):=by kernel_rfl
def J48_2  (P:Program) (R:Value->Heap->Prop) (h h_5:Heap) (N25 N26:Nat) (h_7:Heap):Prop:=
 LdC h_7 ⟨h.size,0,none⟩ fun t5=>CallsH P 55 #[t5.v] h_7 fun v2 h_8=>
 ExCi fun t6=>v2=t6.v/\let h_9:Heap:=(h_8).push (.cells CV.zero.cs.toArray 29);StoreH h_9 ⟨h_8.size,0,none⟩ t6.cs fun h_10=>∃ zn:Zone,Zone.hasL zn h_10 (Addr.add ⟨h.size,0,none⟩ 0)/\∃ (t7:Int),cellH h_10 (Addr.add ⟨h.size,0,none⟩ 0)=some (.int .i64 t7)/\Zone.hasL zn h_10 (Addr.add ⟨h.size,0,none⟩ 0)/\∃ (t8:Int),cellH h_10 (Addr.add ⟨h.size,0,none⟩ 0)=some (.int .i64 t8)/\StoreH h_10 (Addr.add ⟨h_5.size,0,none⟩ 23) [(.int .i64 (IntKind.wrap .i64 (2*(IntKind.wrap .i64 (t7+1)))))] fun h_11=>Zone.r zn h_10 h_11/\StoreH h_11 (Addr.add ⟨h_5.size,0,none⟩ 24) [(.int .i64 (IntKind.wrap .i64 (2*(IntKind.wrap .i64 (t8+2)))))] fun h_12=>Zone.r zn h_11 h_12/\∃ zn1:Zone,Zone.hasL zn1 h_12 (Addr.add ⟨h.size,0,none⟩ 0)/\∃ (t9:Int),cellH h_12 (Addr.add ⟨h.size,0,none⟩ 0)=some (.int .i64 t9)/\Zone.hasL zn1 h_12 (Addr.add ⟨h_8.size,0,none⟩ 1)/\∃ (A49:Option Addr) (N49 C49:Nat),cellH h_12 (Addr.add ⟨h_8.size,0,none⟩ 1)=some (.slice A49 N49 C49)/\Zone.hasL zn1 h_12 (Addr.add ⟨h_5.size,0,none⟩ 23)/\∃ (t10:Int),cellH h_12 (Addr.add ⟨h_5.size,0,none⟩ 23)=some (.int .i64 t10)/\let h_13:Heap:=(h_12).push (.cells #[.int .i64 t10] 3);Zone.r zn1 h_12 h_13/\∃ ys:List Value,ReadL h_13 (some ⟨h_12.size,0,none⟩) ys/\ys.length=1*1/\AppS h_13 A49 N49 C49 3 8 1 #[.int .i64 0] ys 1 fun apA apN apC h_14=>Zone.r zn1 h_13 h_14/\Zone.hasL zn1 h_14 (Addr.add ⟨h_8.size,0,none⟩ 2)/\∃ (A50:Option Addr) (N50 C50:Nat),cellH h_14 (Addr.add ⟨h_8.size,0,none⟩ 2)=some (.slice A50 N50 C50)/\Zone.hasL zn1 h_14 (Addr.add ⟨h_8.size,0,none⟩ 5)/\∃ (A51:Option Addr) (N51 C51:Nat),cellH h_14 (Addr.add ⟨h_8.size,0,none⟩ 5)=some (.slice A51 N51 C51)/\Zone.hasL zn1 h_14 (Addr.add ⟨h_8.size,0,none⟩ 8)/\∃ (A52:Option Addr) (N52 C52:Nat),cellH h_14 (Addr.add ⟨h_8.size,0,none⟩ 8)=some (.slice A52 N52 C52)/\StoreH h_14 (Addr.add (Addr.add ⟨h_5.size,0,none⟩ 0) 0) [(.int .i64 (IntKind.wrap .i64 ((IntKind.wrap .i64 ((IntKind.wrap .i64 (t9+2))+((N25:Nat):Int)))+((N26:Nat):Int)))),.slice apA apN apC,.slice A50 N50 C50,.slice none 0 0,.slice none 0 0,.slice A51 N51 C51,.slice none 0 0,.slice none 0 0,.slice A52 N52 C52,.slice none 0 0,.slice none 0 0] fun h_15=>CallsH P 75 #[(.pointer (some ⟨h_5.size,0,none⟩))] h_15 fun v3 h_16=>
 v3=(.tuple #[])/\R (.tuple #[(.pointer (some ⟨h_5.size,0,none⟩)),.int .i64 0]) h_16
def J48_1  (P:Program) (R:Value->Heap->Prop) (h:Heap) (j:Int) (h_3:Heap):Prop:=
 (Addr.block ⟨h.size,0,none⟩)<(h_3).size/\LdC h_3 ⟨h.size,0,none⟩ fun t3=>(Addr.block (Addr.add ⟨h.size,0,none⟩ 6))<(h_3).size/\∃ (A21:Option Addr) (N21 C21:Nat),cellH h_3 (Addr.add ⟨h.size,0,none⟩ 6)=some (.slice A21 N21 C21)/\0≤j/\j<(N21:Nat)/\AtP A21 fun ad=>(Addr.block (Addr.add ad (Int.toNat j*1)))<(h_3).size/\∃ (A22:Option Addr) (N22 C22:Nat),cellH h_3 (Addr.add ad (Int.toNat j*1))=some (.slice A22 N22 C22)/\(Addr.block (Addr.add ⟨h.size,0,none⟩ 7))<(h_3).size/\∃ (A23:Option Addr) (N23 C23:Nat),cellH h_3 (Addr.add ⟨h.size,0,none⟩ 7)=some (.slice A23 N23 C23)/\let h_4:Heap:=(h_3).push (.cells #[.slice A22 N22 C22,.slice A23 N23 C23] 22);AgreeH (h_3).size h_3 h_4/\CallsH P 67 #[(.slice (some ⟨h_3.size,0,none⟩) 2 2)] h_4 fun v1 h_5=>
 ∃ (A24:Option Addr) (N24 C24:Nat),v1=(.slice A24 N24 C24)/\AgreeH (h_3).size h_4 h_5/\let h_6:Heap:=(h_5).push (.cells (Value.cells (.agg #[.int .i64 0,.slice none 0 0,.slice none 0 0,.slice none 0 0,.slice none 0 0,.slice none 0 0,.slice none 0 0,.slice none 0 0,.slice none 0 0,.slice none 0 0,.slice none 0 0,.int .i64 t3.mx,.slice t3.i.a t3.i.n t3.i.c,.slice t3.l.a t3.l.n t3.l.c,.slice t3.o.a t3.o.n t3.o.c,.slice t3.b.a t3.b.n t3.b.c,.slice t3.c.a t3.c.n t3.c.c,.slice t3.j.a t3.j.n t3.j.c,.slice t3.f.a t3.f.n t3.f.c,.slice t3.g.a t3.g.n t3.g.c,.slice t3.s.a t3.s.n t3.s.c,.slice t3.m.a t3.m.n t3.m.c,.slice A24 N24 C24,.int .i64 0,.int .i64 0,.int .i64 0])) 105);AgreeH (h_3).size h_5 h_6/\∃ (A25:Option Addr) (N25 C25:Nat),cellH h_6 (Addr.add ⟨h.size,0,none⟩ 2)=some (.slice A25 N25 C25)/\∃ (A26:Option Addr) (N26 C26:Nat),cellH h_6 (Addr.add ⟨h_5.size,0,none⟩ 22)=some (.slice A26 N26 C26)/\∃ (t4:Int),cellH h_6 (Addr.add ⟨h.size,0,none⟩ 0)=some (.int .i64 t4)/\PIf ((16384:Int)<(IntKind.wrap .i64 ((IntKind.wrap .i64 ((IntKind.wrap .i64 ((IntKind.wrap .i64 (t4+2))+((N25:Nat):Int)))+((N26:Nat):Int)))+(IntKind.wrap .i64 ((IntKind.wrap .i64 (2+(IntKind.wrap .i64 (7*((N25:Nat):Int)))))+(IntKind.wrap .i64 (3*((N26:Nat):Int))))))))
 (R (.tuple #[.pointer none,.int .i64 2]) h_6)
 (∃ (A27:Option Addr) (N27 C27:Nat),cellH h_6 (Addr.add ⟨h.size,0,none⟩ 1)=some (.slice A27 N27 C27)/\PIf ((16384:Int)≤((N27:Nat):Int))
 (R (.tuple #[.pointer none,.int .i64 2]) h_6)
 (PIf ((16384:Int)<(IntKind.wrap .i64 ((IntKind.wrap .i64 ((IntKind.wrap .i64 (2*((N25:Nat):Int)))+1))+((N26:Nat):Int))))
 (R (.tuple #[.pointer none,.int .i64 2]) h_6)
 (∃ (A28:Option Addr) (N28 C28:Nat),cellH h_6 (Addr.add ⟨h.size,0,none⟩ 8)=some (.slice A28 N28 C28)/\PIf ((16384:Int)<(IntKind.wrap .i64 (((N28:Nat):Int)+(IntKind.wrap .i64 ((IntKind.wrap .i64 (2+(IntKind.wrap .i64 (7*((N25:Nat):Int)))))+(IntKind.wrap .i64 (3*((N26:Nat):Int))))))))
 (R (.tuple #[.pointer none,.int .i64 2]) h_6)
 (J48_2 P R h h_5 N25 N26 h_6))))
def J48_0  (P:Program) (R:Value->Heap->Prop) (h:Heap) (j:Int) (h_2:Heap):Prop:=
 PIf (j<0)
 (R (.tuple #[.pointer none,.int .i64 5]) h_2)
 (∃ (A10:Option Addr) (N10 C10:Nat),cellH h_2 (Addr.add ⟨h.size,0,none⟩ 6)=some (.slice A10 N10 C10)/\PIf ((((N10:Nat):Int):Int)≤j)
 (R (.tuple #[.pointer none,.int .i64 5]) h_2)
 (J48_1 P R h j h_2))
def VC48 (P:Program) (c:CV) (j:Int) (R:Value->Heap->Prop) (h:Heap):Prop:=
 let h_:Heap:=(h).push (.cells (Value.cells c.v) 29);LdC h_ ⟨h.size,0,none⟩ fun t=>CallsH P 27 #[t.v] h_ fun v h_1=>
 ∃ (t1 t2:Int),v=(.tuple #[.int .i64 t1,.int .i64 t2])/\PIf (t2=0)
 (J48_0 P R h j h_1)
 (R (.tuple #[.pointer none,.int .i64 t2]) h_1)
theorem run48 (c:CV) (j:Int) (R:Value->Heap->Prop) (h:Heap) (hv:VC48 Try.prog c j R h):CallsH Try.prog 48 #[c.v,.int .i64 j] h R:=calls_of_fnC (Checked.mixed Try.checked) Try.func48 comp48 (Nat.le_of_ble_eq_true rfl) (Eq.mp (by kernel_rfl) hv)
def loops49:List (List (Nat×Shp)):=[]
noncomputable def code49:SCode:=((compF Try.prog Try.f49 loops49).elim .skip fun x=>x.2.2)
def ret49:List RV:=[.tmp 8]
theorem comp49:compF Try.prog Try.f49 loops49=some (32,ret49,code49):=by kernel_rfl
def J49_0  (P:Program) (R:Value->Heap->Prop) (h h_ h_2:Heap):Prop:=
 ∃ (A3:Option Addr) (N3 C3:Nat),cellH h_2 (Addr.add ⟨h.size,0,none⟩ 1)=some (.slice A3 N3 C3)/\CallsH P 76 #[.slice A3 N3 C3,(.func (.func 77) #[] #[(.pointer (some ⟨h_.size,0,none⟩))])] h_2 fun v h_3=>
 ∃ (t1:Bool),v=(.bool t1)/\R (.bool (!t1)) h_3
def VC49 (P:Program) (t:TV) (latches inputs most:Int) (R:Value->Heap->Prop) (h:Heap):Prop:=
 let h_:Heap:=(h).push (.cells (Value.cells t.v) 53);let h_1:Heap:=(h_).push (.cells #[.int .i64 inputs] 3);∃ (A:Option Addr) (N C:Nat),cellH h_1 (Addr.add ⟨h.size,0,none⟩ 0)=some (.slice A N C)/\PIf ((((N:Nat):Int):Int)=latches)
 (∃ (A1:Option Addr) (N1 C1:Nat),cellH h_1 (Addr.add ⟨h.size,0,none⟩ 1)=some (.slice A1 N1 C1)/\PIf ((((N1:Nat):Int):Int)<1)
 (R (.bool false) h_1)
 (∃ (A2:Option Addr) (N2 C2:Nat),cellH h_1 (Addr.add ⟨h.size,0,none⟩ 1)=some (.slice A2 N2 C2)/\PIf (most<((N2:Nat):Int))
 (R (.bool false) h_1)
 (J49_0 P R h h_ h_1)))
 (R (.bool false) h_1)
theorem run49 (t:TV) (latches inputs most:Int) (R:Value->Heap->Prop) (h:Heap) (hv:VC49 Try.prog t latches inputs most R h):CallsH Try.prog 49 #[t.v,.int .i64 latches,.int .i64 inputs,.int .i64 most] h R:=calls_of_fnC (Checked.mixed Try.checked) Try.func49 comp49 (Nat.le_of_ble_eq_true rfl) (Eq.mp (by kernel_rfl) hv)
def loops50:List (List (Nat×Shp)):=[]
noncomputable def code50:SCode:=((compF Try.prog Try.f50 loops50).elim .skip fun x=>x.2.2)
def ret50:List RV:=[.tmp 2]
theorem comp50:compF Try.prog Try.f50 loops50=some (8,ret50,code50):=by kernel_rfl
def VC50 (P:Program) (sA:Option Addr) (sN sC:Nat) (R:Value->Heap->Prop) (h:Heap):Prop:=
 PIf ((sA:Option Addr)=none)
 (R (.slice none 0 0) h)
 (let h_:Heap:=(h).push (.cells #[] 44);∃ ys:List Value,ReadL h_ sA ys/\ys.length=sN*1/\AppS h_ (some ⟨h.size,0,none⟩) 0 0 44 24 1 #[.slice none 0 0] ys sN fun apA apN apC h_1=>R (.slice apA apN apC) h_1)
theorem run50 (sA:Option Addr) (sN sC:Nat) (R:Value->Heap->Prop) (h:Heap) (hv:VC50 Try.prog sA sN sC R h):CallsH Try.prog 50 #[.slice sA sN sC] h R:=calls_of_fnC (Checked.mixed Try.checked) Try.func50 comp50 (Nat.le_of_ble_eq_true rfl) (Eq.mp (by kernel_rfl) hv)
def loops75:List (List (Nat×Shp)):=[[(69,.int .i64)],[(115,.int .i64)],[(150,.int .i64)],[(16,.int .i64),(193,.int .i64)],[(16,.int .i64),(209,.int .i64)]]
noncomputable def code75:SCode:=((compF Try.prog Try.f75 loops75).elim .skip fun x=>x.2.2)
def ret75:List RV:=[]
theorem comp75:compF Try.prog Try.f75 loops75=some (228,ret75,code75):=by kernel_rfl
def J75_1  (P:Program) (m:(Option Addr)) (A1:(Option Addr)) (N1:Nat) (t7:Int) (next_:(Int->Heap->Prop)) (h_5:Heap):Prop:=
 0≤t7/\t7<(N1:Nat)/\AtP A1 fun ad11=>∃ (t8 t9 t10:Int),cellsH h_5 (Addr.add ad11 (Int.toNat t7*3)) 0 [.int .i64 t8,.int .i64 t9,.int .i64 t10]/\let h_6:Heap:=(h_5).push (.cells #[.int .i64 0,.int .i64 0,.int .i64 0] 63);StoreH h_6 ⟨h_5.size,0,none⟩ [.int .i64 t8,.int .i64 t9,.int .i64 t10] fun h_7=>AtP m fun ad12=>AtP m fun ad13=>∃ (t11:Int),cellH h_7 (Addr.add ad13 25)=some (.int .i64 t11)/\∃ (t12:Int),cellH h_7 (Addr.add ⟨h_5.size,0,none⟩ 0)=some (.int .i64 t12)/\CallsH P 102 #[(.pointer (some (Addr.add ad12 0))),.int .i64 t11,.int .i64 t12] h_7 fun v3 h_8=>
 ∃ (t13:Int),v3=(.int .i64 t13)/\∃ zn:Zone,AtP m fun ad14=>AtP m fun ad15=>Zone.hasL zn h_8 (Addr.add ad15 25)/\∃ (t14:Int),cellH h_8 (Addr.add ad15 25)=some (.int .i64 t14)/\CallsH P 105 #[.pointer m,.int .i64 t7] h_8 fun v4 h_9=>
 ∃ (t15:Int),v4=(.int .i64 t15)/\Zone.r zn h_8 h_9/\CallsH P 102 #[(.pointer (some (Addr.add ad14 0))),(.int .i64 (bop .xor .i64 t14 1)),.int .i64 t15] h_9 fun v5 h_10=>
 ∃ (t16:Int),v5=(.int .i64 t16)/\Zone.r zn h_9 h_10/\AtP m fun ad16=>CallsH P 105 #[.pointer m,.int .i64 t7] h_10 fun v6 h_11=>
 ∃ (t17:Int),v6=(.int .i64 t17)/\AtP m fun ad17=>CallsH P 103 #[(.pointer (some (Addr.add ad17 0))),.int .i64 t13,.int .i64 t16] h_11 fun v7 h_12=>
 ∃ (t18:Int),v7=(.int .i64 t18)/\CallsH P 104 #[(.pointer (some (Addr.add ad16 0))),.int .i64 t17,.int .i64 t18] h_12 fun v8 h_13=>
 v8=(.tuple #[])/\next_ (IntKind.wrap .i64 (t7+1)) h_13
def J75_4  (P:Program) (m:(Option Addr)) (t5:Int) (A2:(Option Addr)) (N2:Nat) (t19:Int) (next_1:(Int->Heap->Prop)) (h_16:Heap):Prop:=
 0≤t19/\t19<(N2:Nat)/\AtP A2 fun ad19=>∃ (t20:Int),cellH h_16 (Addr.add ad19 (Int.toNat t19*1))=some (.int .i64 t20)/\AtP m fun ad20=>CallsH P 102 #[(.pointer (some (Addr.add ad20 0))),.int .i64 t5,.int .i64 t20] h_16 fun v9 h_17=>
 ∃ (t21:Int),v9=(.int .i64 t21)/\AtP m fun ad21=>CallsH P 106 #[.pointer m,.int .i64 t19] h_17 fun v10 h_18=>
 ∃ (t22:Int),v10=(.int .i64 t22)/\AtP m fun ad22=>CallsH P 106 #[.pointer m,.int .i64 t19] h_18 fun v11 h_19=>
 ∃ (t23:Int),v11=(.int .i64 t23)/\CallsH P 103 #[(.pointer (some (Addr.add ad22 0))),.int .i64 t23,.int .i64 t21] h_19 fun v12 h_20=>
 ∃ (t24:Int),v12=(.int .i64 t24)/\CallsH P 104 #[(.pointer (some (Addr.add ad21 0))),.int .i64 t22,.int .i64 t24] h_20 fun v13 h_21=>
 v13=(.tuple #[])/\next_1 (IntKind.wrap .i64 (t19+1)) h_21
def J75_7  (P:Program) (m:(Option Addr)) (N:Nat) (h_22:Heap) (A3:(Option Addr)) (N3:Nat) (t25:Int) (next_2:(Int->Heap->Prop)) (h_25:Heap):Prop:=
 0≤t25/\t25<(N3:Nat)/\AtP A3 fun ad24=>∃ (t26 t27 t28:Int),cellsH h_25 (Addr.add ad24 (Int.toNat t25*3)) 0 [.int .i64 t26,.int .i64 t27,.int .i64 t28]/\let h_26:Heap:=(h_25).push (.cells #[.int .i64 0,.int .i64 0,.int .i64 0] 63);StoreH h_26 ⟨h_25.size,0,none⟩ [.int .i64 t26,.int .i64 t27,.int .i64 t28] fun h_27=>∃ zn1:Zone,AtP m fun ad25=>Zone.hasL zn1 h_27 (Addr.add ⟨h_25.size,0,none⟩ 0)/\∃ (t29:Int),cellH h_27 (Addr.add ⟨h_25.size,0,none⟩ 0)=some (.int .i64 t29)/\CallsH P 105 #[.pointer m,.int .i64 t25] h_27 fun v14 h_28=>
 ∃ (t30:Int),v14=(.int .i64 t30)/\Zone.r zn1 h_27 h_28/\CallsH P 102 #[(.pointer (some (Addr.add ad25 0))),.int .i64 t29,(.int .i64 (bop .xor .i64 t30 1))] h_28 fun v15 h_29=>
 ∃ (t31:Int),v15=(.int .i64 t31)/\Zone.r zn1 h_28 h_29/\∃ zn2:Zone,AtP m fun ad26=>Zone.hasL zn2 h_29 (Addr.add ⟨h_25.size,0,none⟩ 0)/\∃ (t32:Int),cellH h_29 (Addr.add ⟨h_25.size,0,none⟩ 0)=some (.int .i64 t32)/\CallsH P 105 #[.pointer m,.int .i64 t25] h_29 fun v16 h_30=>
 ∃ (t33:Int),v16=(.int .i64 t33)/\Zone.r zn2 h_29 h_30/\CallsH P 102 #[(.pointer (some (Addr.add ad26 0))),(.int .i64 (bop .xor .i64 t32 1)),.int .i64 t33] h_30 fun v17 h_31=>
 ∃ (t34:Int),v17=(.int .i64 t34)/\Zone.r zn2 h_30 h_31/\AtP m fun ad27=>CallsH P 102 #[(.pointer (some (Addr.add ad27 0))),(.int .i64 (bop .xor .i64 t31 1)),(.int .i64 (bop .xor .i64 t34 1))] h_31 fun v18 h_32=>
 ∃ (t35:Int),v18=(.int .i64 t35)/\0≤t25/\t25<((Int.toNat ((N:Nat):Int)):Nat)/\StoreH h_32 (Addr.add ⟨h_22.size,0,none⟩ (Int.toNat t25*1)) [.int .i64 t35] fun h_33=>next_2 (IntKind.wrap .i64 (t25+1)) h_33
def J75_10  (P:Program) (m:(Option Addr)) (N:Nat) (h_22:Heap) (bad t37:Int) (next_3:(Int×Int->Heap->Prop)) (h_36:Heap):Prop:=
 0≤t37/\t37<((Int.toNat ((N:Nat):Int)):Nat)/\∃ (t38:Int),cellH h_36 (Addr.add ⟨h_22.size,0,none⟩ (Int.toNat t37*1))=some (.int .i64 t38)/\AtP m fun ad29=>CallsH P 102 #[(.pointer (some (Addr.add ad29 0))),.int .i64 bad,.int .i64 t38] h_36 fun v19 h_37=>
 ∃ (t39:Int),v19=(.int .i64 t39)/\next_3 (t39,(IntKind.wrap .i64 (t37+1))) h_37
def J75_13  (P:Program) (m:(Option Addr)) (bad2 t40:Int) (next_4:(Int×Int->Heap->Prop)) (h_40:Heap):Prop:=
 AtP m fun ad31=>CallsH P 106 #[.pointer m,.int .i64 t40] h_40 fun v20 h_41=>
 ∃ (t41:Int),v20=(.int .i64 t41)/\CallsH P 102 #[(.pointer (some (Addr.add ad31 0))),.int .i64 bad2,.int .i64 t41] h_41 fun v21 h_42=>
 ∃ (t42:Int),v21=(.int .i64 t42)/\next_4 (t42,(IntKind.wrap .i64 (t40+1))) h_42
def J75_12  (R:Value->Heap->Prop) (m:(Option Addr)) (bad3:Int) (h_43:Heap):Prop:=
 let h_44:Heap:=(h_43).push (.cells #[.int .i64 bad3] 3);AtP m fun ad32=>StoreH h_44 (Addr.add (Addr.add (Addr.add ad32 0) 0) 4) [(.slice (some ⟨h_43.size,0,none⟩) 1 1)] fun h_45=>R (.tuple #[]) h_45
def B75_15 (P:Program) (R:Value->Heap->Prop) (m:(Option Addr)) (N4:Nat) (bad2 t40:Int) (h_39:Heap) (next_4:Int×Int->Heap->Prop):Prop:=
 PIf (t40<((N4:Nat):Int))
 (J75_13 P m bad2 t40 next_4 h_39)
 (J75_12 R m (bad2) h_39)
def J75_9  (P:Program) (R:Value->Heap->Prop) (m:(Option Addr)) (bad1:Int) (h_38:Heap):Prop:=
 AtP m fun ad30=>∃ (A4:Option Addr) (N4 C4:Nat),cellH h_38 (Addr.add ad30 22)=some (.slice A4 N4 C4)/\LoopT (σ:=Int×Int) (fun st_ h_st nx_st=>B75_15 P R m N4 (st_.1) (st_.2) h_st nx_st) (bad1,0) h_38
def B75_16 (P:Program) (R:Value->Heap->Prop) (m:(Option Addr)) (N:Nat) (h_22:Heap) (bad t37:Int) (h_35:Heap) (next_3:Int×Int->Heap->Prop):Prop:=
 PIf (t37<(((Int.toNat ((N:Nat):Int)):Nat):Int))
 (J75_10 P m N h_22 bad t37 next_3 h_35)
 (J75_9 P R m (bad) h_35)
def J75_6  (P:Program) (R:Value->Heap->Prop) (m:(Option Addr)) (N:Nat) (h_22 h_34:Heap):Prop:=
 AtP m fun ad28=>∃ (t36:Int),cellH h_34 (Addr.add ad28 24)=some (.int .i64 t36)/\LoopT (σ:=Int×Int) (fun st_ h_st nx_st=>B75_16 P R m N h_22 (st_.1) (st_.2) h_st nx_st) (t36,0) h_34
def B75_17 (P:Program) (R:Value->Heap->Prop) (m:(Option Addr)) (N:Nat) (h_22:Heap) (A3:(Option Addr)) (N3:Nat) (t25:Int) (h_24:Heap) (next_2:Int->Heap->Prop):Prop:=
 PIf (t25<((N3:Nat):Int))
 (J75_7 P m N h_22 A3 N3 t25 next_2 h_24)
 (J75_6 P R m N h_22 h_24)
def J75_3  (P:Program) (R:Value->Heap->Prop) (m:(Option Addr)) (N:Nat) (h_22:Heap):Prop:=
 0≤(((N:Nat):Int):Int)/\(((N:Nat):Int):Int)≤((N:Nat):Int)/\(8:Int)*((N:Nat):Int)≤281474976710656/\let h_23:Heap:=(h_22).push (.cells (zeroRow #[.int .i64 0] (Int.toNat ((N:Nat):Int)*1)).toArray 3);AtP m fun ad23=>∃ (A3:Option Addr) (N3 C3:Nat),cellH h_23 (Addr.add (Addr.add ad23 11) 2)=some (.slice A3 N3 C3)/\LoopT (σ:=Int) (fun st_ h_st nx_st=>B75_17 P R m N h_22 A3 N3 (st_) h_st nx_st) (0) h_23
def B75_18 (P:Program) (R:Value->Heap->Prop) (m:(Option Addr)) (N:Nat) (t5:Int) (A2:(Option Addr)) (N2:Nat) (t19:Int) (h_15:Heap) (next_1:Int->Heap->Prop):Prop:=
 PIf (t19<((N2:Nat):Int))
 (J75_4 P m t5 A2 N2 t19 next_1 h_15)
 (J75_3 P R m N h_15)
def J75_0  (P:Program) (R:Value->Heap->Prop) (m:(Option Addr)) (N:Nat) (t5:Int) (h_14:Heap):Prop:=
 AtP m fun ad18=>∃ (A2:Option Addr) (N2 C2:Nat),cellH h_14 (Addr.add ad18 22)=some (.slice A2 N2 C2)/\LoopT (σ:=Int) (fun st_ h_st nx_st=>B75_18 P R m N t5 A2 N2 (st_) h_st nx_st) (0) h_14
def B75_19 (P:Program) (R:Value->Heap->Prop) (m:(Option Addr)) (N:Nat) (t5:Int) (A1:(Option Addr)) (N1:Nat) (t7:Int) (h_4:Heap) (next_:Int->Heap->Prop):Prop:=
 PIf (t7<((N1:Nat):Int))
 (J75_1 P m A1 N1 t7 next_ h_4)
 (J75_0 P R m N t5 h_4)
def VC75 (P:Program) (m:Option Addr) (R:Value->Heap->Prop) (h:Heap):Prop:=
 AtP m fun ad=>∃ (A:Option Addr) (N C:Nat),cellH h (Addr.add (Addr.add ad 11) 2)=some (.slice A N C)/\AtP m fun ad1=>AtP m fun ad2=>∃ (t:Int),cellH h (Addr.add ad2 23)=some (.int .i64 t)/\AtP m fun ad3=>∃ (t1:Int),cellH h (Addr.add ad3 24)=some (.int .i64 t1)/\CallsH P 102 #[(.pointer (some (Addr.add ad1 0))),.int .i64 t,(.int .i64 (bop .xor .i64 t1 1))] h fun v h_=>
 ∃ (t2:Int),v=(.int .i64 t2)/\AtP m fun ad4=>StoreH h_ (Addr.add ad4 25) [.int .i64 t2] fun h_1=>AtP m fun ad5=>AtP m fun ad6=>∃ (t3:Int),cellH h_1 (Addr.add ad6 23)=some (.int .i64 t3)/\AtP m fun ad7=>∃ (t4:Int),cellH h_1 (Addr.add ad7 24)=some (.int .i64 t4)/\CallsH P 103 #[(.pointer (some (Addr.add ad5 0))),.int .i64 t3,.int .i64 t4] h_1 fun v1 h_2=>
 ∃ (t5:Int),v1=(.int .i64 t5)/\AtP m fun ad8=>AtP m fun ad9=>∃ (t6:Int),cellH h_2 (Addr.add ad9 24)=some (.int .i64 t6)/\CallsH P 104 #[(.pointer (some (Addr.add ad8 0))),.int .i64 t6,.int .i64 t5] h_2 fun v2 h_3=>
 v2=(.tuple #[])/\AtP m fun ad10=>∃ (A1:Option Addr) (N1 C1:Nat),cellH h_3 (Addr.add (Addr.add ad10 11) 2)=some (.slice A1 N1 C1)/\LoopT (σ:=Int) (fun st_ h_st nx_st=>B75_19 P R m N t5 A1 N1 (st_) h_st nx_st) (0) h_3
theorem run75 (m:Option Addr) (R:Value->Heap->Prop) (h:Heap) (hv:VC75 Try.prog m R h):CallsH Try.prog 75 #[.pointer m] h R:=calls_of_fnC (Checked.mixed Try.checked) Try.func75 comp75 (Nat.le_of_ble_eq_true rfl) (Eq.mp (by kernel_rfl) hv)
def loops76:List (List (Nat×Shp)):=[]
noncomputable def code76:SCode:=((compF Try.prog Try.f76 loops76).elim .skip fun x=>x.2.2)
def ret76:List RV:=[.tmp 4]
theorem comp76:compF Try.prog Try.f76 loops76=some (9,ret76,code76):=by kernel_rfl
def VC76 (P:Program) (sA:Option Addr) (sN sC:Nat) (f:Value) (R:Value->Heap->Prop) (h:Heap):Prop:=
 CallsH P 107 #[.slice sA sN sC,f] h fun v h_=>
 ∃ (t:Int),v=(.int .i64 t)/\PIf ((0:Int)≤t)
 (R (.bool true) h_)
 (R (.bool false) h_)
theorem run76 (sA:Option Addr) (sN sC:Nat) (f:Value) (R:Value->Heap->Prop) (h:Heap) (hv:VC76 Try.prog sA sN sC f R h):CallsH Try.prog 76 #[.slice sA sN sC,f] h R:=calls_of_fnC (Checked.mixed Try.checked) Try.func76 comp76 (Nat.le_of_ble_eq_true rfl) (Eq.mp (by kernel_rfl) hv)
def loops77:List (List (Nat×Shp)):=[]
noncomputable def code77:SCode:=((compF Try.prog Try.f77 loops77).elim .skip fun x=>x.2.2)
def ret77:List RV:=[.tmp 3]
theorem comp77:compF Try.prog Try.f77 loops77=some (8,ret77,code77):=by kernel_rfl
def VC77 (P:Program) (rowA:Option Addr) (rowN rowC:Nat) (t:Option Addr) (R:Value->Heap->Prop) (h:Heap):Prop:=
 AtP t fun ad=>∃ (t1:Int),cellH h ad=some (.int .i64 t1)/\PIf ((((rowN:Nat):Int):Int)=t1)
 (R (.bool false) h)
 (R (.bool true) h)
theorem run77 (rowA:Option Addr) (rowN rowC:Nat) (t:Option Addr) (R:Value->Heap->Prop) (h:Heap) (hv:VC77 Try.prog rowA rowN rowC t R h):CallsH Try.prog 77 #[.slice rowA rowN rowC,.pointer t] h R:=calls_of_fnC (Checked.mixed Try.checked) Try.func77 comp77 (Nat.le_of_ble_eq_true rfl) (Eq.mp (by kernel_rfl) hv)
def loops102:List (List (Nat×Shp)):=[]
noncomputable def code102:SCode:=((compF Try.prog Try.f102 loops102).elim .skip fun x=>x.2.2)
def ret102:List RV:=[.tmp 6]
theorem comp102:compF Try.prog Try.f102 loops102=some (46,ret102,code102):=by kernel_rfl
def VC102 (P:Program) (g:Option Addr) (x y:Int) (R:Value->Heap->Prop) (h:Heap):Prop:=
 AtP g fun ad=>∃ (t:Int),cellH h (Addr.add (Addr.add ad 0) 0)=some (.int .i64 t)/\AtP g fun ad1=>StoreH h (Addr.add (Addr.add ad1 0) 0) [(.int .i64 (IntKind.wrap .i64 (t+1)))] fun h_=>AtP g fun ad2=>(Addr.block (Addr.add (Addr.add ad2 0) 8))<(h_).size/\∃ (A:Option Addr) (N C:Nat),cellH h_ (Addr.add (Addr.add ad2 0) 8)=some (.slice A N C)/\AtP g fun ad3=>(Addr.block (Addr.add (Addr.add ad3 0) 0))<(h_).size/\∃ (t1:Int),cellH h_ (Addr.add (Addr.add ad3 0) 0)=some (.int .i64 t1)/\let h_1:Heap:=(h_).push (.cells #[(.int .i64 (IntKind.wrap .i64 (2*t1))),(.int .i64 (max (x:Int) y)),(.int .i64 (min (x:Int) y))] 120);AgreeH (h_).size h_ h_1/\∃ ys:List Value,ReadL h_1 (some ⟨h_.size,0,none⟩) ys/\ys.length=1*3/\AppS h_1 A N C 120 24 3 #[.int .i64 0,.int .i64 0,.int .i64 0] ys 1 fun apA apN apC h_2=>AtP g fun ad4=>StoreH h_2 (Addr.add (Addr.add ad4 0) 8) [.slice apA apN apC] fun h_3=>AtP g fun ad5=>∃ (t2:Int),cellH h_3 (Addr.add (Addr.add ad5 0) 0)=some (.int .i64 t2)/\R (.int .i64 (IntKind.wrap .i64 (2*t2))) h_3
theorem run102 (g:Option Addr) (x y:Int) (R:Value->Heap->Prop) (h:Heap) (hv:VC102 Try.prog g x y R h):CallsH Try.prog 102 #[.pointer g,.int .i64 x,.int .i64 y] h R:=calls_of_fnC (Checked.mixed Try.checked) Try.func102 comp102 (Nat.le_of_ble_eq_true rfl) (Eq.mp (by kernel_rfl) hv)
def loops103:List (List (Nat×Shp)):=[]
noncomputable def code103:SCode:=((compF Try.prog Try.f103 loops103).elim .skip fun x=>x.2.2)
def ret103:List RV:=[.tmp 6]
theorem comp103:compF Try.prog Try.f103 loops103=some (14,ret103,code103):=by kernel_rfl
def VC103 (P:Program) (g:Option Addr) (x y:Int) (R:Value->Heap->Prop) (h:Heap):Prop:=
 CallsH P 102 #[.pointer g,(.int .i64 (bop .xor .i64 x 1)),(.int .i64 (bop .xor .i64 y 1))] h fun v h_=>
 ∃ (t:Int),v=(.int .i64 t)/\R (.int .i64 (bop .xor .i64 t 1)) h_
theorem run103 (g:Option Addr) (x y:Int) (R:Value->Heap->Prop) (h:Heap) (hv:VC103 Try.prog g x y R h):CallsH Try.prog 103 #[.pointer g,.int .i64 x,.int .i64 y] h R:=calls_of_fnC (Checked.mixed Try.checked) Try.func103 comp103 (Nat.le_of_ble_eq_true rfl) (Eq.mp (by kernel_rfl) hv)
def loops104:List (List (Nat×Shp)):=[]
noncomputable def code104:SCode:=((compF Try.prog Try.f104 loops104).elim .skip fun x=>x.2.2)
def ret104:List RV:=[]
theorem comp104:compF Try.prog Try.f104 loops104=some (20,ret104,code104):=by kernel_rfl
def VC104 (P:Program) (g:Option Addr) (lit next_:Int) (R:Value->Heap->Prop) (h:Heap):Prop:=
 AtP g fun ad=>∃ (A:Option Addr) (N C:Nat),cellH h (Addr.add (Addr.add ad 0) 2)=some (.slice A N C)/\let h_:Heap:=(h).push (.cells #[.int .i64 lit,.int .i64 next_,.int .i64 0] 63);∃ ys:List Value,ReadL h_ (some ⟨h.size,0,none⟩) ys/\ys.length=1*3/\AppS h_ A N C 63 24 3 #[.int .i64 0,.int .i64 0,.int .i64 0] ys 1 fun apA apN apC h_1=>AtP g fun ad1=>StoreH h_1 (Addr.add (Addr.add ad1 0) 2) [.slice apA apN apC] fun h_2=>R (.tuple #[]) h_2
theorem run104 (g:Option Addr) (lit next_:Int) (R:Value->Heap->Prop) (h:Heap) (hv:VC104 Try.prog g lit next_ R h):CallsH Try.prog 104 #[.pointer g,.int .i64 lit,.int .i64 next_] h R:=calls_of_fnC (Checked.mixed Try.checked) Try.func104 comp104 (Nat.le_of_ble_eq_true rfl) (Eq.mp (by kernel_rfl) hv)
def loops105:List (List (Nat×Shp)):=[]
noncomputable def code105:SCode:=((compF Try.prog Try.f105 loops105).elim .skip fun x=>x.2.2)
def ret105:List RV:=[.tmp 4]
theorem comp105:compF Try.prog Try.f105 loops105=some (14,ret105,code105):=by kernel_rfl
def VC105 (P:Program) (m:Option Addr) (i:Int) (R:Value->Heap->Prop) (h:Heap):Prop:=
 AtP m fun ad=>∃ (t:Int),cellH h (Addr.add (Addr.add ad 11) 0)=some (.int .i64 t)/\R (.int .i64 (IntKind.wrap .i64 (2*(IntKind.wrap .i64 ((IntKind.wrap .i64 (t+3))+i))))) h
theorem run105 (m:Option Addr) (i:Int) (R:Value->Heap->Prop) (h:Heap) (hv:VC105 Try.prog m i R h):CallsH Try.prog 105 #[.pointer m,.int .i64 i] h R:=calls_of_fnC (Checked.mixed Try.checked) Try.func105 comp105 (Nat.le_of_ble_eq_true rfl) (Eq.mp (by kernel_rfl) hv)
def loops106:List (List (Nat×Shp)):=[]
noncomputable def code106:SCode:=((compF Try.prog Try.f106 loops106).elim .skip fun x=>x.2.2)
def ret106:List RV:=[.tmp 4]
theorem comp106:compF Try.prog Try.f106 loops106=some (15,ret106,code106):=by kernel_rfl
def VC106 (P:Program) (m:Option Addr) (i:Int) (R:Value->Heap->Prop) (h:Heap):Prop:=
 AtP m fun ad=>∃ (A:Option Addr) (N C:Nat),cellH h (Addr.add (Addr.add ad 11) 2)=some (.slice A N C)/\CallsH P 105 #[.pointer m,(.int .i64 (IntKind.wrap .i64 (((N:Nat):Int)+i)))] h fun v h_=>
 ∃ (t:Int),v=(.int .i64 t)/\R (.int .i64 t) h_
theorem run106 (m:Option Addr) (i:Int) (R:Value->Heap->Prop) (h:Heap) (hv:VC106 Try.prog m i R h):CallsH Try.prog 106 #[.pointer m,.int .i64 i] h R:=calls_of_fnC (Checked.mixed Try.checked) Try.func106 comp106 (Nat.le_of_ble_eq_true rfl) (Eq.mp (by kernel_rfl) hv)
def loops107:List (List (Nat×Shp)):=[[(8,.int .i64)]]
noncomputable def code107:SCode:=((compF Try.prog Try.f107 loops107).elim .skip fun x=>x.2.2)
def ret107:List RV:=[.tmp 4]
theorem comp107:compF Try.prog Try.f107 loops107=some (19,ret107,code107):=by kernel_rfl
def J107_1  (P:Program) (R:Value->Heap->Prop) (sA:(Option Addr)) (sN:Nat) (f:Value) (t:Int) (next_:(Int->Heap->Prop)) (h_1:Heap):Prop:=
 0≤t/\t<(sN:Nat)/\AtP sA fun ad=>∃ (A:Option Addr) (N C:Nat),cellH h_1 (Addr.add ad (Int.toNat t*1))=some (.slice A N C)/\CallV P f [.slice A N C] h_1 fun v h_2=>
 ∃ (t1:Bool),v=(.bool t1)/\BIf t1 (R (.int .i64 t) h_2) (next_ (IntKind.wrap .i64 (t+1)) h_2)
def J107_0  (R:Value->Heap->Prop) (h_3:Heap):Prop:=
 R (.int .i64 (-1)) h_3
def B107_3 (P:Program) (R:Value->Heap->Prop) (sA:(Option Addr)) (sN:Nat) (f:Value) (t:Int) (h_:Heap) (next_:Int->Heap->Prop):Prop:=
 PIf (t<((sN:Nat):Int))
 (J107_1 P R sA sN f t next_ h_)
 (J107_0 R h_)
def VC107 (P:Program) (sA:Option Addr) (sN sC:Nat) (f:Value) (R:Value->Heap->Prop) (h:Heap):Prop:=
 LoopT (σ:=Int) (fun st_ h_st nx_st=>B107_3 P R sA sN f (st_) h_st nx_st) (0) h
theorem run107 (sA:Option Addr) (sN sC:Nat) (f:Value) (R:Value->Heap->Prop) (h:Heap) (hv:VC107 Try.prog sA sN sC f R h):CallsH Try.prog 107 #[.slice sA sN sC,f] h R:=calls_of_fnC (Checked.mixed Try.checked) Try.func107 comp107 (Nat.le_of_ble_eq_true rfl) (Eq.mp (by kernel_rfl) hv)
def loops67:List (List (Nat×Shp)):=[[(3,.int .i64),(11,.int .i64)],[(6,.slice),(27,.int .i64)]]
noncomputable def code67:SCode:=((compF Try.prog Try.f67 loops67).elim .skip fun x=>x.2.2)
def ret67:List RV:=[.tmp 2]
theorem comp67:compF Try.prog Try.f67 loops67=some (36,ret67,code67):=by kernel_rfl
def J67_1  (slicesA:(Option Addr)) (slicesN:Nat) (size t:Int) (next_:(Int×Int->Heap->Prop)) (h_1:Heap):Prop:=
 0≤t/\t<(slicesN:Nat)/\AtP slicesA fun ad=>∃ (A:Option Addr) (N C:Nat),cellH h_1 (Addr.add ad (Int.toNat t*1))=some (.slice A N C)/\PIf (((IntKind.wrap .i64 (size+((N:Nat):Int))):Int)<0)
 (False)
 (next_ ((IntKind.wrap .i64 (size+((N:Nat):Int))),(IntKind.wrap .i64 (t+1))) h_1)
def J67_4  (slicesA:(Option Addr)) (slicesN:Nat) (newsliceA:(Option Addr)) (newsliceN newsliceC:Nat) (t1:Int) (next_1:((Option Addr×Nat×Nat)×Int->Heap->Prop)) (h_5:Heap):Prop:=
 0≤t1/\t1<(slicesN:Nat)/\AtP slicesA fun ad1=>∃ (A2:Option Addr) (N2 C2:Nat),cellH h_5 (Addr.add ad1 (Int.toNat t1*1))=some (.slice A2 N2 C2)/\∃ ys:List Value,ReadL h_5 A2 ys/\ys.length=N2*1/\AppS h_5 newsliceA newsliceN newsliceC 3 8 1 #[.int .i64 0] ys N2 fun apA apN apC h_6=>next_1 ((apA,apN,apC),(IntKind.wrap .i64 (t1+1))) h_6
def J67_3  (R:Value->Heap->Prop) (newsliceA1:Option Addr) (newsliceN1 newsliceC1:Nat) (h_7:Heap):Prop:=
 R (.slice newsliceA1 newsliceN1 newsliceC1) h_7
def B67_6 (R:Value->Heap->Prop) (slicesA:(Option Addr)) (slicesN:Nat) (newsliceA:Option Addr) (newsliceN newsliceC:Nat) (t1:Int) (h_4:Heap) (next_1:(Option Addr×Nat×Nat)×Int->Heap->Prop):Prop:=
 PIf (t1<((slicesN:Nat):Int))
 (J67_4 slicesA slicesN newsliceA newsliceN newsliceC t1 next_1 h_4)
 (J67_3 R (newsliceA) (newsliceN) (newsliceC) h_4)
def J67_0  (P:Program) (R:Value->Heap->Prop) (slicesA:(Option Addr)) (slicesN:Nat) (size1:Int) (h_2:Heap):Prop:=
 CallsH P 94 #[.slice none 0 0,.int .i64 size1] h_2 fun v h_3=>
 ∃ (A1:Option Addr) (N1 C1:Nat),v=(.slice A1 N1 C1)/\LoopT (σ:=(Option Addr×Nat×Nat)×Int) (fun st_ h_st nx_st=>B67_6 R slicesA slicesN (st_.1.1) (st_.1.2.1) (st_.1.2.2) (st_.2) h_st nx_st) ((A1,N1,C1),0) h_3
def B67_7 (P:Program) (R:Value->Heap->Prop) (slicesA:(Option Addr)) (slicesN:Nat) (size t:Int) (h_:Heap) (next_:Int×Int->Heap->Prop):Prop:=
 PIf (t<((slicesN:Nat):Int))
 (J67_1 slicesA slicesN size t next_ h_)
 (J67_0 P R slicesA slicesN (size) h_)
def VC67 (P:Program) (slicesA:Option Addr) (slicesN slicesC:Nat) (R:Value->Heap->Prop) (h:Heap):Prop:=
 LoopT (σ:=Int×Int) (fun st_ h_st nx_st=>B67_7 P R slicesA slicesN (st_.1) (st_.2) h_st nx_st) (0,0) h
theorem run67 (slicesA:Option Addr) (slicesN slicesC:Nat) (R:Value->Heap->Prop) (h:Heap) (hv:VC67 Try.prog slicesA slicesN slicesC R h):CallsH Try.prog 67 #[.slice slicesA slicesN slicesC] h R:=calls_of_fnC (Checked.mixed Try.checked) Try.func67 comp67 (Nat.le_of_ble_eq_true rfl) (Eq.mp (by kernel_rfl) hv)
def loops94:List (List (Nat×Shp)):=[]
noncomputable def code94:SCode:=((compF Try.prog Try.f94 loops94).elim .skip fun x=>x.2.2)
def ret94:List RV:=[.tmp 4]
theorem comp94:compF Try.prog Try.f94 loops94=some (27,ret94,code94):=by kernel_rfl
def J94_0  (R:Value->Heap->Prop) (sA:(Option Addr)) (sN sC:Nat) (n:Int) (h_:Heap):Prop:=
 PIf ((0:Int)<(IntKind.wrap .i64 (n-(IntKind.wrap .i64 (((sC:Nat):Int)-((sN:Nat):Int))))))
 (0≤(0:Int)/\(0:Int)≤((sC:Nat):Int)/\(((sC:Nat):Int):Int)≤(sC:Nat)/\0≤((IntKind.wrap .i64 (n-(IntKind.wrap .i64 (((sC:Nat):Int)-((sN:Nat):Int))))):Int)/\((IntKind.wrap .i64 (n-(IntKind.wrap .i64 (((sC:Nat):Int)-((sN:Nat):Int))))):Int)*8≤140737488355328/\AppS h_ (cutA 1 sA sC (Int.toNat 0)) (Int.toNat ((sC:Nat):Int)-Int.toNat 0) (sC-Int.toNat 0) 3 8 1 #[.int .i64 0] (zeroRow #[.int .i64 0] (Int.toNat (IntKind.wrap .i64 (n-(IntKind.wrap .i64 (((sC:Nat):Int)-((sN:Nat):Int)))))*1)) (Int.toNat (IntKind.wrap .i64 (n-(IntKind.wrap .i64 (((sC:Nat):Int)-((sN:Nat):Int)))))) fun apA apN apC h_1=>0≤(0:Int)/\(0:Int)≤((sN:Nat):Int)/\(((sN:Nat):Int):Int)≤(apC:Nat)/\R (.slice (cutA 1 apA apC (Int.toNat 0)) (Int.toNat ((sN:Nat):Int)-Int.toNat 0) (apC-Int.toNat 0)) h_1)
 (R (.slice sA sN sC) h_)
def VC94 (P:Program) (sA:Option Addr) (sN sC:Nat) (n:Int) (R:Value->Heap->Prop) (h:Heap):Prop:=
 PIf (n<0)
 (False)
 (J94_0 R sA sN sC n h)
theorem run94 (sA:Option Addr) (sN sC:Nat) (n:Int) (R:Value->Heap->Prop) (h:Heap) (hv:VC94 Try.prog sA sN sC n R h):CallsH Try.prog 94 #[.slice sA sN sC,.int .i64 n] h R:=calls_of_fnC (Checked.mixed Try.checked) Try.func94 comp94 (Nat.le_of_ble_eq_true rfl) (Eq.mp (by kernel_rfl) hv)
def loops23:List (List (Nat×Shp)):=[]
noncomputable def code23:SCode:=((compF Try.prog Try.f23 loops23).elim .skip fun x=>x.2.2)
def ret23:List RV:=[.tmp 0]
theorem comp23:compF Try.prog Try.f23 loops23=some (68,ret23,code23):=by kernel_rfl
def VC23 (P:Program) (R:Value->Heap->Prop) (h:Heap):Prop:=
 let h_:Heap:=(h).push (.cells #[.int .i64 2,.int .i64 3,.int .i64 0] 63);let h_1:Heap:=(h_).push (.cells #[.int .i64 2] 3);let h_2:Heap:=(h_1).push (.cells #[(.slice (some ⟨h_.size,0,none⟩) 1 1)] 22);let h_3:Heap:=(h_2).push (.cells CV.zero.cs.toArray 29);StoreH h_3 ⟨h_2.size,0,none⟩ [.int .i64 1,.slice none 0 0,(.slice (some ⟨h.size,0,none⟩) 1 1),.slice none 0 0,.slice none 0 0,.slice none 0 0,(.slice (some ⟨h_1.size,0,none⟩) 1 1),.slice none 0 0,.slice none 0 0,.slice none 0 0,.slice none 0 0] fun h_4=>LdC h_4 ⟨h_2.size,0,none⟩ fun t=>CallsH P 24 #[t.v,.int .i64 0] h_4 fun v h_5=>
 ExCi fun t1=>∃ (t2:Int),v=(.tuple #[t1.v,.int .i64 t2])/\let h_6:Heap:=(h_5).push (.cells CV.zero.cs.toArray 29);StoreH h_6 ⟨h_5.size,0,none⟩ t1.cs fun h_7=>LdC h_7 ⟨h_2.size,0,none⟩ fun t3=>let h_8:Heap:=(h_7).push (.cells #[.bool false] 4);let h_9:Heap:=(h_8).push (.cells #[] 4);let h_10:Heap:=(h_9).push (.cells #[] 4);let h_11:Heap:=(h_10).push (.cells #[(.slice (some ⟨h_8.size,0,none⟩) 0 0),(.slice (some ⟨h_9.size,0,none⟩) 0 0)] 44);CallsH P 25 #[t3.v,.int .i64 0,(.agg #[(.slice (some ⟨h_7.size,0,none⟩) 1 1),(.slice (some ⟨h_10.size,0,none⟩) 2 2),.int .i64 0])] h_11 fun v1 h_12=>
 ExTr fun t4=>∃ (t5:Int),v1=(.tuple #[t4.v,.int .i64 t5])/\let h_13:Heap:=(h_12).push (.cells TV.zero.cs.toArray 53);StoreH h_13 ⟨h_12.size,0,none⟩ t4.cs fun h_14=>PIf (t2=0)
 (∃ (t6:Int),cellH h_14 (Addr.add ⟨h_5.size,0,none⟩ 0)=some (.int .i64 t6)/\PIf (t6=17)
 (∃ (A32:Option Addr) (N32 C32:Nat),cellH h_14 (Addr.add ⟨h_5.size,0,none⟩ 4)=some (.slice A32 N32 C32)/\PIf ((((N32:Nat):Int):Int)=1)
 (∃ (A33:Option Addr) (N33 C33:Nat),cellH h_14 (Addr.add ⟨h_5.size,0,none⟩ 4)=some (.slice A33 N33 C33)/\0≤(0:Int)/\(0:Int)<(N33:Nat)/\AtP A33 fun ad=>∃ (t7:Int),cellH h_14 (Addr.add ad (Int.toNat 0*1))=some (.int .i64 t7)/\PIf (t7=34)
 (∃ (A34:Option Addr) (N34 C34:Nat),cellH h_14 (Addr.add ⟨h_5.size,0,none⟩ 2)=some (.slice A34 N34 C34)/\PIf ((((N34:Nat):Int):Int)=4)
 (PIf (t5=0)
 (∃ (A35:Option Addr) (N35 C35:Nat),cellH h_14 (Addr.add ⟨h_12.size,0,none⟩ 1)=some (.slice A35 N35 C35)/\PIf ((((N35:Nat):Int):Int)=3)
 (∃ (A36:Option Addr) (N36 C36:Nat),cellH h_14 (Addr.add ⟨h_12.size,0,none⟩ 0)=some (.slice A36 N36 C36)/\PIf ((((N36:Nat):Int):Int)=4)
 (R (.bool true) h_14)
 (R (.bool false) h_14))
 (R (.bool false) h_14))
 (R (.bool false) h_14))
 (R (.bool false) h_14))
 (R (.bool false) h_14))
 (R (.bool false) h_14))
 (R (.bool false) h_14))
 (R (.bool false) h_14)
theorem run23 (R:Value->Heap->Prop) (h:Heap) (hv:VC23 Try.prog R h):CallsH Try.prog 23 #[] h R:=calls_of_fnC (Checked.mixed Try.checked) Try.func23 comp23 (Nat.le_of_ble_eq_true rfl) (Eq.mp (by kernel_rfl) hv)
end Go.Proofs.Ytdpbdjdgdmheiaa
