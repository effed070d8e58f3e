/- Words and facts that the claim's proof leans on. No condition. -/
import Derived.Test.YtdpbdjdgdmheiaaGreatHxV
import Derived.Test.YtdpbdjdgdmheiaaGreatChecked
set_option maxRecDepth 100000
set_option linter.unusedVariables false
namespace Go.Proofs.YtdpbdjdgdmheiaaGreat
open Go.Hx
def loops37:List (List (Nat×Shp)):=[[(20,.int .i64)]]
noncomputable def code37:SCode:=((compF Tryz.prog Tryz.f37 loops37).elim .skip fun x=>x.2.2)
def ret37:List RV:=[.cellN 6 [.slice,.slice,.int .i64],.tmp 7]
theorem comp37:compF Tryz.prog Tryz.f37 loops37=some (121,ret37,code37):=by kernel_rfl
def J37_5  (h h_ h_18:Heap) (i:Int) (next_:(Int->Heap->Prop)) (h_26:Heap):Prop:=
 ∃ (A84:Option Addr) (N84 C84:Nat),cellH h_26 (Addr.add ⟨h_.size,0,none⟩ 1)=some (.slice A84 N84 C84)/\PIf (i<(IntKind.wrap .i64 (((N84:Nat):Int)-1)))
 (∃ zn:Zone,Zone.hasL zn h_26 (Addr.add ⟨h_18.size,0,none⟩ 1)/\∃ (A85:Option Addr) (N85 C85:Nat),cellH h_26 (Addr.add ⟨h_18.size,0,none⟩ 1)=some (.slice A85 N85 C85)/\let h_27:Heap:=(h_26).push (.cells #[] 4);Zone.r zn h_26 h_27/\Zone.hasL zn h_27 (Addr.add ⟨h_.size,0,none⟩ 1)/\∃ (A86:Option Addr) (N86 C86:Nat),cellH h_27 (Addr.add ⟨h_.size,0,none⟩ 1)=some (.slice A86 N86 C86)/\0≤i/\i<(N86:Nat)/\AtP A86 fun ad2=>Zone.hasL zn h_27 (Addr.add ad2 (Int.toNat i*1))/\∃ (A87:Option Addr) (N87 C87:Nat),cellH h_27 (Addr.add ad2 (Int.toNat i*1))=some (.slice A87 N87 C87)/\Zone.hasL zn h_27 (Addr.add ⟨h.size,0,none⟩ 1)/\∃ (A88:Option Addr) (N88 C88:Nat),cellH h_27 (Addr.add ⟨h.size,0,none⟩ 1)=some (.slice A88 N88 C88)/\0≤(0:Int)/\(0:Int)≤((N88:Nat):Int)/\(((N88:Nat):Int):Int)≤(C87:Nat)/\∃ ys1:List Value,ReadL h_27 (cutA 1 A87 C87 (Int.toNat 0)) ys1/\ys1.length=(Int.toNat ((N88:Nat):Int)-Int.toNat 0)*1/\AppS h_27 (some ⟨h_26.size,0,none⟩) 0 0 4 1 1 #[.bool false] ys1 (Int.toNat ((N88:Nat):Int)-Int.toNat 0) fun apA1 apN1 apC1 h_28=>Zone.r zn h_27 h_28/\let h_29:Heap:=(h_28).push (.cells #[.slice apA1 apN1 apC1] 46);Zone.r zn h_28 h_29/\∃ ys2:List Value,ReadL h_29 (some ⟨h_28.size,0,none⟩) ys2/\ys2.length=1*1/\AppS h_29 A85 N85 C85 46 24 1 #[.slice none 0 0] ys2 1 fun apA2 apN2 apC2 h_30=>Zone.r zn h_29 h_30/\StoreH h_30 (Addr.add ⟨h_18.size,0,none⟩ 1) [.slice apA2 apN2 apC2] fun h_31=>next_ (IntKind.wrap .i64 (i+1)) h_31)
 (next_ (IntKind.wrap .i64 (i+1)) h_26)
def J37_4  (P:Program) (h h_:Heap) (t3:Int) (h_3:Heap) (A54:(Option Addr)) (N54:Nat) (A66:(Option Addr)) (N66 C66:Nat) (h_18:Heap) (i:Int) (next_:(Int->Heap->Prop)) (h_22:Heap):Prop:=
 LdC h_22 ⟨h_3.size,0,none⟩ fun t20=>0≤i/\i<(N54:Nat)/\AtP A54 fun ad=>∃ (A80:Option Addr) (N80 C80:Nat),cellH h_22 (Addr.add (Addr.add ad (Int.toNat i*4)) 0)=some (.slice A80 N80 C80)/\∃ (A81:Option Addr) (N81 C81:Nat),cellH h_22 (Addr.add ⟨h_.size,0,none⟩ 1)=some (.slice A81 N81 C81)/\0≤i/\i<(N81:Nat)/\AtP A81 fun ad1=>∃ (A82:Option Addr) (N82 C82:Nat),cellH h_22 (Addr.add ad1 (Int.toNat i*1))=some (.slice A82 N82 C82)/\CallsH P 83 #[t20.v,.slice A66 N66 C66,.slice A80 N80 C80,.slice A82 N82 C82] h_22 fun v5 h_23=>
 ∃ (A83:Option Addr) (N83 C83:Nat),v5=(.slice A83 N83 C83)/\CallsH P 58 #[.slice A83 N83 C83,.int .i64 t3] h_23 fun v6 h_24=>
 ∃ (t21:Bool),v6=(.bool t21)/\BIf t21 (StoreH h_24 (Addr.add ⟨h_18.size,0,none⟩ 2) [.int .i64 i] fun h_25=>J37_5 h h_ h_18 i next_ h_25) (J37_5 h h_ h_18 i next_ h_24)
def J37_3  (R:Value->Heap->Prop) (h_1 h_18 h_32:Heap):Prop:=
 LdT h_32 ⟨h_18.size,0,none⟩ fun t22=>StoreH h_32 ⟨h_1.size,0,none⟩ t22.cs fun h_33=>LdT h_33 ⟨h_1.size,0,none⟩ fun t23=>R (.tuple #[t23.v,.int .i64 0]) h_33
def B37_6 (P:Program) (R:Value->Heap->Prop) (h h_ h_1:Heap) (t3:Int) (h_3:Heap) (A54:(Option Addr)) (N54:Nat) (A66:(Option Addr)) (N66 C66:Nat) (h_18:Heap) (i:Int) (h_21:Heap) (next_:Int->Heap->Prop):Prop:=
 ∃ (A69:Option Addr) (N69 C69:Nat),cellH h_21 (Addr.add ⟨h_.size,0,none⟩ 1)=some (.slice A69 N69 C69)/\PIf (i<((N69:Nat):Int))
 (J37_4 P h h_ t3 h_3 A54 N54 A66 N66 C66 h_18 i next_ h_21)
 (J37_3 R h_1 h_18 h_21)
def J37_2  (P:Program) (R:Value->Heap->Prop) (h h_ h_1:Heap) (t3:Int) (h_3 h_14:Heap):Prop:=
 LdC h_14 ⟨h_3.size,0,none⟩ fun t14=>LdT h_14 ⟨h_.size,0,none⟩ fun t15=>CallsH P 81 #[t14.v,t15.v] h_14 fun v3 h_15=>
 ∃ (A54:Option Addr) (N54 C54:Nat) (A55:Option Addr) (N55 C55:Nat) (t16 t17:Int),v3=(.tuple #[.slice A54 N54 C54,.slice A55 N55 C55,.int .i64 t16,.int .i64 t17])/\LdC h_15 ⟨h_3.size,0,none⟩ fun t18=>CallsH P 82 #[t18.v] h_15 fun v4 h_16=>
 ∃ (A66:Option Addr) (N66 C66:Nat) (t19:Int),v4=(.tuple #[.slice A66 N66 C66,.int .i64 t19])/\let h_17:Heap:=(h_16).push (.cells #[] 4);∃ (A67:Option Addr) (N67 C67:Nat),cellH h_17 (Addr.add ⟨h_.size,0,none⟩ 0)=some (.slice A67 N67 C67)/\∃ (A68:Option Addr) (N68 C68:Nat),cellH h_17 (Addr.add ⟨h.size,0,none⟩ 2)=some (.slice A68 N68 C68)/\0≤(0:Int)/\(0:Int)≤((N68:Nat):Int)/\(((N68:Nat):Int):Int)≤(C67:Nat)/\∃ ys:List Value,ReadL h_17 (cutA 1 A67 C67 (Int.toNat 0)) ys/\ys.length=(Int.toNat ((N68:Nat):Int)-Int.toNat 0)*1/\AppS h_17 (some ⟨h_16.size,0,none⟩) 0 0 4 1 1 #[.bool false] ys (Int.toNat ((N68:Nat):Int)-Int.toNat 0) fun apA apN apC h_18=>let h_19:Heap:=(h_18).push (.cells TV.zero.cs.toArray 49);StoreH h_19 ⟨h_18.size,0,none⟩ [.slice apA apN apC,.slice none 0 0,.int .i64 0] fun h_20=>LoopT (σ:=Int) (fun st_ h_st nx_st=>B37_6 P R h h_ h_1 t3 h_3 A54 N54 A66 N66 C66 h_18 (st_) h_st nx_st) (0) h_20
def J37_1  (P:Program) (R:Value->Heap->Prop) (h h_ h_1:Heap) (t3:Int) (h_3 h_10:Heap):Prop:=
 StoreH h_10 (Addr.add ⟨h_.size,0,none⟩ 2) [(.int .i64 (-1))] fun h_11=>LdC h_11 ⟨h_3.size,0,none⟩ fun t9=>LdT h_11 ⟨h_.size,0,none⟩ fun t10=>CallsH P 80 #[t9.v,.int .i64 0,t10.v] h_11 fun v2 h_12=>
 ∃ (t11 t12:Int),v2=(.tuple #[.int .i64 t11,.int .i64 t12])/\PIf (t12=0)
 (J37_2 P R h h_ h_1 t3 h_3 h_12)
 (StoreH h_12 ⟨h_1.size,0,none⟩ TV.zero.cs fun h_13=>LdT h_13 ⟨h_1.size,0,none⟩ fun t13=>R (.tuple #[t13.v,.int .i64 260]) h_13)
def J37_0  (P:Program) (R:Value->Heap->Prop) (h h_ h_1:Heap) (t3:Int) (h_3 h_7:Heap):Prop:=
 LdT h_7 ⟨h_.size,0,none⟩ fun t6=>∃ (A24:Option Addr) (N24 C24:Nat),cellH h_7 (Addr.add ⟨h_3.size,0,none⟩ 2)=some (.slice A24 N24 C24)/\∃ (A25:Option Addr) (N25 C25:Nat),cellH h_7 (Addr.add ⟨h_3.size,0,none⟩ 1)=some (.slice A25 N25 C25)/\CallsH P 79 #[t6.v,(.int .i64 ((N24:Nat):Int)),(.int .i64 ((N25:Nat):Int)),.int .i64 512] h_7 fun v1 h_8=>
 ∃ (t7:Bool),v1=(.bool t7)/\BIf (!t7) (StoreH h_8 ⟨h_1.size,0,none⟩ TV.zero.cs fun h_9=>LdT h_9 ⟨h_1.size,0,none⟩ fun t8=>R (.tuple #[t8.v,.int .i64 4]) h_9) (J37_1 P R h h_ h_1 t3 h_3 h_8)
def VC37 (P:Program) (c:CV) (j:Int) (t:TV) (R:Value->Heap->Prop) (h:Heap):Prop:=
 let h_:Heap:=(h).push (.cells (Value.cells c.v) 29);let h_1:Heap:=(h_).push (.cells (Value.cells t.v) 49);let h_2:Heap:=(h_1).push (.cells TV.zero.cs.toArray 49);LdC h_2 ⟨h.size,0,none⟩ fun t1=>CallsH P 69 #[t1.v,.int .i64 j] h_2 fun v h_3=>
 ExCi fun t2=>∃ (t3 t4:Int),v=(.tuple #[t2.v,.int .i64 t3,.int .i64 t4])/\let h_4:Heap:=(h_3).push (.cells CV.zero.cs.toArray 29);StoreH h_4 ⟨h_3.size,0,none⟩ t2.cs fun h_5=>PIf (t4=0)
 (J37_0 P R h h_ h_1 t3 h_3 h_5)
 (StoreH h_5 ⟨h_1.size,0,none⟩ TV.zero.cs fun h_6=>LdT h_6 ⟨h_1.size,0,none⟩ fun t5=>R (.tuple #[t5.v,.int .i64 t4]) h_6)
theorem run37 (c:CV) (j:Int) (t:TV) (R:Value->Heap->Prop) (h:Heap) (hv:VC37 Tryz.prog c j t R h):CallsH Tryz.prog 37 #[c.v,.int .i64 j,t.v] h R:=calls_of_fnC (Checked.mixed Tryz.checked) Tryz.func37 comp37 (Nat.le_of_ble_eq_true rfl) (Eq.mp (by kernel_rfl) hv)
def loops39:List (List (Nat×Shp)):=[[(14,.int .i64)],[(15,.int .i64)]]
noncomputable def code39:SCode:=((compF Tryz.prog Tryz.f39 loops39).elim .skip fun x=>x.2.2)
def ret39:List RV:=[.cellN 6 [.slice,.slice,.int .i64],.tmp 7]
theorem comp39:compF Tryz.prog Tryz.f39 loops39=some (109,ret39,code39):=by kernel_rfl
def J39_4  (h_ h_14:Heap) (i:Int) (next_:(Int->Heap->Prop)) (h_18:Heap):Prop:=
 ∃ (A44:Option Addr) (N44 C44:Nat),cellH h_18 (Addr.add ⟨h_14.size,0,none⟩ 0)=some (.slice A44 N44 C44)/\∃ (A45:Option Addr) (N45 C45:Nat),cellH h_18 (Addr.add ⟨h_.size,0,none⟩ 0)=some (.slice A45 N45 C45)/\0≤i/\i<(N45:Nat)/\AtP A45 fun ad=>∃ (t14:Bool),cellH h_18 (Addr.add ad (Int.toNat i*1))=some (.bool t14)/\0≤i/\i<(N44:Nat)/\AtP A44 fun ad1=>StoreH h_18 (Addr.add ad1 (Int.toNat i*1)) [.bool t14] fun h_19=>next_ (IntKind.wrap .i64 (i+1)) h_19
def J39_6  (h_ h_14:Heap) (i1:Int) (next_1:(Int->Heap->Prop)) (h_22:Heap):Prop:=
 ∃ zn:Zone,Zone.Le (h_22).size zn/\∀ (U:Nat->Prop) (h_23:Heap) (b:Nat),GrowH none' h_22 U h_23->U b->(h_23)[b]?=some (Obj.cells #[] 4)->Zone.hasL zn h_23 (Addr.add ⟨h_.size,0,none⟩ 1)/\∃ (A47:Option Addr) (N47 C47:Nat),cellH h_23 (Addr.add ⟨h_.size,0,none⟩ 1)=some (.slice A47 N47 C47)/\0≤i1/\i1<(N47:Nat)/\AtP A47 fun ad2=>Zone.hasL zn h_23 (Addr.add ad2 (Int.toNat i1*1))/\∃ (A48:Option Addr) (N48 C48:Nat),cellH h_23 (Addr.add ad2 (Int.toNat i1*1))=some (.slice A48 N48 C48)/\∀ (U1:Nat->Prop) (h_24:Heap),GrowH (minus U b) h_23 U1 h_24->∃ ys:List Value,ReadL h_24 A48 ys/\ys.length=N48*1/\AppS h_24 (some (Addr.mk b 0 none)) 0 0 4 1 1 #[.bool false] ys N48 fun apA apN apC h_25=>KeepsZ zn U1 h_24 h_25/\Zone.hasL zn h_25 (Addr.add ⟨h_.size,0,none⟩ 2)/\∃ (t15:Int),cellH h_25 (Addr.add ⟨h_.size,0,none⟩ 2)=some (.int .i64 t15)/\PIf (i1=t15)
 (∀ (U2:Nat->Prop) (h_26:Heap) (b1:Nat),GrowH U1 h_25 U2 h_26->U2 b1->(h_26)[b1]?=some (Obj.cells #[.bool true] 4)->∀ (U3:Nat->Prop) (h_27:Heap),GrowH (minus U2 b1) h_26 U3 h_27->∃ ys1:List Value,ReadL h_27 (some (Addr.mk b1 0 none)) ys1/\ys1.length=1*1/\AppS h_27 apA apN apC 4 1 1 #[.bool false] ys1 1 fun apA1 apN1 apC1 h_28=>KeepsZ zn U3 h_27 h_28/\Zone.hasL zn h_28 (Addr.add ⟨h_14.size,0,none⟩ 1)/\∃ (A49:Option Addr) (N49 C49:Nat),cellH h_28 (Addr.add ⟨h_14.size,0,none⟩ 1)=some (.slice A49 N49 C49)/\∀ (U4:Nat->Prop) (h_29:Heap) (b2:Nat),GrowH U3 h_28 U4 h_29->U4 b2->(h_29)[b2]?=some (Obj.cells #[.slice apA1 apN1 apC1] 46)->∀ (U5:Nat->Prop) (h_30:Heap),GrowH (minus U4 b2) h_29 U5 h_30->∃ ys2:List Value,ReadL h_30 (some (Addr.mk b2 0 none)) ys2/\ys2.length=1*1/\AppS h_30 A49 N49 C49 46 24 1 #[.slice none 0 0] ys2 1 fun apA2 apN2 apC2 h_31=>KeepsZ zn U5 h_30 h_31/\∀ (U6:Nat->Prop) (h_32:Heap),GrowH U5 h_31 U6 h_32->StoreH h_32 (Addr.add ⟨h_14.size,0,none⟩ 1) [.slice apA2 apN2 apC2] fun h_33=>(h_32).size≤(h_33).size/\next_1 (IntKind.wrap .i64 (i1+1)) h_33)
 (∀ (U7:Nat->Prop) (h_34:Heap) (b3:Nat),GrowH U1 h_25 U7 h_34->U7 b3->(h_34)[b3]?=some (Obj.cells #[.bool false] 4)->∀ (U8:Nat->Prop) (h_35:Heap),GrowH (minus U7 b3) h_34 U8 h_35->∃ ys3:List Value,ReadL h_35 (some (Addr.mk b3 0 none)) ys3/\ys3.length=1*1/\AppS h_35 apA apN apC 4 1 1 #[.bool false] ys3 1 fun apA3 apN3 apC3 h_36=>KeepsZ zn U8 h_35 h_36/\Zone.hasL zn h_36 (Addr.add ⟨h_14.size,0,none⟩ 1)/\∃ (A50:Option Addr) (N50 C50:Nat),cellH h_36 (Addr.add ⟨h_14.size,0,none⟩ 1)=some (.slice A50 N50 C50)/\∀ (U9:Nat->Prop) (h_37:Heap) (b4:Nat),GrowH U8 h_36 U9 h_37->U9 b4->(h_37)[b4]?=some (Obj.cells #[.slice apA3 apN3 apC3] 46)->∀ (U10:Nat->Prop) (h_38:Heap),GrowH (minus U9 b4) h_37 U10 h_38->∃ ys4:List Value,ReadL h_38 (some (Addr.mk b4 0 none)) ys4/\ys4.length=1*1/\AppS h_38 A50 N50 C50 46 24 1 #[.slice none 0 0] ys4 1 fun apA4 apN4 apC4 h_39=>KeepsZ zn U10 h_38 h_39/\∀ (U11:Nat->Prop) (h_40:Heap),GrowH U10 h_39 U11 h_40->StoreH h_40 (Addr.add ⟨h_14.size,0,none⟩ 1) [.slice apA4 apN4 apC4] fun h_41=>(h_40).size≤(h_41).size/\next_1 (IntKind.wrap .i64 (i1+1)) h_41)
def J39_5  (R:Value->Heap->Prop) (h_ h_1 h_14 h_42:Heap):Prop:=
 ∃ zn1:Zone,Zone.Le (h_42).size zn1/\∀ (U12:Nat->Prop) (h_43:Heap) (b5:Nat),GrowH none' h_42 U12 h_43->U12 b5->(h_43)[b5]?=some (Obj.cells #[] 4)->Zone.hasL zn1 h_43 (Addr.add ⟨h_.size,0,none⟩ 1)/\∃ (A51:Option Addr) (N51 C51:Nat),cellH h_43 (Addr.add ⟨h_.size,0,none⟩ 1)=some (.slice A51 N51 C51)/\Zone.hasL zn1 h_43 (Addr.add ⟨h_.size,0,none⟩ 2)/\∃ (t16:Int),cellH h_43 (Addr.add ⟨h_.size,0,none⟩ 2)=some (.int .i64 t16)/\0≤t16/\t16<(N51:Nat)/\AtP A51 fun ad3=>Zone.hasL zn1 h_43 (Addr.add ad3 (Int.toNat t16*1))/\∃ (A52:Option Addr) (N52 C52:Nat),cellH h_43 (Addr.add ad3 (Int.toNat t16*1))=some (.slice A52 N52 C52)/\∀ (U13:Nat->Prop) (h_44:Heap),GrowH (minus U12 b5) h_43 U13 h_44->∃ ys5:List Value,ReadL h_44 A52 ys5/\ys5.length=N52*1/\AppS h_44 (some (Addr.mk b5 0 none)) 0 0 4 1 1 #[.bool false] ys5 N52 fun apA5 apN5 apC5 h_45=>KeepsZ zn1 U13 h_44 h_45/\∀ (U14:Nat->Prop) (h_46:Heap) (b6:Nat),GrowH U13 h_45 U14 h_46->U14 b6->(h_46)[b6]?=some (Obj.cells #[.bool false] 4)->∀ (U15:Nat->Prop) (h_47:Heap),GrowH (minus U14 b6) h_46 U15 h_47->∃ ys6:List Value,ReadL h_47 (some (Addr.mk b6 0 none)) ys6/\ys6.length=1*1/\AppS h_47 apA5 apN5 apC5 4 1 1 #[.bool false] ys6 1 fun apA6 apN6 apC6 h_48=>KeepsZ zn1 U15 h_47 h_48/\Zone.hasL zn1 h_48 (Addr.add ⟨h_14.size,0,none⟩ 1)/\∃ (A53:Option Addr) (N53 C53:Nat),cellH h_48 (Addr.add ⟨h_14.size,0,none⟩ 1)=some (.slice A53 N53 C53)/\∀ (U16:Nat->Prop) (h_49:Heap) (b7:Nat),GrowH U15 h_48 U16 h_49->U16 b7->(h_49)[b7]?=some (Obj.cells #[.slice apA6 apN6 apC6] 46)->∀ (U17:Nat->Prop) (h_50:Heap),GrowH (minus U16 b7) h_49 U17 h_50->∃ ys7:List Value,ReadL h_50 (some (Addr.mk b7 0 none)) ys7/\ys7.length=1*1/\AppS h_50 A53 N53 C53 46 24 1 #[.slice none 0 0] ys7 1 fun apA7 apN7 apC7 h_51=>KeepsZ zn1 U17 h_50 h_51/\∀ (U18:Nat->Prop) (h_52:Heap),GrowH U17 h_51 U18 h_52->StoreH h_52 (Addr.add ⟨h_14.size,0,none⟩ 1) [.slice apA7 apN7 apC7] fun h_53=>(h_52).size≤(h_53).size/\LdT h_53 ⟨h_14.size,0,none⟩ fun t17=>StoreH h_53 ⟨h_1.size,0,none⟩ t17.cs fun h_54=>LdT h_54 ⟨h_1.size,0,none⟩ fun t18=>R (.tuple #[t18.v,.int .i64 0]) h_54
def B39_7 (R:Value->Heap->Prop) (h_ h_1 h_14:Heap) (i1:Int) (h_21:Heap) (next_1:Int->Heap->Prop):Prop:=
 ∃ (A46:Option Addr) (N46 C46:Nat),cellH h_21 (Addr.add ⟨h_.size,0,none⟩ 1)=some (.slice A46 N46 C46)/\PIf (i1<((N46:Nat):Int))
 (J39_6 h_ h_14 i1 next_1 h_21)
 (J39_5 R h_ h_1 h_14 h_21)
def J39_3  (R:Value->Heap->Prop) (h_ h_1 h_14 h_20:Heap):Prop:=
 LoopT (σ:=Int) (fun st_ h_st nx_st=>B39_7 R h_ h_1 h_14 (st_) h_st nx_st) (0) h_20
def B39_8 (R:Value->Heap->Prop) (h_ h_1 h_14:Heap) (i:Int) (h_17:Heap) (next_:Int->Heap->Prop):Prop:=
 ∃ (A43:Option Addr) (N43 C43:Nat),cellH h_17 (Addr.add ⟨h_.size,0,none⟩ 0)=some (.slice A43 N43 C43)/\PIf (i<((N43:Nat):Int))
 (J39_4 h_ h_14 i next_ h_17)
 (J39_3 R h_ h_1 h_14 h_17)
def J39_2  (R:Value->Heap->Prop) (h_ h_1 h_3 h_13:Heap):Prop:=
 ∃ (A42:Option Addr) (N42 C42:Nat),cellH h_13 (Addr.add ⟨h_3.size,0,none⟩ 2)=some (.slice A42 N42 C42)/\0≤(((N42:Nat):Int):Int)/\(((N42:Nat):Int):Int)≤((N42:Nat):Int)/\(1:Int)*((N42:Nat):Int)≤281474976710656/\let h_14:Heap:=(h_13).push (.cells (zeroRow #[.bool false] (Int.toNat ((N42:Nat):Int)*1)).toArray 4);let h_15:Heap:=(h_14).push (.cells TV.zero.cs.toArray 49);StoreH h_15 ⟨h_14.size,0,none⟩ [(.slice (some ⟨h_13.size,0,none⟩) (Int.toNat ((N42:Nat):Int)) (Int.toNat ((N42:Nat):Int))),.slice none 0 0,(.int .i64 (-1))] fun h_16=>LoopT (σ:=Int) (fun st_ h_st nx_st=>B39_8 R h_ h_1 h_14 (st_) h_st nx_st) (0) h_16
def J39_1  (P:Program) (R:Value->Heap->Prop) (h:Heap) (j:Int) (h_ h_1 h_3 h_10:Heap):Prop:=
 LdC h_10 ⟨h.size,0,none⟩ fun t9=>LdT h_10 ⟨h_.size,0,none⟩ fun t10=>CallsH P 29 #[t9.v,.int .i64 j,t10.v] h_10 fun v2 h_11=>
 ∃ (t11 t12:Int),v2=(.tuple #[.int .i64 t11,.int .i64 t12])/\PIf (t12=0)
 (J39_2 R h_ h_1 h_3 h_11)
 (StoreH h_11 ⟨h_1.size,0,none⟩ TV.zero.cs fun h_12=>LdT h_12 ⟨h_1.size,0,none⟩ fun t13=>R (.tuple #[t13.v,.int .i64 260]) h_12)
def J39_0  (P:Program) (R:Value->Heap->Prop) (h:Heap) (j:Int) (h_ h_1 h_3 h_7:Heap):Prop:=
 LdT h_7 ⟨h_.size,0,none⟩ fun t6=>∃ (A24:Option Addr) (N24 C24:Nat),cellH h_7 (Addr.add ⟨h.size,0,none⟩ 2)=some (.slice A24 N24 C24)/\∃ (A25:Option Addr) (N25 C25:Nat),cellH h_7 (Addr.add ⟨h.size,0,none⟩ 1)=some (.slice A25 N25 C25)/\CallsH P 79 #[t6.v,(.int .i64 ((N24:Nat):Int)),(.int .i64 ((N25:Nat):Int)),.int .i64 511] h_7 fun v1 h_8=>
 ∃ (t7:Bool),v1=(.bool t7)/\BIf (!t7) (StoreH h_8 ⟨h_1.size,0,none⟩ TV.zero.cs fun h_9=>LdT h_9 ⟨h_1.size,0,none⟩ fun t8=>R (.tuple #[t8.v,.int .i64 4]) h_9) (J39_1 P R h j h_ h_1 h_3 h_8)
def VC39 (P:Program) (c:CV) (j:Int) (t:TV) (R:Value->Heap->Prop) (h:Heap):Prop:=
 let h_:Heap:=(h).push (.cells (Value.cells c.v) 29);let h_1:Heap:=(h_).push (.cells (Value.cells t.v) 49);let h_2:Heap:=(h_1).push (.cells TV.zero.cs.toArray 49);LdC h_2 ⟨h.size,0,none⟩ fun t1=>CallsH P 69 #[t1.v,.int .i64 j] h_2 fun v h_3=>
 ExCi fun t2=>∃ (t3 t4:Int),v=(.tuple #[t2.v,.int .i64 t3,.int .i64 t4])/\let h_4:Heap:=(h_3).push (.cells CV.zero.cs.toArray 29);StoreH h_4 ⟨h_3.size,0,none⟩ t2.cs fun h_5=>PIf (t4=0)
 (J39_0 P R h j h_ h_1 h_3 h_5)
 (StoreH h_5 ⟨h_1.size,0,none⟩ TV.zero.cs fun h_6=>LdT h_6 ⟨h_1.size,0,none⟩ fun t5=>R (.tuple #[t5.v,.int .i64 t4]) h_6)
theorem run39 (c:CV) (j:Int) (t:TV) (R:Value->Heap->Prop) (h:Heap) (hv:VC39 Tryz.prog c j t R h):CallsH Tryz.prog 39 #[c.v,.int .i64 j,t.v] h R:=calls_of_fnC (Checked.mixed Tryz.checked) Tryz.func39 comp39 (Nat.le_of_ble_eq_true rfl) (Eq.mp (by kernel_rfl) hv)
def loops69:List (List (Nat×Shp)):=[[(19,.int .i64)],[(24,.int .i64)],[(27,.slice),(28,.int .i64)],[(33,.int .i64),(34,.int .i64)],[(33,.int .i64),(35,.int .i64)]]
noncomputable def code69:SCode:=((compF Tryz.prog Tryz.f69 loops69).elim .skip fun x=>x.2.2)
def ret69:List RV:=[.cellN 4 [.int .i64,.slice,.slice,.slice,.slice,.slice,.slice,.slice,.slice,.slice,.slice],.tmp 5,.tmp 6]
theorem comp69:compF Tryz.prog Tryz.f69 loops69=some (296,ret69,code69):=by kernel_rfl
def J69_4  (P:Program) (h:Heap) (b2:Nat) (t15 i:Int) (next_:(Int->Heap->Prop)) (h_38:Heap):Prop:=
 ∃ (A96:Option Addr) (N96 C96:Nat),cellH h_38 (Addr.add ⟨h.size,0,none⟩ 2)=some (.slice A96 N96 C96)/\0≤i/\i<(N96:Nat)/\AtP A96 fun ad1=>∃ (t17:Int),cellH h_38 (Addr.add (Addr.add ad1 (Int.toNat i*3)) 0)=some (.int .i64 t17)/\∃ (t18:Int),cellH h_38 (Addr.add ⟨h.size,0,none⟩ 0)=some (.int .i64 t18)/\CallsH P 117 #[(.pointer (some (Addr.mk b2 0 none))),.int .i64 t15,.int .i64 t17] h_38 fun v7 h_39=>
 ∃ (t19:Int),v7=(.int .i64 t19)/\CallsH P 118 #[.int .i64 t15] h_39 fun v8 h_40=>
 ∃ (t20:Int),v8=(.int .i64 t20)/\CallsH P 117 #[(.pointer (some (Addr.mk b2 0 none))),.int .i64 t20,(.int .i64 (IntKind.wrap .i64 (2*(IntKind.wrap .i64 ((IntKind.wrap .i64 (t18+3))+i)))))] h_40 fun v9 h_41=>
 ∃ (t21:Int),v9=(.int .i64 t21)/\∃ zn:Zone,Zone.hasL zn h_41 (Addr.add (Addr.mk b2 0 none) 2)/\∃ (A97:Option Addr) (N97 C97:Nat),cellH h_41 (Addr.add (Addr.mk b2 0 none) 2)=some (.slice A97 N97 C97)/\CallsH P 119 #[(.pointer (some (Addr.mk b2 0 none))),.int .i64 t19,.int .i64 t21] h_41 fun v10 h_42=>
 ∃ (t22:Int),v10=(.int .i64 t22)/\Zone.r zn h_41 h_42/\let h_43:Heap:=(h_42).push (.cells #[(.int .i64 (IntKind.wrap .i64 (2*(IntKind.wrap .i64 ((IntKind.wrap .i64 (t18+3))+i))))),.int .i64 t22,.int .i64 0] 65);Zone.r zn h_42 h_43/\∃ ys5:List Value,ReadL h_43 (some ⟨h_42.size,0,none⟩) ys5/\ys5.length=1*3/\AppS h_43 A97 N97 C97 65 24 3 #[.int .i64 0,.int .i64 0,.int .i64 0] ys5 1 fun apA5 apN5 apC5 h_44=>Zone.r zn h_43 h_44/\StoreH h_44 (Addr.add (Addr.mk b2 0 none) 2) [.slice apA5 apN5 apC5] fun h_45=>next_ (IntKind.wrap .i64 (i+1)) h_45
def J69_6  (P:Program) (h:Heap) (apA:(Option Addr)) (apN N45 b2:Nat) (t16 i1:Int) (next_1:(Int->Heap->Prop)) (h_48:Heap):Prop:=
 ∃ (t23:Int),cellH h_48 (Addr.add ⟨h.size,0,none⟩ 0)=some (.int .i64 t23)/\0≤i1/\i1<(apN:Nat)/\AtP apA fun ad2=>∃ (t24:Int),cellH h_48 (Addr.add ad2 (Int.toNat i1*1))=some (.int .i64 t24)/\CallsH P 117 #[(.pointer (some (Addr.mk b2 0 none))),.int .i64 t16,.int .i64 t24] h_48 fun v11 h_49=>
 ∃ (t25:Int),v11=(.int .i64 t25)/\∃ zn1:Zone,Zone.hasL zn1 h_49 (Addr.add (Addr.mk b2 0 none) 2)/\∃ (A98:Option Addr) (N98 C98:Nat),cellH h_49 (Addr.add (Addr.mk b2 0 none) 2)=some (.slice A98 N98 C98)/\CallsH P 119 #[(.pointer (some (Addr.mk b2 0 none))),(.int .i64 (IntKind.wrap .i64 (2*(IntKind.wrap .i64 ((IntKind.wrap .i64 ((IntKind.wrap .i64 (t23+3))+((N45:Nat):Int)))+i1))))),.int .i64 t25] h_49 fun v12 h_50=>
 ∃ (t26:Int),v12=(.int .i64 t26)/\Zone.r zn1 h_49 h_50/\let h_51:Heap:=(h_50).push (.cells #[(.int .i64 (IntKind.wrap .i64 (2*(IntKind.wrap .i64 ((IntKind.wrap .i64 ((IntKind.wrap .i64 (t23+3))+((N45:Nat):Int)))+i1))))),.int .i64 t26,.int .i64 0] 65);Zone.r zn1 h_50 h_51/\∃ ys6:List Value,ReadL h_51 (some ⟨h_50.size,0,none⟩) ys6/\ys6.length=1*3/\AppS h_51 A98 N98 C98 65 24 3 #[.int .i64 0,.int .i64 0,.int .i64 0] ys6 1 fun apA6 apN6 apC6 h_52=>Zone.r zn1 h_51 h_52/\StoreH h_52 (Addr.add (Addr.mk b2 0 none) 2) [.slice apA6 apN6 apC6] fun h_53=>next_1 (IntKind.wrap .i64 (i1+1)) h_53
def J69_8  (P:Program) (h:Heap) (b2:Nat) (sameA:(Option Addr)) (sameN sameC:Nat) (i2:Int) (next_2:((Option Addr×Nat×Nat)×Int->Heap->Prop)) (h_56:Heap):Prop:=
 ∃ (A99:Option Addr) (N99 C99:Nat),cellH h_56 (Addr.add ⟨h.size,0,none⟩ 2)=some (.slice A99 N99 C99)/\0≤i2/\i2<(N99:Nat)/\AtP A99 fun ad3=>∃ (t27:Int),cellH h_56 (Addr.add (Addr.add ad3 (Int.toNat i2*3)) 0)=some (.int .i64 t27)/\∃ (t28:Int),cellH h_56 (Addr.add ⟨h.size,0,none⟩ 0)=some (.int .i64 t28)/\CallsH P 118 #[(.int .i64 (IntKind.wrap .i64 (2*(IntKind.wrap .i64 ((IntKind.wrap .i64 (t28+3))+i2)))))] h_56 fun v13 h_57=>
 ∃ (t29:Int),v13=(.int .i64 t29)/\CallsH P 117 #[(.pointer (some (Addr.mk b2 0 none))),.int .i64 t27,.int .i64 t29] h_57 fun v14 h_58=>
 ∃ (t30:Int),v14=(.int .i64 t30)/\CallsH P 118 #[.int .i64 t27] h_58 fun v15 h_59=>
 ∃ (t31:Int),v15=(.int .i64 t31)/\CallsH P 117 #[(.pointer (some (Addr.mk b2 0 none))),.int .i64 t31,(.int .i64 (IntKind.wrap .i64 (2*(IntKind.wrap .i64 ((IntKind.wrap .i64 (t28+3))+i2)))))] h_59 fun v16 h_60=>
 ∃ (t32:Int),v16=(.int .i64 t32)/\CallsH P 118 #[.int .i64 t30] h_60 fun v17 h_61=>
 ∃ (t33:Int),v17=(.int .i64 t33)/\CallsH P 118 #[.int .i64 t32] h_61 fun v18 h_62=>
 ∃ (t34:Int),v18=(.int .i64 t34)/\CallsH P 117 #[(.pointer (some (Addr.mk b2 0 none))),.int .i64 t33,.int .i64 t34] h_62 fun v19 h_63=>
 ∃ (t35:Int),v19=(.int .i64 t35)/\let h_64:Heap:=(h_63).push (.cells #[.int .i64 t35] 3);∃ ys7:List Value,ReadL h_64 (some ⟨h_63.size,0,none⟩) ys7/\ys7.length=1*1/\AppS h_64 sameA sameN sameC 3 8 1 #[.int .i64 0] ys7 1 fun apA7 apN7 apC7 h_65=>next_2 ((apA7,apN7,apC7),(IntKind.wrap .i64 (i2+1))) h_65
def J69_10  (P:Program) (b2:Nat) (sameA1:(Option Addr)) (sameN1:Nat) (bad i3:Int) (next_3:(Int×Int->Heap->Prop)) (h_68:Heap):Prop:=
 0≤i3/\i3<(sameN1:Nat)/\AtP sameA1 fun ad4=>∃ (t36:Int),cellH h_68 (Addr.add ad4 (Int.toNat i3*1))=some (.int .i64 t36)/\CallsH P 117 #[(.pointer (some (Addr.mk b2 0 none))),.int .i64 bad,.int .i64 t36] h_68 fun v20 h_69=>
 ∃ (t37:Int),v20=(.int .i64 t37)/\next_3 (t37,(IntKind.wrap .i64 (i3+1))) h_69
def J69_12  (P:Program) (h:Heap) (N45 b2:Nat) (bad2 i4:Int) (next_4:(Int×Int->Heap->Prop)) (h_72:Heap):Prop:=
 ∃ (t38:Int),cellH h_72 (Addr.add ⟨h.size,0,none⟩ 0)=some (.int .i64 t38)/\CallsH P 117 #[(.pointer (some (Addr.mk b2 0 none))),.int .i64 bad2,(.int .i64 (IntKind.wrap .i64 (2*(IntKind.wrap .i64 ((IntKind.wrap .i64 ((IntKind.wrap .i64 (t38+3))+((N45:Nat):Int)))+i4)))))] h_72 fun v21 h_73=>
 ∃ (t39:Int),v21=(.int .i64 t39)/\next_4 (t39,(IntKind.wrap .i64 (i4+1))) h_73
def J69_11  (R:Value->Heap->Prop) (h_:Heap) (b2:Nat) (t15 bad3:Int) (h_74:Heap):Prop:=
 let h_75:Heap:=(h_74).push (.cells #[.int .i64 bad3] 3);StoreH h_75 (Addr.add (Addr.mk b2 0 none) 4) [(.slice (some ⟨h_74.size,0,none⟩) 1 1)] fun h_76=>LdC h_76 (Addr.mk b2 0 none) fun t40=>StoreH h_76 ⟨h_.size,0,none⟩ t40.cs fun h_77=>LdC h_77 ⟨h_.size,0,none⟩ fun t41=>R (.tuple #[t41.v,.int .i64 t15,.int .i64 0]) h_77
def B69_13 (P:Program) (R:Value->Heap->Prop) (h h_:Heap) (apN N45 b2:Nat) (t15 bad2 i4:Int) (h_71:Heap) (next_4:Int×Int->Heap->Prop):Prop:=
 PIf (i4<((apN:Nat):Int))
 (J69_12 P h N45 b2 bad2 i4 next_4 h_71)
 (J69_11 R h_ b2 t15 (bad2) h_71)
def J69_9  (P:Program) (R:Value->Heap->Prop) (h h_:Heap) (apN N45 b2:Nat) (t15 bad1:Int) (h_70:Heap):Prop:=
 LoopT (σ:=Int×Int) (fun st_ h_st nx_st=>B69_13 P R h h_ apN N45 b2 t15 (st_.1) (st_.2) h_st nx_st) (bad1,0) h_70
def B69_14 (P:Program) (R:Value->Heap->Prop) (h h_:Heap) (apN N45 b2:Nat) (t15:Int) (sameA1:(Option Addr)) (sameN1:Nat) (bad i3:Int) (h_67:Heap) (next_3:Int×Int->Heap->Prop):Prop:=
 PIf (i3<((N45:Nat):Int))
 (J69_10 P b2 sameA1 sameN1 bad i3 next_3 h_67)
 (J69_9 P R h h_ apN N45 b2 t15 (bad) h_67)
def J69_7  (P:Program) (R:Value->Heap->Prop) (h h_:Heap) (apN N45 b2:Nat) (t13 t15:Int) (sameA1:Option Addr) (sameN1 sameC1:Nat) (h_66:Heap):Prop:=
 LoopT (σ:=Int×Int) (fun st_ h_st nx_st=>B69_14 P R h h_ apN N45 b2 t15 sameA1 sameN1 (st_.1) (st_.2) h_st nx_st) ((IntKind.wrap .i64 (2*(IntKind.wrap .i64 (t13+2)))),0) h_66
def B69_15 (P:Program) (R:Value->Heap->Prop) (h h_:Heap) (apN N45 b2:Nat) (t13 t15:Int) (sameA:Option Addr) (sameN sameC:Nat) (i2:Int) (h_55:Heap) (next_2:(Option Addr×Nat×Nat)×Int->Heap->Prop):Prop:=
 PIf (i2<((N45:Nat):Int))
 (J69_8 P h b2 sameA sameN sameC i2 next_2 h_55)
 (J69_7 P R h h_ apN N45 b2 t13 t15 (sameA) (sameN) (sameC) h_55)
def J69_5  (P:Program) (R:Value->Heap->Prop) (h h_:Heap) (apN N45 b2:Nat) (t13 t15:Int) (h_54:Heap):Prop:=
 LoopT (σ:=(Option Addr×Nat×Nat)×Int) (fun st_ h_st nx_st=>B69_15 P R h h_ apN N45 b2 t13 t15 (st_.1.1) (st_.1.2.1) (st_.1.2.2) (st_.2) h_st nx_st) ((none,0,0),0) h_54
def B69_16 (P:Program) (R:Value->Heap->Prop) (h h_:Heap) (apA:(Option Addr)) (apN N45 b2:Nat) (t13 t15 t16 i1:Int) (h_47:Heap) (next_1:Int->Heap->Prop):Prop:=
 PIf (i1<((apN:Nat):Int))
 (J69_6 P h apA apN N45 b2 t16 i1 next_1 h_47)
 (J69_5 P R h h_ apN N45 b2 t13 t15 h_47)
def J69_3  (P:Program) (R:Value->Heap->Prop) (h h_:Heap) (apA:(Option Addr)) (apN N45 b2:Nat) (t13 t15 t16:Int) (h_46:Heap):Prop:=
 LoopT (σ:=Int) (fun st_ h_st nx_st=>B69_16 P R h h_ apA apN N45 b2 t13 t15 t16 (st_) h_st nx_st) (0) h_46
def B69_17 (P:Program) (R:Value->Heap->Prop) (h h_:Heap) (apA:(Option Addr)) (apN N45 b2:Nat) (t13 t15 t16 i:Int) (h_37:Heap) (next_:Int->Heap->Prop):Prop:=
 PIf (i<((N45:Nat):Int))
 (J69_4 P h b2 t15 i next_ h_37)
 (J69_3 P R h h_ apA apN N45 b2 t13 t15 t16 h_37)
def J69_2  (P:Program) (R:Value->Heap->Prop) (h h_:Heap) (apA:(Option Addr)) (apN N45:Nat) (h_14:Heap):Prop:=
 (Addr.block (Addr.add ⟨h.size,0,none⟩ 1))<(h_14).size/\∃ (A88:Option Addr) (N88 C88:Nat),cellH h_14 (Addr.add ⟨h.size,0,none⟩ 1)=some (.slice A88 N88 C88)/\∀ (U:Nat->Prop) (h_15:Heap),GrowH none' h_14 U h_15->CallsH P 41 #[.slice A88 N88 C88] h_15 fun v2 h_16=>
 ∃ (A89:Option Addr) (N89 C89:Nat),v2=(.slice A89 N89 C89)/\Keeps (h_14).size U h_15 h_16/\∀ (U1:Nat->Prop) (h_17:Heap) (b:Nat),GrowH U h_16 U1 h_17->U1 b->(h_17)[b]?=some (Obj.cells #[] 65)->(Addr.block (Addr.add ⟨h.size,0,none⟩ 2))<(h_14).size/\∃ (A90:Option Addr) (N90 C90:Nat),cellH h_17 (Addr.add ⟨h.size,0,none⟩ 2)=some (.slice A90 N90 C90)/\∀ (U2:Nat->Prop) (h_18:Heap),GrowH (minus U1 b) h_17 U2 h_18->∃ ys1:List Value,ReadL h_18 A90 ys1/\ys1.length=N90*3/\AppS h_18 (some (Addr.mk b 0 none)) 0 0 65 24 3 #[.int .i64 0,.int .i64 0,.int .i64 0] ys1 N90 fun apA1 apN1 apC1 h_19=>Keeps (h_14).size U2 h_18 h_19/\(Addr.block (Addr.add ⟨h.size,0,none⟩ 5))<(h_14).size/\∃ (A91:Option Addr) (N91 C91:Nat),cellH h_19 (Addr.add ⟨h.size,0,none⟩ 5)=some (.slice A91 N91 C91)/\∀ (U3:Nat->Prop) (h_20:Heap),GrowH U2 h_19 U3 h_20->CallsH P 41 #[.slice A91 N91 C91] h_20 fun v3 h_21=>
 ∃ (A92:Option Addr) (N92 C92:Nat),v3=(.slice A92 N92 C92)/\Keeps (h_14).size U3 h_20 h_21/\∀ (U4:Nat->Prop) (h_22:Heap) (b1:Nat),GrowH U3 h_21 U4 h_22->U4 b1->(h_22)[b1]?=some (Obj.cells #[] 67)->(Addr.block (Addr.add ⟨h.size,0,none⟩ 8))<(h_14).size/\∃ (A93:Option Addr) (N93 C93:Nat),cellH h_22 (Addr.add ⟨h.size,0,none⟩ 8)=some (.slice A93 N93 C93)/\∀ (U5:Nat->Prop) (h_23:Heap),GrowH (minus U4 b1) h_22 U5 h_23->∃ ys2:List Value,ReadL h_23 A93 ys2/\ys2.length=N93*3/\AppS h_23 (some (Addr.mk b1 0 none)) 0 0 67 24 3 #[.int .i64 0,.int .i64 0,.int .i64 0] ys2 N93 fun apA2 apN2 apC2 h_24=>Keeps (h_14).size U5 h_23 h_24/\(Addr.block (Addr.add ⟨h.size,0,none⟩ 0))<(h_14).size/\∃ (t11:Int),cellH h_24 (Addr.add ⟨h.size,0,none⟩ 0)=some (.int .i64 t11)/\∀ (U6:Nat->Prop) (h_25:Heap) (b2:Nat),GrowH U5 h_24 U6 h_25->U6 b2->(h_25)[b2]?=some (Obj.cells CV.zero.cs.toArray 29)->∀ (U7:Nat->Prop) (h_26:Heap),GrowH (minus U6 b2) h_25 U7 h_26->StoreH h_26 (Addr.mk b2 0 none) [(.int .i64 (IntKind.wrap .i64 ((IntKind.wrap .i64 ((IntKind.wrap .i64 (t11+2))+((N45:Nat):Int)))+((apN:Nat):Int)))),.slice A89 N89 C89,.slice apA1 apN1 apC1,.slice none 0 0,.slice none 0 0,.slice A92 N92 C92,.slice none 0 0,.slice none 0 0,.slice apA2 apN2 apC2,.slice none 0 0,.slice none 0 0] fun h_27=>(h_26).size≤(h_27).size/\∃ (t12:Int),cellH h_27 (Addr.add ⟨h.size,0,none⟩ 0)=some (.int .i64 t12)/\∃ (t13:Int),cellH h_27 (Addr.add ⟨h.size,0,none⟩ 0)=some (.int .i64 t13)/\∃ (A94:Option Addr) (N94 C94:Nat),cellH h_27 (Addr.add (Addr.mk b2 0 none) 1)=some (.slice A94 N94 C94)/\let h_28:Heap:=(h_27).push (.cells #[(.int .i64 (IntKind.wrap .i64 (2*(IntKind.wrap .i64 (t12+1)))))] 3);∃ ys3:List Value,ReadL h_28 (some ⟨h_27.size,0,none⟩) ys3/\ys3.length=1*1/\AppS h_28 A94 N94 C94 3 8 1 #[.int .i64 0] ys3 1 fun apA3 apN3 apC3 h_29=>StoreH h_29 (Addr.add (Addr.mk b2 0 none) 1) [.slice apA3 apN3 apC3] fun h_30=>CallsH P 118 #[(.int .i64 (IntKind.wrap .i64 (2*(IntKind.wrap .i64 (t13+2)))))] h_30 fun v4 h_31=>
 ∃ (t14:Int),v4=(.int .i64 t14)/\CallsH P 117 #[(.pointer (some (Addr.mk b2 0 none))),(.int .i64 (IntKind.wrap .i64 (2*(IntKind.wrap .i64 (t12+1))))),.int .i64 t14] h_31 fun v5 h_32=>
 ∃ (t15:Int),v5=(.int .i64 t15)/\CallsH P 119 #[(.pointer (some (Addr.mk b2 0 none))),(.int .i64 (IntKind.wrap .i64 (2*(IntKind.wrap .i64 (t12+1))))),(.int .i64 (IntKind.wrap .i64 (2*(IntKind.wrap .i64 (t13+2)))))] h_32 fun v6 h_33=>
 ∃ (t16:Int),v6=(.int .i64 t16)/\∃ (A95:Option Addr) (N95 C95:Nat),cellH h_33 (Addr.add (Addr.mk b2 0 none) 2)=some (.slice A95 N95 C95)/\let h_34:Heap:=(h_33).push (.cells #[(.int .i64 (IntKind.wrap .i64 (2*(IntKind.wrap .i64 (t13+2))))),.int .i64 t16,.int .i64 0] 65);∃ ys4:List Value,ReadL h_34 (some ⟨h_33.size,0,none⟩) ys4/\ys4.length=1*3/\AppS h_34 A95 N95 C95 65 24 3 #[.int .i64 0,.int .i64 0,.int .i64 0] ys4 1 fun apA4 apN4 apC4 h_35=>StoreH h_35 (Addr.add (Addr.mk b2 0 none) 2) [.slice apA4 apN4 apC4] fun h_36=>LoopT (σ:=Int) (fun st_ h_st nx_st=>B69_17 P R h h_ apA apN N45 b2 t13 t15 t16 (st_) h_st nx_st) (0) h_36
def J69_1  (P:Program) (R:Value->Heap->Prop) (h:Heap) (j:Int) (h_ h_7:Heap):Prop:=
 (Addr.block (Addr.add ⟨h.size,0,none⟩ 6))<(h_7).size/\∃ (A41:Option Addr) (N41 C41:Nat),cellH h_7 (Addr.add ⟨h.size,0,none⟩ 6)=some (.slice A41 N41 C41)/\0≤j/\j<(N41:Nat)/\AtP A41 fun ad=>(Addr.block (Addr.add ad (Int.toNat j*1)))<(h_7).size/\∃ (A42:Option Addr) (N42 C42:Nat),cellH h_7 (Addr.add ad (Int.toNat j*1))=some (.slice A42 N42 C42)/\CallsH P 41 #[.slice A42 N42 C42] h_7 fun v1 h_8=>
 ∃ (A43:Option Addr) (N43 C43:Nat),v1=(.slice A43 N43 C43)/\AgreeH (h_7).size h_7 h_8/\(Addr.block (Addr.add ⟨h.size,0,none⟩ 7))<(h_7).size/\∃ (A44:Option Addr) (N44 C44:Nat),cellH h_8 (Addr.add ⟨h.size,0,none⟩ 7)=some (.slice A44 N44 C44)/\∃ ys:List Value,ReadL h_8 A44 ys/\ys.length=N44*1/\AppS h_8 A43 N43 C43 3 8 1 #[.int .i64 0] ys N44 fun apA apN apC h_9=>∃ (A45:Option Addr) (N45 C45:Nat),cellH h_9 (Addr.add ⟨h.size,0,none⟩ 2)=some (.slice A45 N45 C45)/\∃ (t6:Int),cellH h_9 (Addr.add ⟨h.size,0,none⟩ 0)=some (.int .i64 t6)/\PIf ((16384:Int)<(IntKind.wrap .i64 ((IntKind.wrap .i64 ((IntKind.wrap .i64 ((IntKind.wrap .i64 (t6+2))+((N45:Nat):Int)))+((apN:Nat):Int)))+(IntKind.wrap .i64 ((IntKind.wrap .i64 ((IntKind.wrap .i64 ((IntKind.wrap .i64 (2+(IntKind.wrap .i64 (6*((N45:Nat):Int)))))+(IntKind.wrap .i64 (2*((apN:Nat):Int)))))+((N45:Nat):Int)))+((apN:Nat):Int))))))
 (StoreH h_9 ⟨h_.size,0,none⟩ CV.zero.cs fun h_10=>LdC h_10 ⟨h_.size,0,none⟩ fun t7=>R (.tuple #[t7.v,.int .i64 0,.int .i64 2]) h_10)
 (∃ (A56:Option Addr) (N56 C56:Nat),cellH h_9 (Addr.add ⟨h.size,0,none⟩ 1)=some (.slice A56 N56 C56)/\PIf ((16384:Int)<(IntKind.wrap .i64 (((N56:Nat):Int)+1)))
 (StoreH h_9 ⟨h_.size,0,none⟩ CV.zero.cs fun h_11=>LdC h_11 ⟨h_.size,0,none⟩ fun t8=>R (.tuple #[t8.v,.int .i64 0,.int .i64 2]) h_11)
 (PIf ((16384:Int)<(IntKind.wrap .i64 ((IntKind.wrap .i64 ((IntKind.wrap .i64 (((N45:Nat):Int)+1))+((N45:Nat):Int)))+((apN:Nat):Int))))
 (StoreH h_9 ⟨h_.size,0,none⟩ CV.zero.cs fun h_12=>LdC h_12 ⟨h_.size,0,none⟩ fun t9=>R (.tuple #[t9.v,.int .i64 0,.int .i64 2]) h_12)
 (∃ (A77:Option Addr) (N77 C77:Nat),cellH h_9 (Addr.add ⟨h.size,0,none⟩ 8)=some (.slice A77 N77 C77)/\PIf ((16384:Int)<(IntKind.wrap .i64 (((N77:Nat):Int)+(IntKind.wrap .i64 ((IntKind.wrap .i64 ((IntKind.wrap .i64 ((IntKind.wrap .i64 (2+(IntKind.wrap .i64 (6*((N45:Nat):Int)))))+(IntKind.wrap .i64 (2*((apN:Nat):Int)))))+((N45:Nat):Int)))+((apN:Nat):Int))))))
 (StoreH h_9 ⟨h_.size,0,none⟩ CV.zero.cs fun h_13=>LdC h_13 ⟨h_.size,0,none⟩ fun t10=>R (.tuple #[t10.v,.int .i64 0,.int .i64 2]) h_13)
 (J69_2 P R h h_ apA apN N45 h_9))))
def J69_0  (P:Program) (R:Value->Heap->Prop) (h:Heap) (j:Int) (h_ h_4:Heap):Prop:=
 PIf (j<0)
 (StoreH h_4 ⟨h_.size,0,none⟩ CV.zero.cs fun h_5=>LdC h_5 ⟨h_.size,0,none⟩ fun t4=>R (.tuple #[t4.v,.int .i64 0,.int .i64 5]) h_5)
 (∃ (A30:Option Addr) (N30 C30:Nat),cellH h_4 (Addr.add ⟨h.size,0,none⟩ 6)=some (.slice A30 N30 C30)/\PIf ((((N30:Nat):Int):Int)≤j)
 (StoreH h_4 ⟨h_.size,0,none⟩ CV.zero.cs fun h_6=>LdC h_6 ⟨h_.size,0,none⟩ fun t5=>R (.tuple #[t5.v,.int .i64 0,.int .i64 5]) h_6)
 (J69_1 P R h j h_ h_4))
def VC69 (P:Program) (c:CV) (j:Int) (R:Value->Heap->Prop) (h:Heap):Prop:=
 let h_:Heap:=(h).push (.cells (Value.cells c.v) 29);let h_1:Heap:=(h_).push (.cells CV.zero.cs.toArray 29);LdC h_1 ⟨h.size,0,none⟩ fun t=>CallsH P 93 #[t.v] h_1 fun v h_2=>
 ∃ (t1 t2:Int),v=(.tuple #[.int .i64 t1,.int .i64 t2])/\PIf (t2=0)
 (J69_0 P R h j h_ h_2)
 (StoreH h_2 ⟨h_.size,0,none⟩ CV.zero.cs fun h_3=>LdC h_3 ⟨h_.size,0,none⟩ fun t3=>R (.tuple #[t3.v,.int .i64 0,.int .i64 t2]) h_3)
theorem run69 (c:CV) (j:Int) (R:Value->Heap->Prop) (h:Heap) (hv:VC69 Tryz.prog c j R h):CallsH Tryz.prog 69 #[c.v,.int .i64 j] h R:=calls_of_fnC (Checked.mixed Tryz.checked) Tryz.func69 comp69 (Nat.le_of_ble_eq_true rfl) (Eq.mp (by kernel_rfl) hv)
def loops79:List (List (Nat×Shp)):=[[(9,.int .i64)]]
noncomputable def code79:SCode:=((compF Tryz.prog Tryz.f79 loops79).elim .skip fun x=>x.2.2)
def ret79:List RV:=[.tmp 8]
theorem comp79:compF Tryz.prog Tryz.f79 loops79=some (43,ret79,code79):=by kernel_rfl
def J79_2  (R:Value->Heap->Prop) (h:Heap) (inputs i:Int) (next_:(Int->Heap->Prop)) (h_3:Heap):Prop:=
 ∃ (A4:Option Addr) (N4 C4:Nat),cellH h_3 (Addr.add ⟨h.size,0,none⟩ 1)=some (.slice A4 N4 C4)/\0≤i/\i<(N4:Nat)/\AtP A4 fun ad=>∃ (A5:Option Addr) (N5 C5:Nat),cellH h_3 (Addr.add ad (Int.toNat i*1))=some (.slice A5 N5 C5)/\PIf ((((N5:Nat):Int):Int)=inputs)
 (next_ (IntKind.wrap .i64 (i+1)) h_3)
 (R (.bool false) h_3)
def J79_1  (R:Value->Heap->Prop) (h_4:Heap):Prop:=
 R (.bool true) h_4
def B79_3 (R:Value->Heap->Prop) (h:Heap) (inputs i:Int) (h_2:Heap) (next_:Int->Heap->Prop):Prop:=
 ∃ (A3:Option Addr) (N3 C3:Nat),cellH h_2 (Addr.add ⟨h.size,0,none⟩ 1)=some (.slice A3 N3 C3)/\PIf (i<((N3:Nat):Int))
 (J79_2 R h inputs i next_ h_2)
 (J79_1 R h_2)
def J79_0  (R:Value->Heap->Prop) (h:Heap) (inputs:Int) (h_1:Heap):Prop:=
 LoopT (σ:=Int) (fun st_ h_st nx_st=>B79_3 R h inputs (st_) h_st nx_st) (0) h_1
def VC79 (P:Program) (t:TV) (latches inputs most:Int) (R:Value->Heap->Prop) (h:Heap):Prop:=
 let h_:Heap:=(h).push (.cells (Value.cells t.v) 49);∃ (A:Option Addr) (N C:Nat),cellH h_ (Addr.add ⟨h.size,0,none⟩ 0)=some (.slice A N C)/\PIf ((((N:Nat):Int):Int)=latches)
 (∃ (A1:Option Addr) (N1 C1:Nat),cellH h_ (Addr.add ⟨h.size,0,none⟩ 1)=some (.slice A1 N1 C1)/\PIf ((((N1:Nat):Int):Int)<1)
 (R (.bool false) h_)
 (∃ (A2:Option Addr) (N2 C2:Nat),cellH h_ (Addr.add ⟨h.size,0,none⟩ 1)=some (.slice A2 N2 C2)/\PIf (most<((N2:Nat):Int))
 (R (.bool false) h_)
 (J79_0 R h inputs h_)))
 (R (.bool false) h_)
theorem run79 (t:TV) (latches inputs most:Int) (R:Value->Heap->Prop) (h:Heap) (hv:VC79 Tryz.prog t latches inputs most R h):CallsH Tryz.prog 79 #[t.v,.int .i64 latches,.int .i64 inputs,.int .i64 most] h R:=calls_of_fnC (Checked.mixed Tryz.checked) Tryz.func79 comp79 (Nat.le_of_ble_eq_true rfl) (Eq.mp (by kernel_rfl) hv)
def loops118:List (List (Nat×Shp)):=[]
noncomputable def code118:SCode:=((compF Tryz.prog Tryz.f118 loops118).elim .skip fun x=>x.2.2)
def ret118:List RV:=[.tmp 2]
theorem comp118:compF Tryz.prog Tryz.f118 loops118=some (9,ret118,code118):=by kernel_rfl
def VC118 (P:Program) (l:Int) (R:Value->Heap->Prop) (h:Heap):Prop:=
 R (.int .i64 (IntKind.wrap .i64 ((IntKind.wrap .i64 (l+1))-(IntKind.wrap .i64 ((Int.tmod l 2)*2))))) h
theorem run118 (l:Int) (R:Value->Heap->Prop) (h:Heap) (hv:VC118 Tryz.prog l R h):CallsH Tryz.prog 118 #[.int .i64 l] h R:=calls_of_fnC (Checked.mixed Tryz.checked) Tryz.func118 comp118 (Nat.le_of_ble_eq_true rfl) (Eq.mp (by kernel_rfl) hv)
def loops119:List (List (Nat×Shp)):=[]
noncomputable def code119:SCode:=((compF Tryz.prog Tryz.f119 loops119).elim .skip fun x=>x.2.2)
def ret119:List RV:=[.tmp 6]
theorem comp119:compF Tryz.prog Tryz.f119 loops119=some (14,ret119,code119):=by kernel_rfl
def VC119 (P:Program) (c:Option Addr) (x y:Int) (R:Value->Heap->Prop) (h:Heap):Prop:=
 CallsH P 118 #[.int .i64 x] h fun v h_=>
 ∃ (t:Int),v=(.int .i64 t)/\CallsH P 118 #[.int .i64 y] h_ fun v1 h_1=>
 ∃ (t1:Int),v1=(.int .i64 t1)/\CallsH P 117 #[.pointer c,.int .i64 t,.int .i64 t1] h_1 fun v2 h_2=>
 ∃ (t2:Int),v2=(.int .i64 t2)/\CallsH P 118 #[.int .i64 t2] h_2 fun v3 h_3=>
 ∃ (t3:Int),v3=(.int .i64 t3)/\R (.int .i64 t3) h_3
theorem run119 (c:Option Addr) (x y:Int) (R:Value->Heap->Prop) (h:Heap) (hv:VC119 Tryz.prog c x y R h):CallsH Tryz.prog 119 #[.pointer c,.int .i64 x,.int .i64 y] h R:=calls_of_fnC (Checked.mixed Tryz.checked) Tryz.func119 comp119 (Nat.le_of_ble_eq_true rfl) (Eq.mp (by kernel_rfl) hv)
def loops7:List (List (Nat×Shp)):=[]
noncomputable def code7:SCode:=((compF Tryz.prog Tryz.f7 loops7).elim .skip fun x=>x.2.2)
def ret7:List RV:=[.tmp 6]
theorem comp7:compF Tryz.prog Tryz.f7 loops7=some (84,ret7,code7):=by kernel_rfl
def J7_0  (P:Program) (R:Value->Heap->Prop) (h h_:Heap) (b b1:Nat) (h_12 h_18 h_26:Heap):Prop:=
 LdT h_26 ⟨h_12.size,0,none⟩ fun t27=>CallsH P 25 #[t27.v] h_26 fun v8 h_27=>
 v8=(.tuple #[])/\LdT h_27 ⟨h_18.size,0,none⟩ fun t28=>CallsH P 25 #[t28.v] h_27 fun v9 h_28=>
 v9=(.tuple #[])/\LdC h_28 (Addr.mk b 0 none) fun t29=>LdC h_28 ⟨h.size,0,none⟩ fun t30=>CallsH P 12 #[t29.v,t30.v] h_28 fun v10 h_29=>
 ∃ (t31:Bool),v10=(.bool t31)/\BIf t31 (LdT h_29 (Addr.mk b1 0 none) fun t32=>LdT h_29 ⟨h_.size,0,none⟩ fun t33=>CallsH P 23 #[t32.v,t33.v] h_29 fun v11 h_30=>
 ∃ (t34:Bool),v11=(.bool t34)/\BIf t34 (CallsH P 34 #[] h_30 fun v12 h_31=>
 ∃ (t35:Bool),v12=(.bool t35)/\R (.bool t35) h_31) (R (.bool false) h_30)) (R (.bool false) h_29)
def VC7 (P:Program) (c:CV) (j:Int) (t:TV) (R:Value->Heap->Prop) (h:Heap):Prop:=
 let h_:Heap:=(h).push (.cells (Value.cells c.v) 29);let h_1:Heap:=(h_).push (.cells (Value.cells t.v) 49);(Addr.block ⟨h.size,0,none⟩)<(h_1).size/\LdC h_1 ⟨h.size,0,none⟩ fun t1=>∀ (U:Nat->Prop) (h_2:Heap),GrowH none' h_1 U h_2->CallsH P 8 #[t1.v] h_2 fun v h_3=>
 ExCi fun t2=>v=t2.v/\Keeps (h_1).size U h_2 h_3/\(Addr.block ⟨h_.size,0,none⟩)<(h_1).size/\LdT h_3 ⟨h_.size,0,none⟩ fun t3=>∀ (U1:Nat->Prop) (h_4:Heap),GrowH U h_3 U1 h_4->CallsH P 35 #[t3.v] h_4 fun v1 h_5=>
 ExTr fun t4=>v1=t4.v/\Keeps (h_1).size U1 h_4 h_5/\∀ (U2:Nat->Prop) (h_6:Heap) (b:Nat),GrowH U1 h_5 U2 h_6->U2 b->(h_6)[b]?=some (Obj.cells CV.zero.cs.toArray 29)->∀ (U3:Nat->Prop) (h_7:Heap) (b1:Nat),GrowH (minus U2 b) h_6 U3 h_7->U3 b1->(h_7)[b1]?=some (Obj.cells TV.zero.cs.toArray 49)->∀ (U4:Nat->Prop) (h_8:Heap),GrowH (minus U3 b1) h_7 U4 h_8->StoreH h_8 (Addr.mk b 0 none) t2.cs fun h_9=>(h_8).size≤(h_9).size/\∀ (U5:Nat->Prop) (h_10:Heap),GrowH none' h_9 U5 h_10->StoreH h_10 (Addr.mk b1 0 none) t4.cs fun h_11=>(h_10).size≤(h_11).size/\LdC h_11 (Addr.mk b 0 none) fun t5=>LdT h_11 (Addr.mk b1 0 none) fun t6=>CallsH P 36 #[t5.v,.int .i64 j,t6.v] h_11 fun v2 h_12=>
 ExTr fun t7=>∃ (t8:Int),v2=(.tuple #[t7.v,.int .i64 t8])/\let h_13:Heap:=(h_12).push (.cells TV.zero.cs.toArray 49);StoreH h_13 ⟨h_12.size,0,none⟩ t7.cs fun h_14=>LdC h_14 ⟨h.size,0,none⟩ fun t9=>LdT h_14 ⟨h_.size,0,none⟩ fun t10=>CallsH P 37 #[t9.v,.int .i64 j,t10.v] h_14 fun v3 h_15=>
 ExTr fun t11=>∃ (t12:Int),v3=(.tuple #[t11.v,.int .i64 t12])/\let h_16:Heap:=(h_15).push (.cells TV.zero.cs.toArray 49);StoreH h_16 ⟨h_15.size,0,none⟩ t11.cs fun h_17=>LdC h_17 (Addr.mk b 0 none) fun t13=>LdT h_17 (Addr.mk b1 0 none) fun t14=>CallsH P 38 #[t13.v,.int .i64 j,t14.v] h_17 fun v4 h_18=>
 ExTr fun t15=>∃ (t16:Int),v4=(.tuple #[t15.v,.int .i64 t16])/\let h_19:Heap:=(h_18).push (.cells TV.zero.cs.toArray 49);StoreH h_19 ⟨h_18.size,0,none⟩ t15.cs fun h_20=>LdC h_20 ⟨h.size,0,none⟩ fun t17=>LdT h_20 ⟨h_.size,0,none⟩ fun t18=>CallsH P 39 #[t17.v,.int .i64 j,t18.v] h_20 fun v5 h_21=>
 ExTr fun t19=>∃ (t20:Int),v5=(.tuple #[t19.v,.int .i64 t20])/\let h_22:Heap:=(h_21).push (.cells TV.zero.cs.toArray 49);StoreH h_22 ⟨h_21.size,0,none⟩ t19.cs fun h_23=>LdT h_23 ⟨h_12.size,0,none⟩ fun t21=>LdT h_23 ⟨h_15.size,0,none⟩ fun t22=>CallsH P 23 #[t21.v,t22.v] h_23 fun v6 h_24=>
 ∃ (t23:Bool),v6=(.bool t23)/\BIf (!t23) (R (.bool false) h_24) (PIf (t8=t12)
 (LdT h_24 ⟨h_18.size,0,none⟩ fun t24=>LdT h_24 ⟨h_21.size,0,none⟩ fun t25=>CallsH P 23 #[t24.v,t25.v] h_24 fun v7 h_25=>
 ∃ (t26:Bool),v7=(.bool t26)/\BIf (!t26) (R (.bool false) h_25) (PIf (t16=t20)
 (J7_0 P R h h_ b b1 h_12 h_18 h_25)
 (R (.bool false) h_25)))
 (R (.bool false) h_24))
theorem run7 (c:CV) (j:Int) (t:TV) (R:Value->Heap->Prop) (h:Heap) (hv:VC7 Tryz.prog c j t R h):CallsH Tryz.prog 7 #[c.v,.int .i64 j,t.v] h R:=calls_of_fnC (Checked.mixed Tryz.checked) Tryz.func7 comp7 (Nat.le_of_ble_eq_true rfl) (Eq.mp (by kernel_rfl) hv)
end Go.Proofs.YtdpbdjdgdmheiaaGreat
