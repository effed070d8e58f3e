/- Words and facts that the claim's proof leans on. No condition. -/
import Derived.Test.YtobageabpfkpcaaGreatDoorHxV
import Derived.Test.YtobageabpfkpcaaGreatDoorChecked
set_option maxRecDepth 100000
set_option linter.unusedVariables false
namespace Go.Proofs.YtobageabpfkpcaaGreatDoor
open Go.Hx
def loops8:List (List (Nat×Shp)):=[[(18,.slice),(109,.int .i64)],[(152,.int .i64)],[(195,.int .i64)]]
noncomputable def code8:SCode:=((compF Tryz.prog Tryz.f8 loops8).elim .skip fun x=>x.2.2)
def ret8:List RV:=[.tmp 6]
theorem comp8:compF Tryz.prog Tryz.f8 loops8=some (208,ret8,code8):=by kernel_rfl
def J8_4  (modelA:(Option Addr)) (modelN:Nat) (litsA:(Option Addr)) (litsN litsC:Nat) (t22:Int) (next_:((Option Addr×Nat×Nat)×Int->Heap->Prop)) (h_13:Heap):Prop:=
 PIf (((Int.tmod t22 3):Int)=0)
 (0≤t22/\t22<(modelN:Nat)/\AtP modelA fun ad=>∃ (t23:Bool),cellH h_13 (Addr.add ad (Int.toNat t22*1))=some (.bool t23)/\BIf t23 (let h_14:Heap:=(h_13).push (.cells #[(.int .i64 (IntKind.wrap .i64 (t22+1)))] 3);∃ ys:List Value,ReadL h_14 (some ⟨h_13.size,0,none⟩) ys/\ys.length=1*1/\AppS h_14 litsA litsN litsC 3 8 1 #[.int .i64 0] ys 1 fun apA apN apC h_15=>next_ ((apA,apN,apC),(IntKind.wrap .i64 (t22+1))) h_15) (let h_16:Heap:=(h_13).push (.cells #[(.int .i64 (IntKind.wrap .i64 ((IntKind.wrap .i64 (0-t22))-1)))] 3);∃ ys1:List Value,ReadL h_16 (some ⟨h_13.size,0,none⟩) ys1/\ys1.length=1*1/\AppS h_16 litsA litsN litsC 3 8 1 #[.int .i64 0] ys1 1 fun apA1 apN1 apC1 h_17=>next_ ((apA1,apN1,apC1),(IntKind.wrap .i64 (t22+1))) h_17))
 (next_ ((litsA,litsN,litsC),(IntKind.wrap .i64 (t22+1))) h_13)
def J8_9  (R:Value->Heap->Prop) (modelA:(Option Addr)) (modelN:Nat) (t9:Bool) (A11:(Option Addr)) (N11:Nat) (t27:Int) (next_1:(Int->Heap->Prop)) (h_23:Heap):Prop:=
 0≤t27/\t27<(N11:Nat)/\AtP A11 fun ad1=>∃ (t28:Int),cellH h_23 (Addr.add ad1 (Int.toNat t27*1))=some (.int .i64 t28)/\BIf t9 (0≤((IntKind.wrap .i64 ((max (t28:Int) (IntKind.wrap .i64 (0-t28)))-1)):Int)/\((IntKind.wrap .i64 ((max (t28:Int) (IntKind.wrap .i64 (0-t28)))-1)):Int)<(modelN:Nat)/\AtP modelA fun ad2=>∃ (t29:Bool),cellH h_23 (Addr.add ad2 (Int.toNat (IntKind.wrap .i64 ((max (t28:Int) (IntKind.wrap .i64 (0-t28)))-1))*1))=some (.bool t29)/\PIf ((0:Int)<t28)
 (PIf ((t29:Bool)=true)
 (next_1 (IntKind.wrap .i64 (t27+1)) h_23)
 (R (.bool false) h_23))
 (PIf ((t29:Bool)=false)
 (next_1 (IntKind.wrap .i64 (t27+1)) h_23)
 (R (.bool false) h_23))) (next_1 (IntKind.wrap .i64 (t27+1)) h_23)
def J8_14  (R:Value->Heap->Prop) (A11:(Option Addr)) (N11:Nat) (A13:(Option Addr)) (N13:Nat) (t33:Int) (next_2:(Int->Heap->Prop)) (h_29:Heap):Prop:=
 0≤t33/\t33<(N13:Nat)/\AtP A13 fun ad3=>∃ (t34:Int),cellH h_29 (Addr.add ad3 (Int.toNat t33*1))=some (.int .i64 t34)/\0≤t33/\t33<(N11:Nat)/\AtP A11 fun ad4=>∃ (t35:Int),cellH h_29 (Addr.add ad4 (Int.toNat t33*1))=some (.int .i64 t35)/\PIf (t34=t35)
 (next_2 (IntKind.wrap .i64 (t33+1)) h_29)
 (R (.bool false) h_29)
def J8_13  (R:Value->Heap->Prop) (h_30:Heap):Prop:=
 R (.bool true) h_30
def B8_16 (R:Value->Heap->Prop) (A11:(Option Addr)) (N11:Nat) (A13:(Option Addr)) (N13:Nat) (t33:Int) (h_28:Heap) (next_2:Int->Heap->Prop):Prop:=
 PIf (t33<((N11:Nat):Int))
 (J8_14 R A11 N11 A13 N13 t33 next_2 h_28)
 (J8_13 R h_28)
def J8_12  (R:Value->Heap->Prop) (A11:(Option Addr)) (N11:Nat) (A13:(Option Addr)) (N13:Nat) (h_27:Heap):Prop:=
 LoopT (σ:=Int) (fun st_ h_st nx_st=>B8_16 R A11 N11 A13 N13 (st_) h_st nx_st) (0) h_27
def J8_11  (P:Program) (R:Value->Heap->Prop) (h_4:Heap) (A11:(Option Addr)) (N11 C11:Nat) (h_25:Heap):Prop:=
 ∃ (t30:Int) (A12:Option Addr) (N12 C12:Nat),cellsH h_25 ⟨h_4.size,0,none⟩ 0 [.int .i64 t30,.slice A12 N12 C12]/\CallsH P 19 #[(.agg #[.int .i64 t30,.slice A12 N12 C12]),.slice A11 N11 C11] h_25 fun v6 h_26=>
 ∃ (A13:Option Addr) (N13 C13:Nat) (t31:Bool) (t32:Int),v6=(.tuple #[.slice A13 N13 C13,.bool t31,.int .i64 t32])/\PIf (t32=0)
 (BIf (!t31) (R (.bool false) h_26) (PIf ((((N13:Nat):Int):Int)=((N11:Nat):Int))
 (J8_12 R A11 N11 A13 N13 h_26)
 (R (.bool false) h_26)))
 (R (.bool false) h_26)
def J8_8  (P:Program) (R:Value->Heap->Prop) (h_4:Heap) (A11:(Option Addr)) (N11 C11:Nat) (t25:Bool) (h_24:Heap):Prop:=
 BIf (!t25) (R (.bool true) h_24) (J8_11 P R h_4 A11 N11 C11 h_24)
def B8_17 (P:Program) (R:Value->Heap->Prop) (modelA:(Option Addr)) (modelN:Nat) (h_4:Heap) (t9:Bool) (A11:(Option Addr)) (N11 C11:Nat) (t25:Bool) (t27:Int) (h_22:Heap) (next_1:Int->Heap->Prop):Prop:=
 PIf (t27<((N11:Nat):Int))
 (J8_9 R modelA modelN t9 A11 N11 t27 next_1 h_22)
 (J8_8 P R h_4 A11 N11 C11 t25 h_22)
def J8_7  (P:Program) (R:Value->Heap->Prop) (modelA:(Option Addr)) (modelN:Nat) (h_4:Heap) (t9:Bool) (A11:(Option Addr)) (N11 C11:Nat) (t25:Bool) (h_21:Heap):Prop:=
 LoopT (σ:=Int) (fun st_ h_st nx_st=>B8_17 P R modelA modelN h_4 t9 A11 N11 C11 t25 (st_) h_st nx_st) (0) h_21
def J8_6  (P:Program) (R:Value->Heap->Prop) (modelA:(Option Addr)) (modelN:Nat) (h_4:Heap) (t9:Bool) (litsA1:(Option Addr)) (litsN1 litsC1:Nat) (h_19:Heap):Prop:=
 ∃ (t24:Int) (A10:Option Addr) (N10 C10:Nat),cellsH h_19 ⟨h_4.size,0,none⟩ 0 [.int .i64 t24,.slice A10 N10 C10]/\CallsH P 19 #[(.agg #[.int .i64 t24,.slice A10 N10 C10]),.slice litsA1 litsN1 litsC1] h_19 fun v5 h_20=>
 ∃ (A11:Option Addr) (N11 C11:Nat) (t25:Bool) (t26:Int),v5=(.tuple #[.slice A11 N11 C11,.bool t25,.int .i64 t26])/\PIf (t26=0)
 (BIf (!t25) (BIf t9 (R (.bool false) h_20) (J8_7 P R modelA modelN h_4 t9 A11 N11 C11 t25 h_20)) (J8_7 P R modelA modelN h_4 t9 A11 N11 C11 t25 h_20))
 (R (.bool false) h_20)
def J8_3  (P:Program) (R:Value->Heap->Prop) (modelA:(Option Addr)) (modelN:Nat) (h_4:Heap) (t9:Bool) (litsA1:Option Addr) (litsN1 litsC1:Nat) (h_18:Heap):Prop:=
 PIf ((1000:Int)<((litsN1:Nat):Int))
 (R (.bool true) h_18)
 (J8_6 P R modelA modelN h_4 t9 litsA1 litsN1 litsC1 h_18)
def B8_18 (P:Program) (R:Value->Heap->Prop) (modelA:(Option Addr)) (modelN:Nat) (h_4:Heap) (t9:Bool) (litsA:Option Addr) (litsN litsC:Nat) (t22:Int) (h_12:Heap) (next_:(Option Addr×Nat×Nat)×Int->Heap->Prop):Prop:=
 PIf (t22<((modelN:Nat):Int))
 (J8_4 modelA modelN litsA litsN litsC t22 next_ h_12)
 (J8_3 P R modelA modelN h_4 t9 (litsA) (litsN) (litsC) h_12)
def J8_2  (P:Program) (R:Value->Heap->Prop) (modelA:(Option Addr)) (modelN:Nat) (h_4:Heap) (t9:Bool) (h_11:Heap):Prop:=
 LoopT (σ:=(Option Addr×Nat×Nat)×Int) (fun st_ h_st nx_st=>B8_18 P R modelA modelN h_4 t9 (st_.1.1) (st_.1.2.1) (st_.1.2.2) (st_.2) h_st nx_st) ((none,0,0),0) h_11
def J8_1  (P:Program) (R:Value->Heap->Prop) (h:Heap) (modelA:(Option Addr)) (modelN modelC:Nat) (h_ h_4 h_7:Heap):Prop:=
 ∃ (t8:Int) (A7:Option Addr) (N7 C7:Nat),cellsH h_7 ⟨h_4.size,0,none⟩ 0 [.int .i64 t8,.slice A7 N7 C7]/\CallsH P 25 #[(.agg #[.int .i64 t8,.slice A7 N7 C7]),.slice modelA modelN modelC] h_7 fun v2 h_8=>
 ∃ (t9:Bool) (t10 t11:Int),v2=(.tuple #[.bool t9,.int .i64 t10,.int .i64 t11])/\∃ (t12:Int) (A8:Option Addr) (N8 C8:Nat),cellsH h_8 ⟨h.size,0,none⟩ 0 [.int .i64 t12,.slice A8 N8 C8]/\∃ (t13:Int),cellH h_8 (Addr.add ⟨h.size,0,none⟩ 0)=some (.int .i64 t13)/\0≤(0:Int)/\(0:Int)≤t13/\t13≤(modelC:Nat)/\CallsH P 25 #[(.agg #[.int .i64 t12,.slice A8 N8 C8]),(.slice (cutA 1 modelA modelC (Int.toNat 0)) (Int.toNat t13-Int.toNat 0) (modelC-Int.toNat 0))] h_8 fun v3 h_9=>
 ∃ (t14:Bool) (t15 t16:Int),v3=(.tuple #[.bool t14,.int .i64 t15,.int .i64 t16])/\∃ (t17:Int) (A9:Option Addr) (N9 C9:Nat),cellsH h_9 ⟨h_.size,0,none⟩ 0 [.int .i64 t17,.slice A9 N9 C9]/\∃ (t18:Int),cellH h_9 (Addr.add ⟨h_.size,0,none⟩ 0)=some (.int .i64 t18)/\0≤(0:Int)/\(0:Int)≤t18/\t18≤(modelC:Nat)/\CallsH P 25 #[(.agg #[.int .i64 t17,.slice A9 N9 C9]),(.slice (cutA 1 modelA modelC (Int.toNat 0)) (Int.toNat t18-Int.toNat 0) (modelC-Int.toNat 0))] h_9 fun v4 h_10=>
 ∃ (t19:Bool) (t20 t21:Int),v4=(.tuple #[.bool t19,.int .i64 t20,.int .i64 t21])/\PIf (t11=0)
 (PIf (t16=0)
 (PIf (t21=0)
 (BIf t14 (PIf ((t9:Bool)=t19)
 (J8_2 P R modelA modelN h_4 t9 h_10)
 (R (.bool false) h_10)) (PIf ((t9:Bool)=false)
 (J8_2 P R modelA modelN h_4 t9 h_10)
 (R (.bool false) h_10)))
 (R (.bool false) h_10))
 (R (.bool false) h_10))
 (R (.bool false) h_10)
def J8_0  (P:Program) (R:Value->Heap->Prop) (h:Heap) (modelA:(Option Addr)) (modelN modelC:Nat) (h_ h_3:Heap):Prop:=
 ∃ (t1:Int) (A:Option Addr) (N C:Nat),cellsH h_3 ⟨h.size,0,none⟩ 0 [.int .i64 t1,.slice A N C]/\∃ (t2:Int) (A1:Option Addr) (N1 C1:Nat),cellsH h_3 ⟨h_.size,0,none⟩ 0 [.int .i64 t2,.slice A1 N1 C1]/\CallsH P 38 #[(.agg #[.int .i64 t1,.slice A N C]),(.agg #[.int .i64 t2,.slice A1 N1 C1])] h_3 fun v1 h_4=>
 ∃ (t3:Int) (A2:Option Addr) (N2 C2:Nat) (t4:Int),v1=(.tuple #[(.agg #[.int .i64 t3,.slice A2 N2 C2]),.int .i64 t4])/\let h_5:Heap:=(h_4).push (.cells #[.int .i64 0,.slice none 0 0] 24);StoreH h_5 ⟨h_4.size,0,none⟩ [.int .i64 t3,.slice A2 N2 C2] fun h_6=>PIf (t4=0)
 (∃ (t5:Int),cellH h_6 (Addr.add ⟨h_4.size,0,none⟩ 0)=some (.int .i64 t5)/\PIf ((((modelN:Nat):Int):Int)=t5)
 (∃ (t6:Int),cellH h_6 (Addr.add ⟨h.size,0,none⟩ 0)=some (.int .i64 t6)/\PIf (t6<0)
 (∃ (A5:Option Addr) (N5 C5:Nat),cellH h_6 (Addr.add ⟨h_4.size,0,none⟩ 1)=some (.slice A5 N5 C5)/\PIf ((((N5:Nat):Int):Int)=0)
 (R (.bool true) h_6)
 (PIf (t4=0)
 (R (.bool true) h_6)
 (R (.bool false) h_6)))
 (∃ (t7:Int),cellH h_6 (Addr.add ⟨h_.size,0,none⟩ 0)=some (.int .i64 t7)/\PIf (t7<0)
 (∃ (A6:Option Addr) (N6 C6:Nat),cellH h_6 (Addr.add ⟨h_4.size,0,none⟩ 1)=some (.slice A6 N6 C6)/\PIf ((((N6:Nat):Int):Int)=0)
 (R (.bool true) h_6)
 (PIf (t4=0)
 (R (.bool true) h_6)
 (R (.bool false) h_6)))
 (J8_1 P R h modelA modelN modelC h_ h_4 h_6)))
 (∃ (A4:Option Addr) (N4 C4:Nat),cellH h_6 (Addr.add ⟨h_4.size,0,none⟩ 1)=some (.slice A4 N4 C4)/\PIf ((((N4:Nat):Int):Int)=0)
 (R (.bool true) h_6)
 (PIf (t4=0)
 (R (.bool true) h_6)
 (R (.bool false) h_6))))
 (∃ (A3:Option Addr) (N3 C3:Nat),cellH h_6 (Addr.add ⟨h_4.size,0,none⟩ 1)=some (.slice A3 N3 C3)/\PIf ((((N3:Nat):Int):Int)=0)
 (R (.bool true) h_6)
 (PIf (t4=0)
 (R (.bool true) h_6)
 (R (.bool false) h_6)))
def VC8 (P:Program) (a:Int) (aA:Option Addr) (aN aC:Nat) (b:Int) (bA:Option Addr) (bN bC:Nat) (modelA:Option Addr) (modelN modelC:Nat) (R:Value->Heap->Prop) (h:Heap):Prop:=
 let h_:Heap:=(h).push (.cells (Value.cells (.agg #[.int .i64 a,.slice aA aN aC])) 24);let h_1:Heap:=(h_).push (.cells (Value.cells (.agg #[.int .i64 b,.slice bA bN bC])) 24);CallsH P 16 #[] h_1 fun v h_2=>
 ∃ (t:Bool),v=(.bool t)/\BIf (!t) (R (.bool false) h_2) (J8_0 P R h modelA modelN modelC h_ h_2)
theorem vc8 (P:Program) (a:Int) (aA:Option Addr) (aN aC:Nat) (b:Int) (bA:Option Addr) (bN bC:Nat) (modelA:Option Addr) (modelN modelC:Nat) (R:Value->Heap->Prop) (h:Heap):fnC P ret8 code8 [(.agg #[.int .i64 a,.slice aA aN aC]),(.agg #[.int .i64 b,.slice bA bN bC]),.slice modelA modelN modelC] h R=VC8 P a aA aN aC b bA bN bC modelA modelN modelC R h:=by kernel_rfl
theorem run8 (a:Int) (aA:Option Addr) (aN aC:Nat) (b:Int) (bA:Option Addr) (bN bC:Nat) (modelA:Option Addr) (modelN modelC:Nat) (R:Value->Heap->Prop) (h:Heap) (hv:VC8 Tryz.prog a aA aN aC b bA bN bC modelA modelN modelC R h):CallsH Tryz.prog 8 #[(.agg #[.int .i64 a,.slice aA aN aC]),(.agg #[.int .i64 b,.slice bA bN bC]),.slice modelA modelN modelC] h R:=calls_of_fnC (Checked.mixed Tryz.checked) Tryz.func8 comp8 (Nat.le_of_ble_eq_true rfl) (by rw [vc8];exact hv)
def loops16:List (List (Nat×Shp)):=[]
noncomputable def code16:SCode:=((compF Tryz.prog Tryz.f16 loops16).elim .skip fun x=>x.2.2)
def ret16:List RV:=[.tmp 0]
theorem comp16:compF Tryz.prog Tryz.f16 loops16=some (76,ret16,code16):=by kernel_rfl
def VC16 (P:Program) (R:Value->Heap->Prop) (h:Heap):Prop:=
 CallsH P 12 #[(.string (ByteArray.mk #[112,32,99,110,102,32,50,32,50,10,49,32,45,50,32,48,10,50,32,48,10]))] h fun v h_=>
 ∃ (t:Int) (A:Option Addr) (N C:Nat) (t1 t2:Int),v=(.tuple #[(.agg #[.int .i64 t,.slice A N C]),(.agg #[.int .i64 t1,.int .i64 t2])])/\let h_1:Heap:=(h_).push (.cells #[.int .i64 0,.slice none 0 0] 24);let h_2:Heap:=(h_1).push (.cells #[.int .i64 0,.int .i64 0] 27);StoreH h_2 ⟨h_.size,0,none⟩ [.int .i64 t,.slice A N C] fun h_3=>StoreH h_3 ⟨h_1.size,0,none⟩ [.int .i64 t1,.int .i64 t2] fun h_4=>∃ (t3:Int) (A1:Option Addr) (N1 C1:Nat),cellsH h_4 ⟨h_.size,0,none⟩ 0 [.int .i64 t3,.slice A1 N1 C1]/\CallsH P 27 #[(.agg #[.int .i64 t3,.slice A1 N1 C1])] h_4 fun v1 h_5=>
 ∃ (t4 t5:Int),v1=(.tuple #[.int .i64 t4,.int .i64 t5])/\∃ (t6:Int) (A2:Option Addr) (N2 C2:Nat),cellsH h_5 ⟨h_.size,0,none⟩ 0 [.int .i64 t6,.slice A2 N2 C2]/\CallsH P 19 #[(.agg #[.int .i64 t6,.slice A2 N2 C2]),.slice none 0 0] h_5 fun v2 h_6=>
 ∃ (A3:Option Addr) (N3 C3:Nat) (t7:Bool) (t8:Int),v2=(.tuple #[.slice A3 N3 C3,.bool t7,.int .i64 t8])/\∃ (t9:Int) (A4:Option Addr) (N4 C4:Nat),cellsH h_6 ⟨h_.size,0,none⟩ 0 [.int .i64 t9,.slice A4 N4 C4]/\let h_7:Heap:=(h_6).push (.cells #[(.int .i64 (-1))] 3);CallsH P 19 #[(.agg #[.int .i64 t9,.slice A4 N4 C4]),(.slice (some ⟨h_6.size,0,none⟩) 1 1)] h_7 fun v3 h_8=>
 ∃ (A5:Option Addr) (N5 C5:Nat) (t10:Bool) (t11:Int),v3=(.tuple #[.slice A5 N5 C5,.bool t10,.int .i64 t11])/\∃ (t12 t13:Int),cellsH h_8 ⟨h_1.size,0,none⟩ 0 [.int .i64 t12,.int .i64 t13]/\PIf ((#[.int .i64 t12,.int .i64 t13]:Array Value)=#[.int .i64 0,.int .i64 0])
 (PIf (t4=1)
 (PIf (t5=0)
 (BIf t7 (PIf (t8=0)
 (PIf ((((N3:Nat):Int):Int)=2)
 (0≤(0:Int)/\(0:Int)<(N3:Nat)/\AtP A3 fun ad=>∃ (t14:Int),cellH h_8 (Addr.add ad (Int.toNat 0*1))=some (.int .i64 t14)/\PIf (t14=1)
 (0≤(1:Int)/\(1:Int)<(N3:Nat)/\AtP A3 fun ad1=>∃ (t15:Int),cellH h_8 (Addr.add ad1 (Int.toNat 1*1))=some (.int .i64 t15)/\PIf (t15=2)
 (BIf (!t10) (PIf (t11=0)
 (R (.bool true) h_8)
 (R (.bool false) h_8)) (R (.bool false) h_8))
 (R (.bool false) h_8))
 (R (.bool false) h_8))
 (R (.bool false) h_8))
 (R (.bool false) h_8)) (R (.bool false) h_8))
 (R (.bool false) h_8))
 (R (.bool false) h_8))
 (R (.bool false) h_8)
theorem vc16 (P:Program) (R:Value->Heap->Prop) (h:Heap):fnC P ret16 code16 [] h R=VC16 P R h:=by kernel_rfl
theorem run16 (R:Value->Heap->Prop) (h:Heap) (hv:VC16 Tryz.prog R h):CallsH Tryz.prog 16 #[] h R:=calls_of_fnC (Checked.mixed Tryz.checked) Tryz.func16 comp16 (Nat.le_of_ble_eq_true rfl) (by rw [vc16];exact hv)
end Go.Proofs.YtobageabpfkpcaaGreatDoor
