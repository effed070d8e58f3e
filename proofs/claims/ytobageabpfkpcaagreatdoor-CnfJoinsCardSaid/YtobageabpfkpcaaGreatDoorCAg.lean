/- Words and facts that the claim's proof leans on. No condition. -/
import Derived.Test.YtobageabpfkpcaaGreatDoorHxV
import Derived.Test.YtobageabpfkpcaaGreatDoorChecked
set_option maxRecDepth 100000
set_option linter.unusedVariables false
namespace Go.Proofs.YtobageabpfkpcaaGreatDoor
open Go.Hx
def loops10:List (List (Nat×Shp)):=[]
noncomputable def code10:SCode:=((compF Tryz.prog Tryz.f10 loops10).elim .skip fun x=>x.2.2)
def ret10:List RV:=[.tmp 4]
theorem comp10:compF Tryz.prog Tryz.f10 loops10=some (64,ret10,code10):=by kernel_rfl
def J10_0  (P:Program) (R:Value->Heap->Prop) (h h_:Heap) (b1 b2:Nat) (h_12 h_22:Heap):Prop:=
 ∃ (t24:Int) (A18:Option Addr) (N18 C18:Nat),cellsH h_22 ⟨h_12.size,0,none⟩ 0 [.int .i64 t24,.slice A18 N18 C18]/\CallsH P 15 #[(.agg #[.int .i64 t24,.slice A18 N18 C18]),(.int .i64 (-7))] h_22 fun v8 h_23=>
 v8=(.tuple #[])/\∃ (t25:Int) (A19:Option Addr) (N19 C19:Nat),cellsH h_23 (Addr.mk b1 0 none) 0 [.int .i64 t25,.slice A19 N19 C19]/\∃ (t26:Int) (A20:Option Addr) (N20 C20:Nat),cellsH h_23 ⟨h.size,0,none⟩ 0 [.int .i64 t26,.slice A20 N20 C20]/\CallsH P 23 #[(.agg #[.int .i64 t25,.slice A19 N19 C19]),(.agg #[.int .i64 t26,.slice A20 N20 C20])] h_23 fun v9 h_24=>
 ∃ (t27:Bool),v9=(.bool t27)/\BIf t27 (∃ (t28:Int) (A21:Option Addr) (N21 C21:Nat),cellsH h_24 (Addr.mk b2 0 none) 0 [.int .i64 t28,.slice A21 N21 C21]/\∃ (t29:Int) (A22:Option Addr) (N22 C22:Nat),cellsH h_24 ⟨h_.size,0,none⟩ 0 [.int .i64 t29,.slice A22 N22 C22]/\CallsH P 23 #[(.agg #[.int .i64 t28,.slice A21 N21 C21]),(.agg #[.int .i64 t29,.slice A22 N22 C22])] h_24 fun v10 h_25=>
 ∃ (t30:Bool),v10=(.bool t30)/\BIf t30 (CallsH P 16 #[] h_25 fun v11 h_26=>
 ∃ (t31:Bool),v11=(.bool t31)/\R (.bool t31) h_26) (R (.bool false) h_25)) (R (.bool false) h_24)
def VC10 (P:Program) (a:Int) (aA:Option Addr) (aN aC:Nat) (b:Int) (bA:Option Addr) (bN bC:Nat) (R:Value->Heap->Prop) (h:Heap):Prop:=
 let h_:Heap:=(h).push (.cells (Value.cells (.agg #[.int .i64 a,.slice aA aN aC])) 24);let h_1:Heap:=(h_).push (.cells (Value.cells (.agg #[.int .i64 b,.slice bA bN bC])) 24);(Addr.block ⟨h.size,0,none⟩)<(h_1).size/\∃ (t:Int) (A:Option Addr) (N C:Nat),cellsH h_1 ⟨h.size,0,none⟩ 0 [.int .i64 t,.slice A N C]/\∀ (U:Nat->Prop) (h_2:Heap),GrowH none' h_1 U h_2->CallsH P 17 #[(.agg #[.int .i64 t,.slice A N C])] h_2 fun v h_3=>
 ∃ (t1:Int) (A1:Option Addr) (N1 C1:Nat),v=(.agg #[.int .i64 t1,.slice A1 N1 C1])/\Keeps (h_1).size U h_2 h_3/\(Addr.block ⟨h_.size,0,none⟩)<(h_1).size/\∃ (t2:Int) (A2:Option Addr) (N2 C2:Nat),cellsH h_3 ⟨h_.size,0,none⟩ 0 [.int .i64 t2,.slice A2 N2 C2]/\∀ (U1:Nat->Prop) (h_4:Heap),GrowH U h_3 U1 h_4->CallsH P 17 #[(.agg #[.int .i64 t2,.slice A2 N2 C2])] h_4 fun v1 h_5=>
 ∃ (t3:Int) (A3:Option Addr) (N3 C3:Nat),v1=(.agg #[.int .i64 t3,.slice A3 N3 C3])/\Keeps (h_1).size U1 h_4 h_5/\∀ (U2:Nat->Prop) (h_6:Heap) (b1:Nat),GrowH U1 h_5 U2 h_6->U2 b1->(h_6)[b1]?=some (Obj.cells #[.int .i64 0,.slice none 0 0] 24)->∀ (U3:Nat->Prop) (h_7:Heap) (b2:Nat),GrowH (minus U2 b1) h_6 U3 h_7->U3 b2->(h_7)[b2]?=some (Obj.cells #[.int .i64 0,.slice none 0 0] 24)->∀ (U4:Nat->Prop) (h_8:Heap),GrowH (minus U3 b2) h_7 U4 h_8->StoreH h_8 (Addr.mk b1 0 none) [.int .i64 t1,.slice A1 N1 C1] fun h_9=>(h_8).size≤(h_9).size/\∀ (U5:Nat->Prop) (h_10:Heap),GrowH none' h_9 U5 h_10->StoreH h_10 (Addr.mk b2 0 none) [.int .i64 t3,.slice A3 N3 C3] fun h_11=>(h_10).size≤(h_11).size/\∃ (t4:Int) (A4:Option Addr) (N4 C4:Nat),cellsH h_11 (Addr.mk b1 0 none) 0 [.int .i64 t4,.slice A4 N4 C4]/\∃ (t5:Int) (A5:Option Addr) (N5 C5:Nat),cellsH h_11 (Addr.mk b2 0 none) 0 [.int .i64 t5,.slice A5 N5 C5]/\CallsH P 38 #[(.agg #[.int .i64 t4,.slice A4 N4 C4]),(.agg #[.int .i64 t5,.slice A5 N5 C5])] h_11 fun v2 h_12=>
 ∃ (t6:Int) (A6:Option Addr) (N6 C6:Nat) (t7:Int),v2=(.tuple #[(.agg #[.int .i64 t6,.slice A6 N6 C6]),.int .i64 t7])/\let h_13:Heap:=(h_12).push (.cells #[.int .i64 0,.slice none 0 0] 24);StoreH h_13 ⟨h_12.size,0,none⟩ [.int .i64 t6,.slice A6 N6 C6] fun h_14=>∃ (t8:Int) (A7:Option Addr) (N7 C7:Nat),cellsH h_14 ⟨h.size,0,none⟩ 0 [.int .i64 t8,.slice A7 N7 C7]/\∃ (t9:Int) (A8:Option Addr) (N8 C8:Nat),cellsH h_14 ⟨h_.size,0,none⟩ 0 [.int .i64 t9,.slice A8 N8 C8]/\CallsH P 40 #[(.agg #[.int .i64 t8,.slice A7 N7 C7]),(.agg #[.int .i64 t9,.slice A8 N8 C8])] h_14 fun v3 h_15=>
 ∃ (t10:Int) (A9:Option Addr) (N9 C9:Nat) (t11:Int),v3=(.tuple #[(.agg #[.int .i64 t10,.slice A9 N9 C9]),.int .i64 t11])/\let h_16:Heap:=(h_15).push (.cells #[.int .i64 0,.slice none 0 0] 24);StoreH h_16 ⟨h_15.size,0,none⟩ [.int .i64 t10,.slice A9 N9 C9] fun h_17=>(Addr.block ⟨h_12.size,0,none⟩)<(h_17).size/\∃ (t12:Int) (A10:Option Addr) (N10 C10:Nat),cellsH h_17 ⟨h_12.size,0,none⟩ 0 [.int .i64 t12,.slice A10 N10 C10]/\(Addr.block ⟨h_15.size,0,none⟩)<(h_17).size/\∃ (t13:Int) (A11:Option Addr) (N11 C11:Nat),cellsH h_17 ⟨h_15.size,0,none⟩ 0 [.int .i64 t13,.slice A11 N11 C11]/\CallsH P 14 #[(.agg #[.int .i64 t12,.slice A10 N10 C10]),(.agg #[.int .i64 t13,.slice A11 N11 C11])] h_17 fun v4 h_18=>
 ∃ (t14:Bool),v4=(.bool t14)/\AgreeH (h_17).size h_17 h_18/\BIf (!t14) (R (.bool false) h_18) (PIf (t7=t11)
 ((Addr.block (Addr.mk b1 0 none))<(h_17).size/\∃ (t15:Int) (A12:Option Addr) (N12 C12:Nat),cellsH h_18 (Addr.mk b1 0 none) 0 [.int .i64 t15,.slice A12 N12 C12]/\(Addr.block (Addr.mk b2 0 none))<(h_17).size/\∃ (t16:Int) (A13:Option Addr) (N13 C13:Nat),cellsH h_18 (Addr.mk b2 0 none) 0 [.int .i64 t16,.slice A13 N13 C13]/\CallsH P 39 #[(.agg #[.int .i64 t15,.slice A12 N12 C12]),(.agg #[.int .i64 t16,.slice A13 N13 C13])] h_18 fun v5 h_19=>
 ∃ (t17:Bool),v5=(.bool t17)/\AgreeH (h_17).size h_18 h_19/\(Addr.block ⟨h.size,0,none⟩)<(h_17).size/\∃ (t18:Int) (A14:Option Addr) (N14 C14:Nat),cellsH h_19 ⟨h.size,0,none⟩ 0 [.int .i64 t18,.slice A14 N14 C14]/\(Addr.block ⟨h_.size,0,none⟩)<(h_17).size/\∃ (t19:Int) (A15:Option Addr) (N15 C15:Nat),cellsH h_19 ⟨h_.size,0,none⟩ 0 [.int .i64 t19,.slice A15 N15 C15]/\CallsH P 14 #[(.agg #[.int .i64 t18,.slice A14 N14 C14]),(.agg #[.int .i64 t19,.slice A15 N15 C15])] h_19 fun v6 h_20=>
 ∃ (t20:Bool),v6=(.bool t20)/\AgreeH (h_17).size h_19 h_20/\PIf ((t17:Bool)=t20)
 ((Addr.block (Addr.mk b1 0 none))<(h_17).size/\∃ (t21:Int) (A16:Option Addr) (N16 C16:Nat),cellsH h_20 (Addr.mk b1 0 none) 0 [.int .i64 t21,.slice A16 N16 C16]/\(Addr.block ⟨h.size,0,none⟩)<(h_17).size/\∃ (t22:Int) (A17:Option Addr) (N17 C17:Nat),cellsH h_20 ⟨h.size,0,none⟩ 0 [.int .i64 t22,.slice A17 N17 C17]/\CallsH P 39 #[(.agg #[.int .i64 t21,.slice A16 N16 C16]),(.agg #[.int .i64 t22,.slice A17 N17 C17])] h_20 fun v7 h_21=>
 ∃ (t23:Bool),v7=(.bool t23)/\AgreeH (h_17).size h_20 h_21/\BIf (!t23) (R (.bool false) h_21) (J10_0 P R h h_ b1 b2 h_12 h_21))
 (R (.bool false) h_20))
 (R (.bool false) h_18))
theorem vc10 (P:Program) (a:Int) (aA:Option Addr) (aN aC:Nat) (b:Int) (bA:Option Addr) (bN bC:Nat) (R:Value->Heap->Prop) (h:Heap):fnC P ret10 code10 [(.agg #[.int .i64 a,.slice aA aN aC]),(.agg #[.int .i64 b,.slice bA bN bC])] h R=VC10 P a aA aN aC b bA bN bC R h:=by kernel_rfl
theorem run10 (a:Int) (aA:Option Addr) (aN aC:Nat) (b:Int) (bA:Option Addr) (bN bC:Nat) (R:Value->Heap->Prop) (h:Heap) (hv:VC10 Tryz.prog a aA aN aC b bA bN bC R h):CallsH Tryz.prog 10 #[(.agg #[.int .i64 a,.slice aA aN aC]),(.agg #[.int .i64 b,.slice bA bN bC])] h R:=calls_of_fnC (Checked.mixed Tryz.checked) Tryz.func10 comp10 (Nat.le_of_ble_eq_true rfl) (by rw [vc10];exact hv)
def loops16:List (List (Nat×Shp)):=[]
noncomputable def code16:SCode:=((compF Tryz.prog Tryz.f16 loops16).elim .skip fun x=>x.2.2)
def ret16:List RV:=[.tmp 0]
theorem comp16:compF Tryz.prog Tryz.f16 loops16=some (76,ret16,code16):=by kernel_rfl
def VC16 (P:Program) (R:Value->Heap->Prop) (h:Heap):Prop:=
 CallsH P 12 #[(.string (ByteArray.mk #[112,32,99,110,102,32,50,32,50,10,49,32,45,50,32,48,10,50,32,48,10]))] h fun v h_=>
 ∃ (t:Int) (A:Option Addr) (N C:Nat) (t1 t2:Int),v=(.tuple #[(.agg #[.int .i64 t,.slice A N C]),(.agg #[.int .i64 t1,.int .i64 t2])])/\let h_1:Heap:=(h_).push (.cells #[.int .i64 0,.slice none 0 0] 24);let h_2:Heap:=(h_1).push (.cells #[.int .i64 0,.int .i64 0] 27);StoreH h_2 ⟨h_.size,0,none⟩ [.int .i64 t,.slice A N C] fun h_3=>StoreH h_3 ⟨h_1.size,0,none⟩ [.int .i64 t1,.int .i64 t2] fun h_4=>∃ (t3:Int) (A1:Option Addr) (N1 C1:Nat),cellsH h_4 ⟨h_.size,0,none⟩ 0 [.int .i64 t3,.slice A1 N1 C1]/\CallsH P 27 #[(.agg #[.int .i64 t3,.slice A1 N1 C1])] h_4 fun v1 h_5=>
 ∃ (t4 t5:Int),v1=(.tuple #[.int .i64 t4,.int .i64 t5])/\∃ (t6:Int) (A2:Option Addr) (N2 C2:Nat),cellsH h_5 ⟨h_.size,0,none⟩ 0 [.int .i64 t6,.slice A2 N2 C2]/\CallsH P 19 #[(.agg #[.int .i64 t6,.slice A2 N2 C2]),.slice none 0 0] h_5 fun v2 h_6=>
 ∃ (A3:Option Addr) (N3 C3:Nat) (t7:Bool) (t8:Int),v2=(.tuple #[.slice A3 N3 C3,.bool t7,.int .i64 t8])/\∃ (t9:Int) (A4:Option Addr) (N4 C4:Nat),cellsH h_6 ⟨h_.size,0,none⟩ 0 [.int .i64 t9,.slice A4 N4 C4]/\let h_7:Heap:=(h_6).push (.cells #[(.int .i64 (-1))] 3);CallsH P 19 #[(.agg #[.int .i64 t9,.slice A4 N4 C4]),(.slice (some ⟨h_6.size,0,none⟩) 1 1)] h_7 fun v3 h_8=>
 ∃ (A5:Option Addr) (N5 C5:Nat) (t10:Bool) (t11:Int),v3=(.tuple #[.slice A5 N5 C5,.bool t10,.int .i64 t11])/\∃ (t12 t13:Int),cellsH h_8 ⟨h_1.size,0,none⟩ 0 [.int .i64 t12,.int .i64 t13]/\PIf ((#[.int .i64 t12,.int .i64 t13]:Array Value)=#[.int .i64 0,.int .i64 0])
 (PIf (t4=1)
 (PIf (t5=0)
 (BIf t7 (PIf (t8=0)
 (PIf ((((N3:Nat):Int):Int)=2)
 (0≤(0:Int)/\(0:Int)<(N3:Nat)/\AtP A3 fun ad=>∃ (t14:Int),cellH h_8 (Addr.add ad (Int.toNat 0*1))=some (.int .i64 t14)/\PIf (t14=1)
 (0≤(1:Int)/\(1:Int)<(N3:Nat)/\AtP A3 fun ad1=>∃ (t15:Int),cellH h_8 (Addr.add ad1 (Int.toNat 1*1))=some (.int .i64 t15)/\PIf (t15=2)
 (BIf (!t10) (PIf (t11=0)
 (R (.bool true) h_8)
 (R (.bool false) h_8)) (R (.bool false) h_8))
 (R (.bool false) h_8))
 (R (.bool false) h_8))
 (R (.bool false) h_8))
 (R (.bool false) h_8)) (R (.bool false) h_8))
 (R (.bool false) h_8))
 (R (.bool false) h_8))
 (R (.bool false) h_8)
theorem vc16 (P:Program) (R:Value->Heap->Prop) (h:Heap):fnC P ret16 code16 [] h R=VC16 P R h:=by kernel_rfl
theorem run16 (R:Value->Heap->Prop) (h:Heap) (hv:VC16 Tryz.prog R h):CallsH Tryz.prog 16 #[] h R:=calls_of_fnC (Checked.mixed Tryz.checked) Tryz.func16 comp16 (Nat.le_of_ble_eq_true rfl) (by rw [vc16];exact hv)
end Go.Proofs.YtobageabpfkpcaaGreatDoor
