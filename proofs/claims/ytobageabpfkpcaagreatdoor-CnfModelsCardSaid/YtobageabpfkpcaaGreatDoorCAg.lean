/- Words and facts that the claim's proof leans on. No condition. -/
import Derived.Test.YtobageabpfkpcaaGreatDoorHxV
import Derived.Test.YtobageabpfkpcaaGreatDoorChecked
set_option maxRecDepth 100000
set_option linter.unusedVariables false
namespace Go.Proofs.YtobageabpfkpcaaGreatDoor
open Go.Hx
def loops5:List (List (Nat×Shp)):=[]
noncomputable def code5:SCode:=((compF Tryz.prog Tryz.f5 loops5).elim .skip fun x=>x.2.2)
def ret5:List RV:=[.tmp 4]
theorem comp5:compF Tryz.prog Tryz.f5 loops5=some (116,ret5,code5):=by kernel_rfl
def J5_1  (P:Program) (R:Value->Heap->Prop) (h:Heap) (modelA:(Option Addr)) (modelN modelC:Nat) (apA:(Option Addr)) (apN apC:Nat) (h_5:Heap) (A7:(Option Addr)) (N7 C7:Nat) (h_15:Heap):Prop:=
 CallsH P 32 #[.slice A7 N7 C7] h_15 fun v8 h_16=>
 v8=(.tuple #[])/\∃ (t23:Int) (A10:Option Addr) (N10 C10:Nat),cellsH h_16 ⟨h_5.size,0,none⟩ 0 [.int .i64 t23,.slice A10 N10 C10]/\∃ (t24:Int) (A11:Option Addr) (N11 C11:Nat),cellsH h_16 ⟨h.size,0,none⟩ 0 [.int .i64 t24,.slice A11 N11 C11]/\CallsH P 23 #[(.agg #[.int .i64 t23,.slice A10 N10 C10]),(.agg #[.int .i64 t24,.slice A11 N11 C11])] h_16 fun v9 h_17=>
 ∃ (t25:Bool),v9=(.bool t25)/\BIf t25 (CallsH P 31 #[.slice apA apN apC,.slice modelA modelN modelC] h_17 fun v10 h_18=>
 ∃ (t26:Bool),v10=(.bool t26)/\BIf t26 (CallsH P 16 #[] h_18 fun v11 h_19=>
 ∃ (t27:Bool),v11=(.bool t27)/\R (.bool t27) h_19) (R (.bool false) h_18)) (R (.bool false) h_17)
def J5_0  (P:Program) (R:Value->Heap->Prop) (h:Heap) (modelA:(Option Addr)) (modelN modelC:Nat) (h_2:Heap):Prop:=
 ∃ (t2:Int) (A:Option Addr) (N C:Nat),cellsH h_2 ⟨h.size,0,none⟩ 0 [.int .i64 t2,.slice A N C]/\CallsH P 17 #[(.agg #[.int .i64 t2,.slice A N C])] h_2 fun v h_3=>
 ∃ (t3:Int) (A1:Option Addr) (N1 C1:Nat),v=(.agg #[.int .i64 t3,.slice A1 N1 C1])/\let h_4:Heap:=(h_3).push (.cells #[] 4);∃ ys:List Value,ReadL h_4 modelA ys/\ys.length=modelN*1/\AppS h_4 (some ⟨h_3.size,0,none⟩) 0 0 4 1 1 #[.bool false] ys modelN fun apA apN apC h_5=>let h_6:Heap:=(h_5).push (.cells #[.int .i64 0,.slice none 0 0] 24);StoreH h_6 ⟨h_5.size,0,none⟩ [.int .i64 t3,.slice A1 N1 C1] fun h_7=>∃ (t4:Int) (A2:Option Addr) (N2 C2:Nat),cellsH h_7 ⟨h_5.size,0,none⟩ 0 [.int .i64 t4,.slice A2 N2 C2]/\CallsH P 25 #[(.agg #[.int .i64 t4,.slice A2 N2 C2]),.slice apA apN apC] h_7 fun v1 h_8=>
 ∃ (t5:Bool) (t6 t7:Int),v1=(.tuple #[.bool t5,.int .i64 t6,.int .i64 t7])/\∃ (t8:Int) (A3:Option Addr) (N3 C3:Nat),cellsH h_8 ⟨h.size,0,none⟩ 0 [.int .i64 t8,.slice A3 N3 C3]/\CallsH P 26 #[(.agg #[.int .i64 t8,.slice A3 N3 C3]),.slice modelA modelN modelC] h_8 fun v2 h_9=>
 ∃ (t9:Bool) (t10 t11:Int),v2=(.tuple #[.bool t9,.int .i64 t10,.int .i64 t11])/\∃ (t12:Int) (A4:Option Addr) (N4 C4:Nat),cellsH h_9 ⟨h_5.size,0,none⟩ 0 [.int .i64 t12,.slice A4 N4 C4]/\CallsH P 27 #[(.agg #[.int .i64 t12,.slice A4 N4 C4])] h_9 fun v3 h_10=>
 ∃ (t13 t14:Int),v3=(.tuple #[.int .i64 t13,.int .i64 t14])/\∃ (t15:Int) (A5:Option Addr) (N5 C5:Nat),cellsH h_10 ⟨h.size,0,none⟩ 0 [.int .i64 t15,.slice A5 N5 C5]/\CallsH P 28 #[(.agg #[.int .i64 t15,.slice A5 N5 C5])] h_10 fun v4 h_11=>
 ∃ (t16 t17:Int),v4=(.tuple #[.int .i64 t16,.int .i64 t17])/\∃ (t18:Int) (A6:Option Addr) (N6 C6:Nat),cellsH h_11 ⟨h_5.size,0,none⟩ 0 [.int .i64 t18,.slice A6 N6 C6]/\CallsH P 29 #[(.agg #[.int .i64 t18,.slice A6 N6 C6])] h_11 fun v5 h_12=>
 ∃ (A7:Option Addr) (N7 C7:Nat) (t19:Int),v5=(.tuple #[.slice A7 N7 C7,.int .i64 t19])/\∃ (t20:Int) (A8:Option Addr) (N8 C8:Nat),cellsH h_12 ⟨h.size,0,none⟩ 0 [.int .i64 t20,.slice A8 N8 C8]/\CallsH P 30 #[(.agg #[.int .i64 t20,.slice A8 N8 C8])] h_12 fun v6 h_13=>
 ∃ (A9:Option Addr) (N9 C9:Nat) (t21:Int),v6=(.tuple #[.slice A9 N9 C9,.int .i64 t21])/\PIf ((t5:Bool)=t9)
 (PIf (t6=t10)
 (PIf (t7=t11)
 (PIf (t13=t16)
 (PIf (t14=t17)
 (CallsH P 31 #[.slice A7 N7 C7,.slice A9 N9 C9] h_13 fun v7 h_14=>
 ∃ (t22:Bool),v7=(.bool t22)/\BIf (!t22) (R (.bool false) h_14) (PIf (t19=t21)
 (J5_1 P R h modelA modelN modelC apA apN apC h_5 A7 N7 C7 h_14)
 (R (.bool false) h_14)))
 (R (.bool false) h_13))
 (R (.bool false) h_13))
 (R (.bool false) h_13))
 (R (.bool false) h_13))
 (R (.bool false) h_13)
def VC5 (P:Program) (f:Int) (fA:Option Addr) (fN fC:Nat) (modelA:Option Addr) (modelN modelC:Nat) (R:Value->Heap->Prop) (h:Heap):Prop:=
 let h_:Heap:=(h).push (.cells (Value.cells (.agg #[.int .i64 f,.slice fA fN fC])) 24);∃ (t:Int),cellH h_ (Addr.add ⟨h.size,0,none⟩ 0)=some (.int .i64 t)/\PIf ((11:Int)<t)
 (∃ (t1:Int),cellH h_ (Addr.add ⟨h.size,0,none⟩ 0)=some (.int .i64 t1)/\PIf (t1≤16)
 (StoreH h_ (Addr.add ⟨h.size,0,none⟩ 0) [.int .i64 11] fun h_1=>J5_0 P R h modelA modelN modelC h_1)
 (J5_0 P R h modelA modelN modelC h_))
 (J5_0 P R h modelA modelN modelC h_)
theorem vc5 (P:Program) (f:Int) (fA:Option Addr) (fN fC:Nat) (modelA:Option Addr) (modelN modelC:Nat) (R:Value->Heap->Prop) (h:Heap):fnC P ret5 code5 [(.agg #[.int .i64 f,.slice fA fN fC]),.slice modelA modelN modelC] h R=VC5 P f fA fN fC modelA modelN modelC R h:=by kernel_rfl
theorem run5 (f:Int) (fA:Option Addr) (fN fC:Nat) (modelA:Option Addr) (modelN modelC:Nat) (R:Value->Heap->Prop) (h:Heap) (hv:VC5 Tryz.prog f fA fN fC modelA modelN modelC R h):CallsH Tryz.prog 5 #[(.agg #[.int .i64 f,.slice fA fN fC]),.slice modelA modelN modelC] h R:=calls_of_fnC (Checked.mixed Tryz.checked) Tryz.func5 comp5 (Nat.le_of_ble_eq_true rfl) (by rw [vc5];exact hv)
def loops16:List (List (Nat×Shp)):=[]
noncomputable def code16:SCode:=((compF Tryz.prog Tryz.f16 loops16).elim .skip fun x=>x.2.2)
def ret16:List RV:=[.tmp 0]
theorem comp16:compF Tryz.prog Tryz.f16 loops16=some (76,ret16,code16):=by kernel_rfl
def VC16 (P:Program) (R:Value->Heap->Prop) (h:Heap):Prop:=
 CallsH P 12 #[(.string (ByteArray.mk #[112,32,99,110,102,32,50,32,50,10,49,32,45,50,32,48,10,50,32,48,10]))] h fun v h_=>
 ∃ (t:Int) (A:Option Addr) (N C:Nat) (t1 t2:Int),v=(.tuple #[(.agg #[.int .i64 t,.slice A N C]),(.agg #[.int .i64 t1,.int .i64 t2])])/\let h_1:Heap:=(h_).push (.cells #[.int .i64 0,.slice none 0 0] 24);let h_2:Heap:=(h_1).push (.cells #[.int .i64 0,.int .i64 0] 27);StoreH h_2 ⟨h_.size,0,none⟩ [.int .i64 t,.slice A N C] fun h_3=>StoreH h_3 ⟨h_1.size,0,none⟩ [.int .i64 t1,.int .i64 t2] fun h_4=>∃ (t3:Int) (A1:Option Addr) (N1 C1:Nat),cellsH h_4 ⟨h_.size,0,none⟩ 0 [.int .i64 t3,.slice A1 N1 C1]/\CallsH P 27 #[(.agg #[.int .i64 t3,.slice A1 N1 C1])] h_4 fun v1 h_5=>
 ∃ (t4 t5:Int),v1=(.tuple #[.int .i64 t4,.int .i64 t5])/\∃ (t6:Int) (A2:Option Addr) (N2 C2:Nat),cellsH h_5 ⟨h_.size,0,none⟩ 0 [.int .i64 t6,.slice A2 N2 C2]/\CallsH P 19 #[(.agg #[.int .i64 t6,.slice A2 N2 C2]),.slice none 0 0] h_5 fun v2 h_6=>
 ∃ (A3:Option Addr) (N3 C3:Nat) (t7:Bool) (t8:Int),v2=(.tuple #[.slice A3 N3 C3,.bool t7,.int .i64 t8])/\∃ (t9:Int) (A4:Option Addr) (N4 C4:Nat),cellsH h_6 ⟨h_.size,0,none⟩ 0 [.int .i64 t9,.slice A4 N4 C4]/\let h_7:Heap:=(h_6).push (.cells #[(.int .i64 (-1))] 3);CallsH P 19 #[(.agg #[.int .i64 t9,.slice A4 N4 C4]),(.slice (some ⟨h_6.size,0,none⟩) 1 1)] h_7 fun v3 h_8=>
 ∃ (A5:Option Addr) (N5 C5:Nat) (t10:Bool) (t11:Int),v3=(.tuple #[.slice A5 N5 C5,.bool t10,.int .i64 t11])/\∃ (t12 t13:Int),cellsH h_8 ⟨h_1.size,0,none⟩ 0 [.int .i64 t12,.int .i64 t13]/\PIf ((#[.int .i64 t12,.int .i64 t13]:Array Value)=#[.int .i64 0,.int .i64 0])
 (PIf (t4=1)
 (PIf (t5=0)
 (BIf t7 (PIf (t8=0)
 (PIf ((((N3:Nat):Int):Int)=2)
 (0≤(0:Int)/\(0:Int)<(N3:Nat)/\AtP A3 fun ad=>∃ (t14:Int),cellH h_8 (Addr.add ad (Int.toNat 0*1))=some (.int .i64 t14)/\PIf (t14=1)
 (0≤(1:Int)/\(1:Int)<(N3:Nat)/\AtP A3 fun ad1=>∃ (t15:Int),cellH h_8 (Addr.add ad1 (Int.toNat 1*1))=some (.int .i64 t15)/\PIf (t15=2)
 (BIf (!t10) (PIf (t11=0)
 (R (.bool true) h_8)
 (R (.bool false) h_8)) (R (.bool false) h_8))
 (R (.bool false) h_8))
 (R (.bool false) h_8))
 (R (.bool false) h_8))
 (R (.bool false) h_8)) (R (.bool false) h_8))
 (R (.bool false) h_8))
 (R (.bool false) h_8))
 (R (.bool false) h_8)
theorem vc16 (P:Program) (R:Value->Heap->Prop) (h:Heap):fnC P ret16 code16 [] h R=VC16 P R h:=by kernel_rfl
theorem run16 (R:Value->Heap->Prop) (h:Heap) (hv:VC16 Tryz.prog R h):CallsH Tryz.prog 16 #[] h R:=calls_of_fnC (Checked.mixed Tryz.checked) Tryz.func16 comp16 (Nat.le_of_ble_eq_true rfl) (by rw [vc16];exact hv)
end Go.Proofs.YtobageabpfkpcaaGreatDoor
