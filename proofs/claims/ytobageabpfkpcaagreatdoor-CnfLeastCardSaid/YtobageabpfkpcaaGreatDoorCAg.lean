/- Words and facts that the claim's proof leans on. No condition. -/
import Derived.Test.YtobageabpfkpcaaGreatDoorHxV
import Derived.Test.YtobageabpfkpcaaGreatDoorChecked
set_option maxRecDepth 100000
set_option linter.unusedVariables false
namespace Go.Proofs.YtobageabpfkpcaaGreatDoor
open Go.Hx
def loops6:List (List (Nat×Shp)):=[[(93,.int .i64)]]
noncomputable def code6:SCode:=((compF Tryz.prog Tryz.f6 loops6).elim .skip fun x=>x.2.2)
def ret6:List RV:=[.tmp 4]
theorem comp6:compF Tryz.prog Tryz.f6 loops6=some (110,ret6,code6):=by kernel_rfl
def J6_7  (R:Value->Heap->Prop) (modelA:(Option Addr)) (modelN:Nat) (A2:(Option Addr)) (N2:Nat) (t16:Int) (next_:(Int->Heap->Prop)) (h_13:Heap):Prop:=
 0≤t16/\t16<(N2:Nat)/\AtP A2 fun ad=>∃ (t17:Bool),cellH h_13 (Addr.add ad (Int.toNat t16*1))=some (.bool t17)/\0≤t16/\t16<(modelN:Nat)/\AtP modelA fun ad1=>∃ (t18:Bool),cellH h_13 (Addr.add ad1 (Int.toNat t16*1))=some (.bool t18)/\PIf ((t17:Bool)=t18)
 (next_ (IntKind.wrap .i64 (t16+1)) h_13)
 (0≤t16/\t16<(modelN:Nat)/\AtP modelA fun ad2=>∃ (t19:Bool),cellH h_13 (Addr.add ad2 (Int.toNat t16*1))=some (.bool t19)/\R (.bool t19) h_13)
def J6_6  (R:Value->Heap->Prop) (h_14:Heap):Prop:=
 R (.bool true) h_14
def B6_9 (R:Value->Heap->Prop) (modelA:(Option Addr)) (modelN:Nat) (A2:(Option Addr)) (N2:Nat) (t16:Int) (h_12:Heap) (next_:Int->Heap->Prop):Prop:=
 PIf (t16<((N2:Nat):Int))
 (J6_7 R modelA modelN A2 N2 t16 next_ h_12)
 (J6_6 R h_12)
def J6_5  (R:Value->Heap->Prop) (modelA:(Option Addr)) (modelN:Nat) (A2:(Option Addr)) (N2:Nat) (h_11:Heap):Prop:=
 LoopT (σ:=Int) (fun st_ h_st nx_st=>B6_9 R modelA modelN A2 N2 (st_) h_st nx_st) (0) h_11
def J6_4  (R:Value->Heap->Prop) (modelA:(Option Addr)) (modelN:Nat) (A2:(Option Addr)) (N2:Nat) (t12:Bool) (t14:Int) (h_10:Heap):Prop:=
 PIf (t14=0)
 (BIf (!t12) (R (.bool true) h_10) (J6_5 R modelA modelN A2 N2 h_10))
 (R (.bool true) h_10)
def J6_3  (P:Program) (R:Value->Heap->Prop) (h:Heap) (modelA:(Option Addr)) (modelN modelC:Nat) (t3:Int) (A2:(Option Addr)) (N2 C2:Nat) (h_7:Heap):Prop:=
 ∃ (t7:Int) (A3:Option Addr) (N3 C3:Nat),cellsH h_7 ⟨h.size,0,none⟩ 0 [.int .i64 t7,.slice A3 N3 C3]/\CallsH P 25 #[(.agg #[.int .i64 t7,.slice A3 N3 C3]),.slice A2 N2 C2] h_7 fun v3 h_8=>
 ∃ (t8:Bool) (t9 t10:Int),v3=(.tuple #[.bool t8,.int .i64 t9,.int .i64 t10])/\∃ (t11:Int) (A4:Option Addr) (N4 C4:Nat),cellsH h_8 ⟨h.size,0,none⟩ 0 [.int .i64 t11,.slice A4 N4 C4]/\CallsH P 25 #[(.agg #[.int .i64 t11,.slice A4 N4 C4]),.slice modelA modelN modelC] h_8 fun v4 h_9=>
 ∃ (t12:Bool) (t13 t14:Int),v4=(.tuple #[.bool t12,.int .i64 t13,.int .i64 t14])/\PIf (t3<1)
 (R (.bool false) h_9)
 (∃ (t15:Int),cellH h_9 (Addr.add ⟨h.size,0,none⟩ 0)=some (.int .i64 t15)/\0≤((max (0:Int) t15):Int)/\PIf (((IntKind.wrap .i64 (1*2 ^ min (Int.toNat (max (0:Int) t15)) (IntKind.bits .i64))):Int)<t3)
 (R (.bool false) h_9)
 (PIf (t10=0)
 (BIf (!t8) (R (.bool false) h_9) (J6_4 R modelA modelN A2 N2 t12 t14 h_9))
 (R (.bool false) h_9)))
def J6_2  (P:Program) (R:Value->Heap->Prop) (h:Heap) (modelA:(Option Addr)) (modelN modelC:Nat) (t3:Int) (A2:(Option Addr)) (N2 C2:Nat) (t6:Int) (h_6:Heap):Prop:=
 PIf (t6=0)
 (J6_3 P R h modelA modelN modelC t3 A2 N2 C2 h_6)
 (PIf (t6=5)
 (PIf (t3=0)
 (PIf ((((N2:Nat):Int):Int)=0)
 (R (.bool true) h_6)
 (R (.bool false) h_6))
 (R (.bool false) h_6))
 (R (.bool false) h_6))
def J6_1  (P:Program) (R:Value->Heap->Prop) (h:Heap) (modelA:(Option Addr)) (modelN modelC:Nat) (h_3:Heap):Prop:=
 ∃ (t2:Int) (A:Option Addr) (N C:Nat),cellsH h_3 ⟨h.size,0,none⟩ 0 [.int .i64 t2,.slice A N C]/\CallsH P 27 #[(.agg #[.int .i64 t2,.slice A N C])] h_3 fun v1 h_4=>
 ∃ (t3 t4:Int),v1=(.tuple #[.int .i64 t3,.int .i64 t4])/\∃ (t5:Int) (A1:Option Addr) (N1 C1:Nat),cellsH h_4 ⟨h.size,0,none⟩ 0 [.int .i64 t5,.slice A1 N1 C1]/\CallsH P 29 #[(.agg #[.int .i64 t5,.slice A1 N1 C1])] h_4 fun v2 h_5=>
 ∃ (A2:Option Addr) (N2 C2:Nat) (t6:Int),v2=(.tuple #[.slice A2 N2 C2,.int .i64 t6])/\PIf (t4=0)
 (J6_2 P R h modelA modelN modelC t3 A2 N2 C2 t6 h_5)
 (PIf (t6=t4)
 (PIf (t3=0)
 (R (.bool true) h_5)
 (R (.bool false) h_5))
 (R (.bool false) h_5))
def J6_0  (P:Program) (R:Value->Heap->Prop) (h:Heap) (modelA:(Option Addr)) (modelN modelC:Nat) (h_2:Heap):Prop:=
 ∃ (t1:Int),cellH h_2 (Addr.add ⟨h.size,0,none⟩ 0)=some (.int .i64 t1)/\PIf ((11:Int)<t1)
 (R (.bool true) h_2)
 (J6_1 P R h modelA modelN modelC h_2)
def VC6 (P:Program) (f:Int) (fA:Option Addr) (fN fC:Nat) (modelA:Option Addr) (modelN modelC:Nat) (R:Value->Heap->Prop) (h:Heap):Prop:=
 let h_:Heap:=(h).push (.cells (Value.cells (.agg #[.int .i64 f,.slice fA fN fC])) 24);CallsH P 16 #[] h_ fun v h_1=>
 ∃ (t:Bool),v=(.bool t)/\BIf (!t) (R (.bool false) h_1) (J6_0 P R h modelA modelN modelC h_1)
theorem vc6 (P:Program) (f:Int) (fA:Option Addr) (fN fC:Nat) (modelA:Option Addr) (modelN modelC:Nat) (R:Value->Heap->Prop) (h:Heap):fnC P ret6 code6 [(.agg #[.int .i64 f,.slice fA fN fC]),.slice modelA modelN modelC] h R=VC6 P f fA fN fC modelA modelN modelC R h:=by kernel_rfl
theorem run6 (f:Int) (fA:Option Addr) (fN fC:Nat) (modelA:Option Addr) (modelN modelC:Nat) (R:Value->Heap->Prop) (h:Heap) (hv:VC6 Tryz.prog f fA fN fC modelA modelN modelC R h):CallsH Tryz.prog 6 #[(.agg #[.int .i64 f,.slice fA fN fC]),.slice modelA modelN modelC] h R:=calls_of_fnC (Checked.mixed Tryz.checked) Tryz.func6 comp6 (Nat.le_of_ble_eq_true rfl) (by rw [vc6];exact hv)
def loops16:List (List (Nat×Shp)):=[]
noncomputable def code16:SCode:=((compF Tryz.prog Tryz.f16 loops16).elim .skip fun x=>x.2.2)
def ret16:List RV:=[.tmp 0]
theorem comp16:compF Tryz.prog Tryz.f16 loops16=some (76,ret16,code16):=by kernel_rfl
def VC16 (P:Program) (R:Value->Heap->Prop) (h:Heap):Prop:=
 CallsH P 12 #[(.string (ByteArray.mk #[112,32,99,110,102,32,50,32,50,10,49,32,45,50,32,48,10,50,32,48,10]))] h fun v h_=>
 ∃ (t:Int) (A:Option Addr) (N C:Nat) (t1 t2:Int),v=(.tuple #[(.agg #[.int .i64 t,.slice A N C]),(.agg #[.int .i64 t1,.int .i64 t2])])/\let h_1:Heap:=(h_).push (.cells #[.int .i64 0,.slice none 0 0] 24);let h_2:Heap:=(h_1).push (.cells #[.int .i64 0,.int .i64 0] 27);StoreH h_2 ⟨h_.size,0,none⟩ [.int .i64 t,.slice A N C] fun h_3=>StoreH h_3 ⟨h_1.size,0,none⟩ [.int .i64 t1,.int .i64 t2] fun h_4=>∃ (t3:Int) (A1:Option Addr) (N1 C1:Nat),cellsH h_4 ⟨h_.size,0,none⟩ 0 [.int .i64 t3,.slice A1 N1 C1]/\CallsH P 27 #[(.agg #[.int .i64 t3,.slice A1 N1 C1])] h_4 fun v1 h_5=>
 ∃ (t4 t5:Int),v1=(.tuple #[.int .i64 t4,.int .i64 t5])/\∃ (t6:Int) (A2:Option Addr) (N2 C2:Nat),cellsH h_5 ⟨h_.size,0,none⟩ 0 [.int .i64 t6,.slice A2 N2 C2]/\CallsH P 19 #[(.agg #[.int .i64 t6,.slice A2 N2 C2]),.slice none 0 0] h_5 fun v2 h_6=>
 ∃ (A3:Option Addr) (N3 C3:Nat) (t7:Bool) (t8:Int),v2=(.tuple #[.slice A3 N3 C3,.bool t7,.int .i64 t8])/\∃ (t9:Int) (A4:Option Addr) (N4 C4:Nat),cellsH h_6 ⟨h_.size,0,none⟩ 0 [.int .i64 t9,.slice A4 N4 C4]/\let h_7:Heap:=(h_6).push (.cells #[(.int .i64 (-1))] 3);CallsH P 19 #[(.agg #[.int .i64 t9,.slice A4 N4 C4]),(.slice (some ⟨h_6.size,0,none⟩) 1 1)] h_7 fun v3 h_8=>
 ∃ (A5:Option Addr) (N5 C5:Nat) (t10:Bool) (t11:Int),v3=(.tuple #[.slice A5 N5 C5,.bool t10,.int .i64 t11])/\∃ (t12 t13:Int),cellsH h_8 ⟨h_1.size,0,none⟩ 0 [.int .i64 t12,.int .i64 t13]/\PIf ((#[.int .i64 t12,.int .i64 t13]:Array Value)=#[.int .i64 0,.int .i64 0])
 (PIf (t4=1)
 (PIf (t5=0)
 (BIf t7 (PIf (t8=0)
 (PIf ((((N3:Nat):Int):Int)=2)
 (0≤(0:Int)/\(0:Int)<(N3:Nat)/\AtP A3 fun ad=>∃ (t14:Int),cellH h_8 (Addr.add ad (Int.toNat 0*1))=some (.int .i64 t14)/\PIf (t14=1)
 (0≤(1:Int)/\(1:Int)<(N3:Nat)/\AtP A3 fun ad1=>∃ (t15:Int),cellH h_8 (Addr.add ad1 (Int.toNat 1*1))=some (.int .i64 t15)/\PIf (t15=2)
 (BIf (!t10) (PIf (t11=0)
 (R (.bool true) h_8)
 (R (.bool false) h_8)) (R (.bool false) h_8))
 (R (.bool false) h_8))
 (R (.bool false) h_8))
 (R (.bool false) h_8))
 (R (.bool false) h_8)) (R (.bool false) h_8))
 (R (.bool false) h_8))
 (R (.bool false) h_8))
 (R (.bool false) h_8)
theorem vc16 (P:Program) (R:Value->Heap->Prop) (h:Heap):fnC P ret16 code16 [] h R=VC16 P R h:=by kernel_rfl
theorem run16 (R:Value->Heap->Prop) (h:Heap) (hv:VC16 Tryz.prog R h):CallsH Tryz.prog 16 #[] h R:=calls_of_fnC (Checked.mixed Tryz.checked) Tryz.func16 comp16 (Nat.le_of_ble_eq_true rfl) (by rw [vc16];exact hv)
end Go.Proofs.YtobageabpfkpcaaGreatDoor
