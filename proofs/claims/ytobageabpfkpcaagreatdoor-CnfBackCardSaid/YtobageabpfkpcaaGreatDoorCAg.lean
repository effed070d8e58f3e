/- Words and facts that the claim's proof leans on. No condition. -/
import Derived.Test.YtobageabpfkpcaaGreatDoorHxV
import Derived.Test.YtobageabpfkpcaaGreatDoorChecked
set_option maxRecDepth 100000
set_option linter.unusedVariables false
namespace Go.Proofs.YtobageabpfkpcaaGreatDoor
open Go.Hx
def loops16:List (List (Nat×Shp)):=[]
noncomputable def code16:SCode:=((compF Tryz.prog Tryz.f16 loops16).elim .skip fun x=>x.2.2)
def ret16:List RV:=[.tmp 0]
theorem comp16:compF Tryz.prog Tryz.f16 loops16=some (76,ret16,code16):=by kernel_rfl
def VC16 (P:Program) (R:Value->Heap->Prop) (h:Heap):Prop:=
 CallsH P 12 #[(.string (ByteArray.mk #[112,32,99,110,102,32,50,32,50,10,49,32,45,50,32,48,10,50,32,48,10]))] h fun v h_=>
 ∃ (t:Int) (A:Option Addr) (N C:Nat) (t1 t2:Int),v=(.tuple #[(.agg #[.int .i64 t,.slice A N C]),(.agg #[.int .i64 t1,.int .i64 t2])])/\let h_1:Heap:=(h_).push (.cells #[.int .i64 0,.slice none 0 0] 24);let h_2:Heap:=(h_1).push (.cells #[.int .i64 0,.int .i64 0] 27);StoreH h_2 ⟨h_.size,0,none⟩ [.int .i64 t,.slice A N C] fun h_3=>StoreH h_3 ⟨h_1.size,0,none⟩ [.int .i64 t1,.int .i64 t2] fun h_4=>∃ (t3:Int) (A1:Option Addr) (N1 C1:Nat),cellsH h_4 ⟨h_.size,0,none⟩ 0 [.int .i64 t3,.slice A1 N1 C1]/\CallsH P 27 #[(.agg #[.int .i64 t3,.slice A1 N1 C1])] h_4 fun v1 h_5=>
 ∃ (t4 t5:Int),v1=(.tuple #[.int .i64 t4,.int .i64 t5])/\∃ (t6:Int) (A2:Option Addr) (N2 C2:Nat),cellsH h_5 ⟨h_.size,0,none⟩ 0 [.int .i64 t6,.slice A2 N2 C2]/\CallsH P 19 #[(.agg #[.int .i64 t6,.slice A2 N2 C2]),.slice none 0 0] h_5 fun v2 h_6=>
 ∃ (A3:Option Addr) (N3 C3:Nat) (t7:Bool) (t8:Int),v2=(.tuple #[.slice A3 N3 C3,.bool t7,.int .i64 t8])/\∃ (t9:Int) (A4:Option Addr) (N4 C4:Nat),cellsH h_6 ⟨h_.size,0,none⟩ 0 [.int .i64 t9,.slice A4 N4 C4]/\let h_7:Heap:=(h_6).push (.cells #[(.int .i64 (-1))] 3);CallsH P 19 #[(.agg #[.int .i64 t9,.slice A4 N4 C4]),(.slice (some ⟨h_6.size,0,none⟩) 1 1)] h_7 fun v3 h_8=>
 ∃ (A5:Option Addr) (N5 C5:Nat) (t10:Bool) (t11:Int),v3=(.tuple #[.slice A5 N5 C5,.bool t10,.int .i64 t11])/\∃ (t12 t13:Int),cellsH h_8 ⟨h_1.size,0,none⟩ 0 [.int .i64 t12,.int .i64 t13]/\PIf ((#[.int .i64 t12,.int .i64 t13]:Array Value)=#[.int .i64 0,.int .i64 0])
 (PIf (t4=1)
 (PIf (t5=0)
 (BIf t7 (PIf (t8=0)
 (PIf ((((N3:Nat):Int):Int)=2)
 (0≤(0:Int)/\(0:Int)<(N3:Nat)/\AtP A3 fun ad=>∃ (t14:Int),cellH h_8 (Addr.add ad (Int.toNat 0*1))=some (.int .i64 t14)/\PIf (t14=1)
 (0≤(1:Int)/\(1:Int)<(N3:Nat)/\AtP A3 fun ad1=>∃ (t15:Int),cellH h_8 (Addr.add ad1 (Int.toNat 1*1))=some (.int .i64 t15)/\PIf (t15=2)
 (BIf (!t10) (PIf (t11=0)
 (R (.bool true) h_8)
 (R (.bool false) h_8)) (R (.bool false) h_8))
 (R (.bool false) h_8))
 (R (.bool false) h_8))
 (R (.bool false) h_8))
 (R (.bool false) h_8)) (R (.bool false) h_8))
 (R (.bool false) h_8))
 (R (.bool false) h_8))
 (R (.bool false) h_8)
theorem vc16 (P:Program) (R:Value->Heap->Prop) (h:Heap):fnC P ret16 code16 [] h R=VC16 P R h:=by kernel_rfl
theorem run16 (R:Value->Heap->Prop) (h:Heap) (hv:VC16 Tryz.prog R h):CallsH Tryz.prog 16 #[] h R:=calls_of_fnC (Checked.mixed Tryz.checked) Tryz.func16 comp16 (Nat.le_of_ble_eq_true rfl) (by rw [vc16];exact hv)
end Go.Proofs.YtobageabpfkpcaaGreatDoor
