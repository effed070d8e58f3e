/- Words and facts that the claim's proof leans on. No condition. -/
import Derived.Test.YtdpbdjdgdmheiaaGreatHxV
import Derived.Test.YtdpbdjdgdmheiaaGreatChecked
set_option maxRecDepth 100000
set_option linter.unusedVariables false
namespace Go.Proofs.YtdpbdjdgdmheiaaGreat
open Go.Hx
def loops14:List (List (Nat×Shp)):=[]
noncomputable def code14:SCode:=((compF Tryz.prog Tryz.f14 loops14).elim .skip fun x=>x.2.2)
def ret14:List RV:=[.tmp 0]
theorem comp14:compF Tryz.prog Tryz.f14 loops14=some (80,ret14,code14):=by kernel_rfl
def VC14 (P:Program) (R:Value->Heap->Prop) (h:Heap):Prop:=
 let h_:Heap:=(h).push (.cells #[.int .i64 2,.int .i64 3,.int .i64 0] 65);let h_1:Heap:=(h_).push (.cells #[.int .i64 2] 3);let h_2:Heap:=(h_1).push (.cells #[.int .i64 2,.int .i64 3] 3);let h_3:Heap:=(h_2).push (.cells #[.int .i64 0] 3);let h_4:Heap:=(h_3).push (.cells #[(.slice (some ⟨h_1.size,0,none⟩) 2 2),(.slice (some ⟨h_2.size,0,none⟩) 1 1)] 22);let h_5:Heap:=(h_4).push (.cells CV.zero.cs.toArray 29);StoreH h_5 ⟨h_4.size,0,none⟩ [.int .i64 1,.slice none 0 0,(.slice (some ⟨h.size,0,none⟩) 1 1),.slice none 0 0,(.slice (some ⟨h_.size,0,none⟩) 1 1),.slice none 0 0,(.slice (some ⟨h_3.size,0,none⟩) 2 2),.slice none 0 0,.slice none 0 0,.slice none 0 0,.slice none 0 0] fun h_6=>LdC h_6 ⟨h_4.size,0,none⟩ fun t=>CallsH P 16 #[t.v] h_6 fun v h_7=>
 ∃ (A10:Option Addr) (N10 C10:Nat) (t1 t2:Int),v=(.tuple #[(.agg #[.slice A10 N10 C10,.int .i64 t1]),.int .i64 t2])/\let h_8:Heap:=(h_7).push (.cells #[.slice none 0 0,.int .i64 0] 41);StoreH h_8 ⟨h_7.size,0,none⟩ [.slice A10 N10 C10,.int .i64 t1] fun h_9=>LdC h_9 ⟨h_4.size,0,none⟩ fun t3=>CallsH P 18 #[t3.v,.int .i64 0] h_9 fun v1 h_10=>
 ∃ (t4 t5:Int),v1=(.tuple #[.int .i64 t4,.int .i64 t5])/\LdC h_10 ⟨h_4.size,0,none⟩ fun t6=>CallsH P 26 #[t6.v,.int .i64 0] h_10 fun v2 h_11=>
 ∃ (t7:Bool) (t8:Int),v2=(.tuple #[.bool t7,.int .i64 t8])/\LdC h_11 ⟨h_4.size,0,none⟩ fun t9=>CallsH P 26 #[t9.v,.int .i64 1] h_11 fun v3 h_12=>
 ∃ (t10:Bool) (t11:Int),v3=(.tuple #[.bool t10,.int .i64 t11])/\PIf (t2=0)
 (∃ (t12:Int),cellH h_12 (Addr.add ⟨h_7.size,0,none⟩ 1)=some (.int .i64 t12)/\PIf (t12=1)
 (∃ (A41:Option Addr) (N41 C41:Nat),cellH h_12 (Addr.add ⟨h_7.size,0,none⟩ 0)=some (.slice A41 N41 C41)/\PIf ((((N41:Nat):Int):Int)=2)
 (∃ (A42:Option Addr) (N42 C42:Nat),cellH h_12 (Addr.add ⟨h_7.size,0,none⟩ 0)=some (.slice A42 N42 C42)/\0≤(1:Int)/\(1:Int)<(N42:Nat)/\AtP A42 fun ad=>∃ (t13:Int),cellH h_12 (Addr.add ad (Int.toNat 1*1))=some (.int .i64 t13)/\PIf (t13=1)
 (PIf (t4=1)
 (PIf (t5=0)
 (BIf t7 (PIf (t8=0)
 (BIf (!t10) (PIf (t11=0)
 (R (.bool true) h_12)
 (R (.bool false) h_12)) (R (.bool false) h_12))
 (R (.bool false) h_12)) (R (.bool false) h_12))
 (R (.bool false) h_12))
 (R (.bool false) h_12))
 (R (.bool false) h_12))
 (R (.bool false) h_12))
 (R (.bool false) h_12))
 (R (.bool false) h_12)
theorem run14 (R:Value->Heap->Prop) (h:Heap) (hv:VC14 Tryz.prog R h):CallsH Tryz.prog 14 #[] h R:=calls_of_fnC (Checked.mixed Tryz.checked) Tryz.func14 comp14 (Nat.le_of_ble_eq_true rfl) (Eq.mp (by kernel_rfl) hv)
end Go.Proofs.YtdpbdjdgdmheiaaGreat
