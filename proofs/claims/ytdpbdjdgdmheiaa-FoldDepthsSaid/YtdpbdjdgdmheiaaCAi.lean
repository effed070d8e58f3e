/- Words and facts that the claim's proof leans on. No condition. -/
import Derived.Test.YtdpbdjdgdmheiaaHxV
import Derived.Test.YtdpbdjdgdmheiaaChecked
set_option maxRecDepth 100000
set_option linter.unusedVariables false
namespace Go.Proofs.Ytdpbdjdgdmheiaa
open Go.Hx
def loops3:List (List (Nat×Shp)):=[[(61,.int .i64)],[(91,.int .i64)]]
noncomputable def code3:SCode:=((compF Try.prog Try.f3 loops3).elim .skip fun x=>x.2.2)
def ret3:List RV:=[.tmp 2]
theorem comp3:compF Try.prog Try.f3 loops3=some (118,ret3,code3):=by kernel_rfl
def J3_3  (P:Program) (R:Value->Heap->Prop) (h h_3:Heap) (t4:Int) (next_:(Int->Heap->Prop)) (h_8:Heap):Prop:=
 LdC h_8 ⟨h.size,0,none⟩ fun t5=>CallsH P 12 #[t5.v,.int .i64 t4] h_8 fun v2 h_9=>
 ∃ (t6 t7:Int),v2=(.tuple #[.int .i64 t6,.int .i64 t7])/\LdC h_9 ⟨h_3.size,0,none⟩ fun t8=>CallsH P 12 #[t8.v,.int .i64 t4] h_9 fun v3 h_10=>
 ∃ (t9 t10:Int),v3=(.tuple #[.int .i64 t9,.int .i64 t10])/\PIf (t7=0)
 (PIf (t10=0)
 (PIf (t6=t9)
 (next_ (IntKind.wrap .i64 (t4+1)) h_10)
 (R (.bool false) h_10))
 (R (.bool false) h_10))
 (R (.bool false) h_10)
def J3_6  (P:Program) (R:Value->Heap->Prop) (h h_3:Heap) (t11:Int) (next_1:(Int->Heap->Prop)) (h_13:Heap):Prop:=
 LdC h_13 ⟨h.size,0,none⟩ fun t12=>CallsH P 13 #[t12.v,.int .i64 t11] h_13 fun v4 h_14=>
 ∃ (t13:Bool) (t14:Int),v4=(.tuple #[.bool t13,.int .i64 t14])/\LdC h_14 ⟨h_3.size,0,none⟩ fun t15=>CallsH P 13 #[t15.v,.int .i64 t11] h_14 fun v5 h_15=>
 ∃ (t16:Bool) (t17:Int),v5=(.tuple #[.bool t16,.int .i64 t17])/\PIf (t14=0)
 (PIf (t17=0)
 (PIf ((t13:Bool)=t16)
 (next_1 (IntKind.wrap .i64 (t11+1)) h_15)
 (R (.bool false) h_15))
 (R (.bool false) h_15))
 (R (.bool false) h_15)
def J3_5  (R:Value->Heap->Prop) (h_16:Heap):Prop:=
 R (.bool true) h_16
def B3_8 (P:Program) (R:Value->Heap->Prop) (h h_3:Heap) (N47:Nat) (t11:Int) (h_12:Heap) (next_1:Int->Heap->Prop):Prop:=
 PIf (t11<((N47:Nat):Int))
 (J3_6 P R h h_3 t11 next_1 h_12)
 (J3_5 R h_12)
def J3_2  (P:Program) (R:Value->Heap->Prop) (h h_3 h_11:Heap):Prop:=
 ∃ (A47:Option Addr) (N47 C47:Nat),cellH h_11 (Addr.add ⟨h.size,0,none⟩ 6)=some (.slice A47 N47 C47)/\LoopT (σ:=Int) (fun st_ h_st nx_st=>B3_8 P R h h_3 N47 (st_) h_st nx_st) (0) h_11
def B3_9 (P:Program) (R:Value->Heap->Prop) (h h_3:Heap) (N26:Nat) (t4:Int) (h_7:Heap) (next_:Int->Heap->Prop):Prop:=
 PIf (t4<((N26:Nat):Int))
 (J3_3 P R h h_3 t4 next_ h_7)
 (J3_2 P R h h_3 h_7)
def J3_1  (P:Program) (R:Value->Heap->Prop) (h h_3 h_6:Heap):Prop:=
 ∃ (A26:Option Addr) (N26 C26:Nat),cellH h_6 (Addr.add ⟨h.size,0,none⟩ 4)=some (.slice A26 N26 C26)/\LoopT (σ:=Int) (fun st_ h_st nx_st=>B3_9 P R h h_3 N26 (st_) h_st nx_st) (0) h_6
def J3_0  (P:Program) (R:Value->Heap->Prop) (h h_2:Heap):Prop:=
 LdC h_2 ⟨h.size,0,none⟩ fun t1=>CallsH P 11 #[t1.v] h_2 fun v1 h_3=>
 ExCi fun t2=>∃ (t3:Int),v1=(.tuple #[t2.v,.int .i64 t3])/\let h_4:Heap:=(h_3).push (.cells CV.zero.cs.toArray 29);StoreH h_4 ⟨h_3.size,0,none⟩ t2.cs fun h_5=>PIf (t3=0)
 (∃ (A20:Option Addr) (N20 C20:Nat),cellH h_5 (Addr.add ⟨h.size,0,none⟩ 2)=some (.slice A20 N20 C20)/\PIf ((4:Int)<((N20:Nat):Int))
 (R (.bool true) h_5)
 (∃ (A21:Option Addr) (N21 C21:Nat),cellH h_5 (Addr.add ⟨h.size,0,none⟩ 1)=some (.slice A21 N21 C21)/\PIf ((3:Int)<((N21:Nat):Int))
 (R (.bool true) h_5)
 (∃ (A22:Option Addr) (N22 C22:Nat),cellH h_5 (Addr.add ⟨h.size,0,none⟩ 8)=some (.slice A22 N22 C22)/\PIf ((60:Int)<((N22:Nat):Int))
 (R (.bool true) h_5)
 (∃ (A23:Option Addr) (N23 C23:Nat),cellH h_5 (Addr.add ⟨h.size,0,none⟩ 4)=some (.slice A23 N23 C23)/\∃ (A24:Option Addr) (N24 C24:Nat),cellH h_5 (Addr.add ⟨h.size,0,none⟩ 6)=some (.slice A24 N24 C24)/\PIf ((8:Int)<(IntKind.wrap .i64 (((N23:Nat):Int)+((N24:Nat):Int))))
 (R (.bool true) h_5)
 (∃ (A25:Option Addr) (N25 C25:Nat),cellH h_5 (Addr.add ⟨h.size,0,none⟩ 5)=some (.slice A25 N25 C25)/\PIf ((100:Int)<((N25:Nat):Int))
 (R (.bool true) h_5)
 (J3_1 P R h h_3 h_5))))))
 (R (.bool true) h_5)
def VC3 (P:Program) (c:CV) (R:Value->Heap->Prop) (h:Heap):Prop:=
 let h_:Heap:=(h).push (.cells (Value.cells c.v) 29);CallsH P 10 #[] h_ fun v h_1=>
 ∃ (t:Bool),v=(.bool t)/\BIf (!t) (R (.bool false) h_1) (J3_0 P R h h_1)
theorem run3 (c:CV) (R:Value->Heap->Prop) (h:Heap) (hv:VC3 Try.prog c R h):CallsH Try.prog 3 #[c.v] h R:=calls_of_fnC (Checked.mixed Try.checked) Try.func3 comp3 (Nat.le_of_ble_eq_true rfl) (Eq.mp (by kernel_rfl) hv)
end Go.Proofs.Ytdpbdjdgdmheiaa
