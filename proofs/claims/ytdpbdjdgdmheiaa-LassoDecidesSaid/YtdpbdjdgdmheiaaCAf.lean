/- Words and facts that the claim's proof leans on. No condition. -/
import Derived.Test.YtdpbdjdgdmheiaaHxV
import Derived.Test.YtdpbdjdgdmheiaaChecked
set_option maxRecDepth 100000
set_option linter.unusedVariables false
namespace Go.Proofs.Ytdpbdjdgdmheiaa
open Go.Hx
def loops47:List (List (Nat×Shp)):=[]
noncomputable def code47:SCode:=((compF Try.prog Try.f47 loops47).elim .skip fun x=>x.2.2)
def ret47:List RV:=[.tmp 6,.tmp 7]
theorem comp47:compF Try.prog Try.f47 loops47=some (66,ret47,code47):=by kernel_rfl
def J47_0  (P:Program) (R:Value->Heap->Prop) (h h_ h_1 h_4:Heap):Prop:=
 ∃ (t4:Int),cellH h_4 (Addr.add ⟨h_.size,0,none⟩ 0)=some (.int .u8 t4)/\PIf (t4=98)
 (∃ (t5:Int),cellH h_4 (Addr.add ⟨h_.size,0,none⟩ 1)=some (.int .i64 t5)/\PIf ((0:Int)≤t5)
 (∃ (t6:Int),cellH h_4 (Addr.add ⟨h_.size,0,none⟩ 1)=some (.int .i64 t6)/\∃ (A10:Option Addr) (N10 C10:Nat),cellH h_4 (Addr.add ⟨h.size,0,none⟩ 4)=some (.slice A10 N10 C10)/\PIf (t6<((N10:Nat):Int))
 (LdC h_4 ⟨h.size,0,none⟩ fun t7=>∃ (t8:Int),cellH h_4 (Addr.add ⟨h_.size,0,none⟩ 1)=some (.int .i64 t8)/\LdT h_4 ⟨h_1.size,0,none⟩ fun t9=>CallsH P 73 #[t7.v,.int .i64 t8,t9.v] h_4 fun v1 h_5=>
 ∃ (t10 t11:Int),v1=(.tuple #[.int .i64 t10,.int .i64 t11])/\R (.tuple #[.int .i64 t10,.int .i64 t11]) h_5)
 (∃ (t12:Int),cellH h_4 (Addr.add ⟨h_.size,0,none⟩ 0)=some (.int .u8 t12)/\PIf (t12=106)
 (∃ (t13:Int),cellH h_4 (Addr.add ⟨h_.size,0,none⟩ 1)=some (.int .i64 t13)/\PIf ((0:Int)≤t13)
 (∃ (t14:Int),cellH h_4 (Addr.add ⟨h_.size,0,none⟩ 1)=some (.int .i64 t14)/\∃ (A23:Option Addr) (N23 C23:Nat),cellH h_4 (Addr.add ⟨h.size,0,none⟩ 6)=some (.slice A23 N23 C23)/\PIf (t14<((N23:Nat):Int))
 (LdC h_4 ⟨h.size,0,none⟩ fun t15=>∃ (t16:Int),cellH h_4 (Addr.add ⟨h_.size,0,none⟩ 1)=some (.int .i64 t16)/\LdT h_4 ⟨h_1.size,0,none⟩ fun t17=>CallsH P 74 #[t15.v,.int .i64 t16,t17.v] h_4 fun v2 h_6=>
 ∃ (t18 t19:Int),v2=(.tuple #[.int .i64 t18,.int .i64 t19])/\R (.tuple #[.int .i64 t18,.int .i64 t19]) h_6)
 (R (.tuple #[.int .i64 0,.int .i64 5]) h_4))
 (R (.tuple #[.int .i64 0,.int .i64 5]) h_4))
 (R (.tuple #[.int .i64 0,.int .i64 5]) h_4)))
 (∃ (t20:Int),cellH h_4 (Addr.add ⟨h_.size,0,none⟩ 0)=some (.int .u8 t20)/\PIf (t20=106)
 (∃ (t21:Int),cellH h_4 (Addr.add ⟨h_.size,0,none⟩ 1)=some (.int .i64 t21)/\PIf ((0:Int)≤t21)
 (∃ (t22:Int),cellH h_4 (Addr.add ⟨h_.size,0,none⟩ 1)=some (.int .i64 t22)/\∃ (A36:Option Addr) (N36 C36:Nat),cellH h_4 (Addr.add ⟨h.size,0,none⟩ 6)=some (.slice A36 N36 C36)/\PIf (t22<((N36:Nat):Int))
 (LdC h_4 ⟨h.size,0,none⟩ fun t23=>∃ (t24:Int),cellH h_4 (Addr.add ⟨h_.size,0,none⟩ 1)=some (.int .i64 t24)/\LdT h_4 ⟨h_1.size,0,none⟩ fun t25=>CallsH P 74 #[t23.v,.int .i64 t24,t25.v] h_4 fun v3 h_7=>
 ∃ (t26 t27:Int),v3=(.tuple #[.int .i64 t26,.int .i64 t27])/\R (.tuple #[.int .i64 t26,.int .i64 t27]) h_7)
 (R (.tuple #[.int .i64 0,.int .i64 5]) h_4))
 (R (.tuple #[.int .i64 0,.int .i64 5]) h_4))
 (R (.tuple #[.int .i64 0,.int .i64 5]) h_4)))
 (∃ (t28:Int),cellH h_4 (Addr.add ⟨h_.size,0,none⟩ 0)=some (.int .u8 t28)/\PIf (t28=106)
 (∃ (t29:Int),cellH h_4 (Addr.add ⟨h_.size,0,none⟩ 1)=some (.int .i64 t29)/\PIf ((0:Int)≤t29)
 (∃ (t30:Int),cellH h_4 (Addr.add ⟨h_.size,0,none⟩ 1)=some (.int .i64 t30)/\∃ (A49:Option Addr) (N49 C49:Nat),cellH h_4 (Addr.add ⟨h.size,0,none⟩ 6)=some (.slice A49 N49 C49)/\PIf (t30<((N49:Nat):Int))
 (LdC h_4 ⟨h.size,0,none⟩ fun t31=>∃ (t32:Int),cellH h_4 (Addr.add ⟨h_.size,0,none⟩ 1)=some (.int .i64 t32)/\LdT h_4 ⟨h_1.size,0,none⟩ fun t33=>CallsH P 74 #[t31.v,.int .i64 t32,t33.v] h_4 fun v4 h_8=>
 ∃ (t34 t35:Int),v4=(.tuple #[.int .i64 t34,.int .i64 t35])/\R (.tuple #[.int .i64 t34,.int .i64 t35]) h_8)
 (R (.tuple #[.int .i64 0,.int .i64 5]) h_4))
 (R (.tuple #[.int .i64 0,.int .i64 5]) h_4))
 (R (.tuple #[.int .i64 0,.int .i64 5]) h_4))
def VC47 (P:Program) (c:CV) (p p1:Int) (t:TV) (R:Value->Heap->Prop) (h:Heap):Prop:=
 let h_:Heap:=(h).push (.cells (Value.cells c.v) 29);let h_1:Heap:=(h_).push (.cells (Value.cells (.agg #[.int .u8 p,.int .i64 p1])) 98);let h_2:Heap:=(h_1).push (.cells (Value.cells t.v) 53);LdC h_2 ⟨h.size,0,none⟩ fun t1=>CallsH P 27 #[t1.v] h_2 fun v h_3=>
 ∃ (t2 t3:Int),v=(.tuple #[.int .i64 t2,.int .i64 t3])/\PIf (t3=0)
 (J47_0 P R h h_ h_1 h_3)
 (R (.tuple #[.int .i64 0,.int .i64 t3]) h_3)
theorem run47 (c:CV) (p p1:Int) (t:TV) (R:Value->Heap->Prop) (h:Heap) (hv:VC47 Try.prog c p p1 t R h):CallsH Try.prog 47 #[c.v,(.agg #[.int .u8 p,.int .i64 p1]),t.v] h R:=calls_of_fnC (Checked.mixed Try.checked) Try.func47 comp47 (Nat.le_of_ble_eq_true rfl) (Eq.mp (by kernel_rfl) hv)
def loops26:List (List (Nat×Shp)):=[]
noncomputable def code26:SCode:=((compF Try.prog Try.f26 loops26).elim .skip fun x=>x.2.2)
def ret26:List RV:=[.tmp 6,.tmp 7]
theorem comp26:compF Try.prog Try.f26 loops26=some (15,ret26,code26):=by kernel_rfl
def VC26 (P:Program) (c:CV) (j:Int) (t:TV) (R:Value->Heap->Prop) (h:Heap):Prop:=
 let h_:Heap:=(h).push (.cells (Value.cells c.v) 29);let h_1:Heap:=(h_).push (.cells (Value.cells t.v) 53);LdC h_1 ⟨h.size,0,none⟩ fun t1=>LdT h_1 ⟨h_.size,0,none⟩ fun t2=>CallsH P 47 #[t1.v,(.agg #[.int .u8 106,.int .i64 j]),t2.v] h_1 fun v h_2=>
 ∃ (t3 t4:Int),v=(.tuple #[.int .i64 t3,.int .i64 t4])/\R (.tuple #[.int .i64 t3,.int .i64 t4]) h_2
theorem run26 (c:CV) (j:Int) (t:TV) (R:Value->Heap->Prop) (h:Heap) (hv:VC26 Try.prog c j t R h):CallsH Try.prog 26 #[c.v,.int .i64 j,t.v] h R:=calls_of_fnC (Checked.mixed Try.checked) Try.func26 comp26 (Nat.le_of_ble_eq_true rfl) (Eq.mp (by kernel_rfl) hv)
def loops73:List (List (Nat×Shp)):=[]
noncomputable def code73:SCode:=((compF Try.prog Try.f73 loops73).elim .skip fun x=>x.2.2)
def ret73:List RV:=[.tmp 6,.tmp 7]
theorem comp73:compF Try.prog Try.f73 loops73=some (36,ret73,code73):=by kernel_rfl
def J73_0  (P:Program) (R:Value->Heap->Prop) (i:Int) (A12:(Option Addr)) (N12:Nat) (h_3:Heap):Prop:=
 0≤((IntKind.wrap .i64 (((N12:Nat):Int)-1)):Int)/\((IntKind.wrap .i64 (((N12:Nat):Int)-1)):Int)<(N12:Nat)/\AtP A12 fun ad=>∃ (A13:Option Addr) (N13 C13:Nat),cellH h_3 (Addr.add (Addr.add ad (Int.toNat (IntKind.wrap .i64 (((N12:Nat):Int)-1))*4)) 2)=some (.slice A13 N13 C13)/\CallsH P 100 #[.slice A13 N13 C13,.int .i64 i] h_3 fun v1 h_4=>
 ∃ (t5:Bool),v1=(.bool t5)/\BIf (!t5) (R (.tuple #[(.int .i64 (IntKind.wrap .i64 (((N12:Nat):Int)-1))),.int .i64 131]) h_4) (R (.tuple #[(.int .i64 (IntKind.wrap .i64 (((N12:Nat):Int)-1))),.int .i64 0]) h_4)
def VC73 (P:Program) (c:CV) (i:Int) (t:TV) (R:Value->Heap->Prop) (h:Heap):Prop:=
 let h_:Heap:=(h).push (.cells (Value.cells c.v) 29);let h_1:Heap:=(h_).push (.cells (Value.cells t.v) 53);LdC h_1 ⟨h.size,0,none⟩ fun t1=>LdT h_1 ⟨h_.size,0,none⟩ fun t2=>CallsH P 99 #[t1.v,t2.v] h_1 fun v h_2=>
 ∃ (A12:Option Addr) (N12 C12:Nat) (t3 t4:Int),v=(.tuple #[.slice A12 N12 C12,.int .i64 t3,.int .i64 t4])/\PIf (t4=0)
 (J73_0 P R i A12 N12 h_2)
 (R (.tuple #[.int .i64 t3,.int .i64 t4]) h_2)
theorem run73 (c:CV) (i:Int) (t:TV) (R:Value->Heap->Prop) (h:Heap) (hv:VC73 Try.prog c i t R h):CallsH Try.prog 73 #[c.v,.int .i64 i,t.v] h R:=calls_of_fnC (Checked.mixed Try.checked) Try.func73 comp73 (Nat.le_of_ble_eq_true rfl) (Eq.mp (by kernel_rfl) hv)
def loops74:List (List (Nat×Shp)):=[[(73,.int .i64)],[(80,.int .i64)],[(98,.int .i64)],[(112,.int .i64)]]
noncomputable def code74:SCode:=((compF Try.prog Try.f74 loops74).elim .skip fun x=>x.2.2)
def ret74:List RV:=[.tmp 6,.tmp 7]
theorem comp74:compF Try.prog Try.f74 loops74=some (131,ret74,code74):=by kernel_rfl
def J74_6  (h_7:Heap) (A31:(Option Addr)) (N31:Nat) (t13:Int) (next_1:(Int->Heap->Prop)) (h_14:Heap):Prop:=
 0≤t13/\t13<(N31:Nat)/\AtP A31 fun ad4=>∃ (t14 t15:Int),cellsH h_14 (Addr.add ad4 (Int.toNat t13*2)) 0 [.int .i64 t14,.int .i64 t15]/\let h_15:Heap:=(h_14).push (.cells #[.int .i64 0,.int .i64 0] 177);StoreH h_15 ⟨h_14.size,0,none⟩ [.int .i64 t14,.int .i64 t15] fun h_16=>∃ zn:Zone,Zone.has zn h_16 (Addr.block ⟨h_14.size,0,none⟩)/\∃ (t16 t17:Int),cellsH h_16 ⟨h_14.size,0,none⟩ 0 [.int .i64 t16,.int .i64 t17]/\MapLookW zn (.flat [.int .i64,.int .i64]) (.agg #[.int .i64 t16,.int .i64 t17]) (.int .i64 0) h_16 (some (h_7).size) (MapEnt (.flat [.int .i64,.int .i64]) (.int .i64 0) (.agg #[.int .i64 t16,.int .i64 t17]) h_16 (some (h_7).size) (fun st h_17=>Zone.r zn h_16 h_17/\MapSet st (.int .i64 (IntKind.wrap .i64 (0+1))) h_17 (some (h_7).size) fun h_18=>next_1 (IntKind.wrap .i64 (t13+1)) h_18) (fun u st1 h_19=>∃ (t18:Int),u=(.int .i64 t18)/\Zone.r zn h_16 h_19/\MapSet st1 (.int .i64 (IntKind.wrap .i64 (0+1))) h_19 (some (h_7).size) fun h_20=>next_1 (IntKind.wrap .i64 (t13+1)) h_20)) fun look=>∃ (t19:Int),look (.int .i64 t19)/\MapEnt (.flat [.int .i64,.int .i64]) (.int .i64 0) (.agg #[.int .i64 t16,.int .i64 t17]) h_16 (some (h_7).size) (fun st2 h_21=>Zone.r zn h_16 h_21/\MapSet st2 (.int .i64 (IntKind.wrap .i64 (t19+1))) h_21 (some (h_7).size) fun h_22=>next_1 (IntKind.wrap .i64 (t13+1)) h_22) (fun u1 st3 h_23=>∃ (t20:Int),u1=(.int .i64 t20)/\Zone.r zn h_16 h_23/\MapSet st3 (.int .i64 (IntKind.wrap .i64 (t19+1))) h_23 (some (h_7).size) fun h_24=>next_1 (IntKind.wrap .i64 (t13+1)) h_24)
def J74_5  (t11:Int) (next_:(Int->Heap->Prop)) (h_25:Heap):Prop:=
 next_ (IntKind.wrap .i64 (t11+1)) h_25
def B74_8 (h_7:Heap) (t11:Int) (next_:(Int->Heap->Prop)) (A31:(Option Addr)) (N31:Nat) (t13:Int) (h_13:Heap) (next_1:Int->Heap->Prop):Prop:=
 PIf (t13<((N31:Nat):Int))
 (J74_6 h_7 A31 N31 t13 next_1 h_13)
 (J74_5 t11 next_ h_13)
def J74_4  (A12:(Option Addr)) (N12 C12:Nat) (h_7:Heap) (t10 t11:Int) (next_:(Int->Heap->Prop)) (h_10:Heap):Prop:=
 0≤t11/\t11<((Int.toNat ((N12:Nat):Int)-Int.toNat t10):Nat)/\AtP (cutA 4 A12 C12 (Int.toNat t10)) fun ad3=>∃ (A28:Option Addr) (N28 C28:Nat) (t12:Bool) (A29:Option Addr) (N29 C29:Nat) (A30:Option Addr) (N30 C30:Nat),cellsH h_10 (Addr.add ad3 (Int.toNat t11*4)) 0 [.slice A28 N28 C28,.bool t12,.slice A29 N29 C29,.slice A30 N30 C30]/\let h_11:Heap:=(h_10).push (.cells #[.slice none 0 0,.bool false,.slice none 0 0,.slice none 0 0] 116);StoreH h_11 ⟨h_10.size,0,none⟩ [.slice A28 N28 C28,.bool t12,.slice A29 N29 C29,.slice A30 N30 C30] fun h_12=>∃ (A31:Option Addr) (N31 C31:Nat),cellH h_12 (Addr.add ⟨h_10.size,0,none⟩ 3)=some (.slice A31 N31 C31)/\LoopT (σ:=Int) (fun st_ h_st nx_st=>B74_8 h_7 t11 next_ A31 N31 (st_) h_st nx_st) (0) h_12
def J74_11  (R:Value->Heap->Prop) (j:Int) (h_7:Heap) (t21:Int) (next_2:(Int->Heap->Prop)) (h_28:Heap):Prop:=
 MapLook (.flat [.int .i64,.int .i64]) (.agg #[.int .i64 j,.int .i64 t21]) h_28 (some (h_7).size) none (PIf ((0:Int)=0)
 (R (.tuple #[.int .i64 t21,.int .i64 133]) h_28)
 (next_2 (IntKind.wrap .i64 (t21+1)) h_28)) fun u2=>∃ (t22:Int),u2=(.int .i64 t22)/\PIf (t22=0)
 (R (.tuple #[.int .i64 t21,.int .i64 133]) h_28)
 (next_2 (IntKind.wrap .i64 (t21+1)) h_28)
def J74_14  (R:Value->Heap->Prop) (h:Heap) (j:Int) (h_7:Heap) (t23:Int) (next_3:(Int->Heap->Prop)) (h_31:Heap):Prop:=
 MapLook (.flat [.int .i64,.int .i64]) (.agg #[(.int .i64 (-1)),.int .i64 t23]) h_31 (some (h_7).size) none (PIf ((0:Int)=0)
 (∃ (A35:Option Addr) (N35 C35:Nat),cellH h_31 (Addr.add ⟨h.size,0,none⟩ 6)=some (.slice A35 N35 C35)/\0≤j/\j<(N35:Nat)/\AtP A35 fun ad6=>∃ (A36:Option Addr) (N36 C36:Nat),cellH h_31 (Addr.add ad6 (Int.toNat j*1))=some (.slice A36 N36 C36)/\R (.tuple #[(.int .i64 (IntKind.wrap .i64 (((N36:Nat):Int)+t23))),.int .i64 133]) h_31)
 (next_3 (IntKind.wrap .i64 (t23+1)) h_31)) fun u3=>∃ (t24:Int),u3=(.int .i64 t24)/\PIf (t24=0)
 (∃ (A37:Option Addr) (N37 C37:Nat),cellH h_31 (Addr.add ⟨h.size,0,none⟩ 6)=some (.slice A37 N37 C37)/\0≤j/\j<(N37:Nat)/\AtP A37 fun ad7=>∃ (A38:Option Addr) (N38 C38:Nat),cellH h_31 (Addr.add ad7 (Int.toNat j*1))=some (.slice A38 N38 C38)/\R (.tuple #[(.int .i64 (IntKind.wrap .i64 (((N38:Nat):Int)+t23))),.int .i64 133]) h_31)
 (next_3 (IntKind.wrap .i64 (t23+1)) h_31)
def J74_13  (R:Value->Heap->Prop) (h_ h_32:Heap):Prop:=
 ∃ (t25:Int),cellH h_32 (Addr.add ⟨h_.size,0,none⟩ 2)=some (.int .i64 t25)/\R (.tuple #[.int .i64 t25,.int .i64 0]) h_32
def B74_16 (R:Value->Heap->Prop) (h:Heap) (j:Int) (h_ h_7:Heap) (N34:Nat) (t23:Int) (h_30:Heap) (next_3:Int->Heap->Prop):Prop:=
 PIf (t23<((N34:Nat):Int))
 (J74_14 R h j h_7 t23 next_3 h_30)
 (J74_13 R h_ h_30)
def J74_10  (R:Value->Heap->Prop) (h:Heap) (j:Int) (h_ h_7 h_29:Heap):Prop:=
 ∃ (A34:Option Addr) (N34 C34:Nat),cellH h_29 (Addr.add ⟨h.size,0,none⟩ 7)=some (.slice A34 N34 C34)/\LoopT (σ:=Int) (fun st_ h_st nx_st=>B74_16 R h j h_ h_7 N34 (st_) h_st nx_st) (0) h_29
def B74_17 (R:Value->Heap->Prop) (h:Heap) (j:Int) (h_ h_7:Heap) (N33:Nat) (t21:Int) (h_27:Heap) (next_2:Int->Heap->Prop):Prop:=
 PIf (t21<((N33:Nat):Int))
 (J74_11 R j h_7 t21 next_2 h_27)
 (J74_10 R h j h_ h_7 h_27)
def J74_3  (R:Value->Heap->Prop) (h:Heap) (j:Int) (h_ h_7 h_26:Heap):Prop:=
 ∃ (A32:Option Addr) (N32 C32:Nat),cellH h_26 (Addr.add ⟨h.size,0,none⟩ 6)=some (.slice A32 N32 C32)/\0≤j/\j<(N32:Nat)/\AtP A32 fun ad5=>∃ (A33:Option Addr) (N33 C33:Nat),cellH h_26 (Addr.add ad5 (Int.toNat j*1))=some (.slice A33 N33 C33)/\LoopT (σ:=Int) (fun st_ h_st nx_st=>B74_17 R h j h_ h_7 N33 (st_) h_st nx_st) (0) h_26
def B74_18 (R:Value->Heap->Prop) (h:Heap) (j:Int) (h_:Heap) (A12:(Option Addr)) (N12 C12:Nat) (h_7:Heap) (t10 t11:Int) (h_9:Heap) (next_:Int->Heap->Prop):Prop:=
 PIf (t11<(((Int.toNat ((N12:Nat):Int)-Int.toNat t10):Nat):Int))
 (J74_4 A12 N12 C12 h_7 t10 t11 next_ h_9)
 (J74_3 R h j h_ h_7 h_9)
def J74_2  (R:Value->Heap->Prop) (h:Heap) (j:Int) (h_:Heap) (A12:(Option Addr)) (N12 C12:Nat) (h_7:Heap):Prop:=
 let h_8:Heap:=(h_7).push (.map #[] 0);∃ (t10:Int),cellH h_8 (Addr.add ⟨h_.size,0,none⟩ 2)=some (.int .i64 t10)/\0≤t10/\t10≤((N12:Nat):Int)/\(((N12:Nat):Int):Int)≤(C12:Nat)/\LoopT (σ:=Int) (fun st_ h_st nx_st=>B74_18 R h j h_ A12 N12 C12 h_7 t10 (st_) h_st nx_st) (0) h_8
def J74_1  (P:Program) (R:Value->Heap->Prop) (h:Heap) (j:Int) (h_:Heap) (A12:(Option Addr)) (N12 C12:Nat) (h_4:Heap):Prop:=
 LdC h_4 ⟨h.size,0,none⟩ fun t6=>0≤((IntKind.wrap .i64 (((N12:Nat):Int)-1)):Int)/\((IntKind.wrap .i64 (((N12:Nat):Int)-1)):Int)<(N12:Nat)/\AtP A12 fun ad=>∃ (A23:Option Addr) (N23 C23:Nat),cellH h_4 (Addr.add (Addr.add ad (Int.toNat (IntKind.wrap .i64 (((N12:Nat):Int)-1))*4)) 0)=some (.slice A23 N23 C23)/\∃ (A24:Option Addr) (N24 C24:Nat),cellH h_4 (Addr.add ⟨h_.size,0,none⟩ 1)=some (.slice A24 N24 C24)/\0≤((IntKind.wrap .i64 (((N12:Nat):Int)-1)):Int)/\((IntKind.wrap .i64 (((N12:Nat):Int)-1)):Int)<(N24:Nat)/\AtP A24 fun ad1=>∃ (A25:Option Addr) (N25 C25:Nat),cellH h_4 (Addr.add ad1 (Int.toNat (IntKind.wrap .i64 (((N12:Nat):Int)-1))*1))=some (.slice A25 N25 C25)/\CallsH P 19 #[t6.v,.slice A23 N23 C23,.slice A25 N25 C25] h_4 fun v1 h_5=>
 ∃ (A26:Option Addr) (N26 C26:Nat) (t7:Int),v1=(.tuple #[.slice A26 N26 C26,.int .i64 t7])/\PIf (t7=0)
 (∃ (t8:Int),cellH h_5 (Addr.add ⟨h_.size,0,none⟩ 2)=some (.int .i64 t8)/\0≤t8/\t8<(N12:Nat)/\AtP A12 fun ad2=>∃ (A27:Option Addr) (N27 C27:Nat),cellH h_5 (Addr.add (Addr.add ad2 (Int.toNat t8*4)) 0)=some (.slice A27 N27 C27)/\CallsH P 101 #[.slice A26 N26 C26,.slice A27 N27 C27] h_5 fun v2 h_6=>
 ∃ (t9:Bool),v2=(.bool t9)/\BIf (!t9) (R (.tuple #[(.int .i64 (IntKind.wrap .i64 (((N12:Nat):Int)-1))),.int .i64 132]) h_6) (J74_2 R h j h_ A12 N12 C12 h_6))
 (R (.tuple #[(.int .i64 (IntKind.wrap .i64 (((N12:Nat):Int)-1))),.int .i64 132]) h_5)
def J74_0  (P:Program) (R:Value->Heap->Prop) (h:Heap) (j:Int) (h_:Heap) (A12:(Option Addr)) (N12 C12:Nat) (h_3:Heap):Prop:=
 ∃ (t5:Int),cellH h_3 (Addr.add ⟨h_.size,0,none⟩ 2)=some (.int .i64 t5)/\PIf (t5<0)
 (R (.tuple #[(.int .i64 (IntKind.wrap .i64 (((N12:Nat):Int)-1))),.int .i64 132]) h_3)
 (J74_1 P R h j h_ A12 N12 C12 h_3)
def VC74 (P:Program) (c:CV) (j:Int) (t:TV) (R:Value->Heap->Prop) (h:Heap):Prop:=
 let h_:Heap:=(h).push (.cells (Value.cells c.v) 29);let h_1:Heap:=(h_).push (.cells (Value.cells t.v) 53);LdC h_1 ⟨h.size,0,none⟩ fun t1=>LdT h_1 ⟨h_.size,0,none⟩ fun t2=>CallsH P 99 #[t1.v,t2.v] h_1 fun v h_2=>
 ∃ (A12:Option Addr) (N12 C12:Nat) (t3 t4:Int),v=(.tuple #[.slice A12 N12 C12,.int .i64 t3,.int .i64 t4])/\PIf (t4=0)
 (J74_0 P R h j h_ A12 N12 C12 h_2)
 (R (.tuple #[.int .i64 t3,.int .i64 t4]) h_2)
theorem run74 (c:CV) (j:Int) (t:TV) (R:Value->Heap->Prop) (h:Heap) (hv:VC74 Try.prog c j t R h):CallsH Try.prog 74 #[c.v,.int .i64 j,t.v] h R:=calls_of_fnC (Checked.mixed Try.checked) Try.func74 comp74 (Nat.le_of_ble_eq_true rfl) (Eq.mp (by kernel_rfl) hv)
def loops97:List (List (Nat×Shp)):=[]
noncomputable def code97:SCode:=((compF Try.prog Try.f97 loops97).elim .skip fun x=>x.2.2)
def ret97:List RV:=[.tmp 2,.tmp 3]
theorem comp97:compF Try.prog Try.f97 loops97=some (18,ret97,code97):=by kernel_rfl
def VC97 (P:Program) (c:CV) (R:Value->Heap->Prop) (h:Heap):Prop:=
 let h_:Heap:=(h).push (.cells (Value.cells c.v) 29);LdC h_ ⟨h.size,0,none⟩ fun t=>CallsH P 52 #[t.v] h_ fun v h_1=>
 ∃ (t1:Option Addr) (t2 t3:Int),v=(.tuple #[.pointer t1,.int .i64 t2,.int .i64 t3])/\PIf (t3=0)
 (CallsH P 111 #[.pointer t1] h_1 fun v1 h_2=>
 ∃ (A10:Option Addr) (N10 C10:Nat),v1=(.slice A10 N10 C10)/\R (.tuple #[.slice A10 N10 C10,.int .i64 0]) h_2)
 (R (.tuple #[.slice none 0 0,.int .i64 t3]) h_1)
theorem run97 (c:CV) (R:Value->Heap->Prop) (h:Heap) (hv:VC97 Try.prog c R h):CallsH Try.prog 97 #[c.v] h R:=calls_of_fnC (Checked.mixed Try.checked) Try.func97 comp97 (Nat.le_of_ble_eq_true rfl) (Eq.mp (by kernel_rfl) hv)
def loops100:List (List (Nat×Shp)):=[]
noncomputable def code100:SCode:=((compF Try.prog Try.f100 loops100).elim .skip fun x=>x.2.2)
def ret100:List RV:=[.tmp 4]
theorem comp100:compF Try.prog Try.f100 loops100=some (9,ret100,code100):=by kernel_rfl
def VC100 (P:Program) (sA:Option Addr) (sN sC:Nat) (v:Int) (R:Value->Heap->Prop) (h:Heap):Prop:=
 CallsH P 116 #[.slice sA sN sC,.int .i64 v] h fun v1 h_=>
 ∃ (t:Int),v1=(.int .i64 t)/\PIf ((0:Int)≤t)
 (R (.bool true) h_)
 (R (.bool false) h_)
theorem run100 (sA:Option Addr) (sN sC:Nat) (v:Int) (R:Value->Heap->Prop) (h:Heap) (hv:VC100 Try.prog sA sN sC v R h):CallsH Try.prog 100 #[.slice sA sN sC,.int .i64 v] h R:=calls_of_fnC (Checked.mixed Try.checked) Try.func100 comp100 (Nat.le_of_ble_eq_true rfl) (Eq.mp (by kernel_rfl) hv)
def loops101:List (List (Nat×Shp)):=[[(13,.int .i64)]]
noncomputable def code101:SCode:=((compF Try.prog Try.f101 loops101).elim .skip fun x=>x.2.2)
def ret101:List RV:=[.tmp 4]
theorem comp101:compF Try.prog Try.f101 loops101=some (26,ret101,code101):=by kernel_rfl
def J101_2  (R:Value->Heap->Prop) (s1A:(Option Addr)) (s1N:Nat) (s2A:(Option Addr)) (s2N:Nat) (t:Int) (next_:(Int->Heap->Prop)) (h_2:Heap):Prop:=
 0≤t/\t<(s1N:Nat)/\AtP s1A fun ad=>∃ (t1:Bool),cellH h_2 (Addr.add ad (Int.toNat t*1))=some (.bool t1)/\0≤t/\t<(s2N:Nat)/\AtP s2A fun ad1=>∃ (t2:Bool),cellH h_2 (Addr.add ad1 (Int.toNat t*1))=some (.bool t2)/\PIf ((t1:Bool)=t2)
 (next_ (IntKind.wrap .i64 (t+1)) h_2)
 (R (.bool false) h_2)
def J101_1  (R:Value->Heap->Prop) (h_3:Heap):Prop:=
 R (.bool true) h_3
def B101_4 (R:Value->Heap->Prop) (s1A:(Option Addr)) (s1N:Nat) (s2A:(Option Addr)) (s2N:Nat) (t:Int) (h_1:Heap) (next_:Int->Heap->Prop):Prop:=
 PIf (t<((s1N:Nat):Int))
 (J101_2 R s1A s1N s2A s2N t next_ h_1)
 (J101_1 R h_1)
def J101_0  (R:Value->Heap->Prop) (s1A:(Option Addr)) (s1N:Nat) (s2A:(Option Addr)) (s2N:Nat) (h_:Heap):Prop:=
 LoopT (σ:=Int) (fun st_ h_st nx_st=>B101_4 R s1A s1N s2A s2N (st_) h_st nx_st) (0) h_
def VC101 (P:Program) (s1A:Option Addr) (s1N s1C:Nat) (s2A:Option Addr) (s2N s2C:Nat) (R:Value->Heap->Prop) (h:Heap):Prop:=
 PIf ((((s1N:Nat):Int):Int)=((s2N:Nat):Int))
 (J101_0 R s1A s1N s2A s2N h)
 (R (.bool false) h)
theorem run101 (s1A:Option Addr) (s1N s1C:Nat) (s2A:Option Addr) (s2N s2C:Nat) (R:Value->Heap->Prop) (h:Heap) (hv:VC101 Try.prog s1A s1N s1C s2A s2N s2C R h):CallsH Try.prog 101 #[.slice s1A s1N s1C,.slice s2A s2N s2C] h R:=calls_of_fnC (Checked.mixed Try.checked) Try.func101 comp101 (Nat.le_of_ble_eq_true rfl) (Eq.mp (by kernel_rfl) hv)
def loops60:List (List (Nat×Shp)):=[]
noncomputable def code60:SCode:=((compF Try.prog Try.f60 loops60).elim .skip fun x=>x.2.2)
def ret60:List RV:=[.tmp 4]
theorem comp60:compF Try.prog Try.f60 loops60=some (9,ret60,code60):=by kernel_rfl
def VC60 (P:Program) (sA:Option Addr) (sN sC:Nat) (f:Value) (R:Value->Heap->Prop) (h:Heap):Prop:=
 CallsH P 91 #[.slice sA sN sC,f] h fun v h_=>
 ∃ (t:Int),v=(.int .i64 t)/\PIf ((0:Int)≤t)
 (R (.bool true) h_)
 (R (.bool false) h_)
theorem run60 (sA:Option Addr) (sN sC:Nat) (f:Value) (R:Value->Heap->Prop) (h:Heap) (hv:VC60 Try.prog sA sN sC f R h):CallsH Try.prog 60 #[.slice sA sN sC,f] h R:=calls_of_fnC (Checked.mixed Try.checked) Try.func60 comp60 (Nat.le_of_ble_eq_true rfl) (Eq.mp (by kernel_rfl) hv)
def loops116:List (List (Nat×Shp)):=[[(8,.int .i64)]]
noncomputable def code116:SCode:=((compF Try.prog Try.f116 loops116).elim .skip fun x=>x.2.2)
def ret116:List RV:=[.tmp 4]
theorem comp116:compF Try.prog Try.f116 loops116=some (19,ret116,code116):=by kernel_rfl
def J116_1  (R:Value->Heap->Prop) (sA:(Option Addr)) (sN:Nat) (v t:Int) (next_:(Int->Heap->Prop)) (h_1:Heap):Prop:=
 0≤t/\t<(sN:Nat)/\AtP sA fun ad=>∃ (t1:Int),cellH h_1 (Addr.add ad (Int.toNat t*1))=some (.int .i64 t1)/\PIf (v=t1)
 (R (.int .i64 t) h_1)
 (next_ (IntKind.wrap .i64 (t+1)) h_1)
def J116_0  (R:Value->Heap->Prop) (h_2:Heap):Prop:=
 R (.int .i64 (-1)) h_2
def B116_3 (R:Value->Heap->Prop) (sA:(Option Addr)) (sN:Nat) (v t:Int) (h_:Heap) (next_:Int->Heap->Prop):Prop:=
 PIf (t<((sN:Nat):Int))
 (J116_1 R sA sN v t next_ h_)
 (J116_0 R h_)
def VC116 (P:Program) (sA:Option Addr) (sN sC:Nat) (v:Int) (R:Value->Heap->Prop) (h:Heap):Prop:=
 LoopT (σ:=Int) (fun st_ h_st nx_st=>B116_3 R sA sN v (st_) h_st nx_st) (0) h
theorem run116 (sA:Option Addr) (sN sC:Nat) (v:Int) (R:Value->Heap->Prop) (h:Heap) (hv:VC116 Try.prog sA sN sC v R h):CallsH Try.prog 116 #[.slice sA sN sC,.int .i64 v] h R:=calls_of_fnC (Checked.mixed Try.checked) Try.func116 comp116 (Nat.le_of_ble_eq_true rfl) (Eq.mp (by kernel_rfl) hv)
def loops91:List (List (Nat×Shp)):=[[(8,.int .i64)]]
noncomputable def code91:SCode:=((compF Try.prog Try.f91 loops91).elim .skip fun x=>x.2.2)
def ret91:List RV:=[.tmp 4]
theorem comp91:compF Try.prog Try.f91 loops91=some (19,ret91,code91):=by kernel_rfl
def J91_1  (P:Program) (R:Value->Heap->Prop) (sA:(Option Addr)) (sN:Nat) (f:Value) (t:Int) (next_:(Int->Heap->Prop)) (h_1:Heap):Prop:=
 0≤t/\t<(sN:Nat)/\AtP sA fun ad=>∃ (t1:Int),cellH h_1 (Addr.add ad (Int.toNat t*1))=some (.int .i64 t1)/\CallV P f [.int .i64 t1] h_1 fun v h_2=>
 ∃ (t2:Bool),v=(.bool t2)/\BIf t2 (R (.int .i64 t) h_2) (next_ (IntKind.wrap .i64 (t+1)) h_2)
def J91_0  (R:Value->Heap->Prop) (h_3:Heap):Prop:=
 R (.int .i64 (-1)) h_3
def B91_3 (P:Program) (R:Value->Heap->Prop) (sA:(Option Addr)) (sN:Nat) (f:Value) (t:Int) (h_:Heap) (next_:Int->Heap->Prop):Prop:=
 PIf (t<((sN:Nat):Int))
 (J91_1 P R sA sN f t next_ h_)
 (J91_0 R h_)
def VC91 (P:Program) (sA:Option Addr) (sN sC:Nat) (f:Value) (R:Value->Heap->Prop) (h:Heap):Prop:=
 LoopT (σ:=Int) (fun st_ h_st nx_st=>B91_3 P R sA sN f (st_) h_st nx_st) (0) h
theorem run91 (sA:Option Addr) (sN sC:Nat) (f:Value) (R:Value->Heap->Prop) (h:Heap) (hv:VC91 Try.prog sA sN sC f R h):CallsH Try.prog 91 #[.slice sA sN sC,f] h R:=calls_of_fnC (Checked.mixed Try.checked) Try.func91 comp91 (Nat.le_of_ble_eq_true rfl) (Eq.mp (by kernel_rfl) hv)
end Go.Proofs.Ytdpbdjdgdmheiaa
