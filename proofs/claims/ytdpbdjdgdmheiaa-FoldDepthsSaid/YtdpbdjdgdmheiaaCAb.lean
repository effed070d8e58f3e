/- Words and facts that the claim's proof leans on. No condition. -/
import Derived.Test.YtdpbdjdgdmheiaaHxV
import Derived.Test.YtdpbdjdgdmheiaaChecked
set_option maxRecDepth 100000
set_option linter.unusedVariables false
namespace Go.Proofs.Ytdpbdjdgdmheiaa
open Go.Hx
def loops11:List (List (Nat×Shp)):=[[(9,.int .i64),(78,.int .i64)],[(90,.int .i64)]]
noncomputable def code11:SCode:=((compF Try.prog Try.f11 loops11).elim .skip fun x=>x.2.2)
def ret11:List RV:=[.cellN 2 [.int .i64,.slice,.slice,.slice,.slice,.slice,.slice,.slice,.slice,.slice,.slice],.tmp 3]
theorem comp11:compF Try.prog Try.f11 loops11=some (151,ret11,code11):=by kernel_rfl
def J11_3  (P:Program) (t10:(Option Addr)) (A75:(Option Addr)) (N75:Nat) (good t13:Int) (next_:(Int×Int->Heap->Prop)) (h_13:Heap):Prop:=
 0≤t13/\t13<(N75:Nat)/\AtP A75 fun ad3=>∃ (t14:Int),cellH h_13 (Addr.add ad3 (Int.toNat t13*1))=some (.int .i64 t14)/\CallsH P 31 #[.pointer t10,.int .i64 good,.int .i64 t14] h_13 fun v2 h_14=>
 ∃ (t15:Int),v2=(.int .i64 t15)/\next_ (t15,(IntKind.wrap .i64 (t13+1))) h_14
def J11_6  (P:Program) (t10:(Option Addr)) (good1:Int) (A76:(Option Addr)) (N76:Nat) (t16:Int) (next_1:(Int->Heap->Prop)) (h_17:Heap):Prop:=
 0≤t16/\t16<(N76:Nat)/\AtP A76 fun ad4=>∃ (t17:Int),cellH h_17 (Addr.add ad4 (Int.toNat t16*1))=some (.int .i64 t17)/\∃ zn:Zone,AtP t10 fun ad5=>Zone.hasL zn h_17 (Addr.add (Addr.add ad5 0) 4)/\∃ (A77:Option Addr) (N77 C77:Nat),cellH h_17 (Addr.add (Addr.add ad5 0) 4)=some (.slice A77 N77 C77)/\CallsH P 31 #[.pointer t10,.int .i64 t17,.int .i64 good1] h_17 fun v3 h_18=>
 ∃ (t18:Int),v3=(.int .i64 t18)/\Zone.r zn h_17 h_18/\0≤t16/\t16<(N77:Nat)/\AtP A77 fun ad6=>StoreH h_18 (Addr.add ad6 (Int.toNat t16*1)) [.int .i64 t18] fun h_19=>next_1 (IntKind.wrap .i64 (t16+1)) h_19
def J11_5  (P:Program) (R:Value->Heap->Prop) (h_:Heap) (t10:(Option Addr)) (t12 good1:Int) (h_20:Heap):Prop:=
 AtP t10 fun ad7=>∃ (A78:Option Addr) (N78 C78:Nat),cellH h_20 (Addr.add (Addr.add ad7 0) 2)=some (.slice A78 N78 C78)/\let h_21:Heap:=(h_20).push (.cells #[(.int .i64 (IntKind.wrap .i64 (2*t12))),.int .i64 good1,.int .i64 1] 63);∃ ys:List Value,ReadL h_21 (some ⟨h_20.size,0,none⟩) ys/\ys.length=1*3/\AppS h_21 A78 N78 C78 63 24 3 #[.int .i64 0,.int .i64 0,.int .i64 0] ys 1 fun apA apN apC h_22=>AtP t10 fun ad8=>StoreH h_22 (Addr.add (Addr.add ad8 0) 2) [.slice apA apN apC] fun h_23=>AtP t10 fun ad9=>∃ (A79:Option Addr) (N79 C79:Nat),cellH h_23 (Addr.add (Addr.add ad9 0) 7)=some (.slice A79 N79 C79)/\let h_24:Heap:=(h_23).push (.cells #[.int .i64 good1] 3);∃ ys1:List Value,ReadL h_24 (some ⟨h_23.size,0,none⟩) ys1/\ys1.length=1*1/\AppS h_24 A79 N79 C79 3 8 1 #[.int .i64 0] ys1 1 fun apA1 apN1 apC1 h_25=>AtP t10 fun ad10=>StoreH h_25 (Addr.add (Addr.add ad10 0) 7) [.slice apA1 apN1 apC1] fun h_26=>AtP t10 fun ad11=>StoreH h_26 (Addr.add (Addr.add ad11 0) 5) [.slice none 0 0] fun h_27=>AtP t10 fun ad12=>∃ (A80:Option Addr) (N80 C80:Nat),cellH h_27 (Addr.add (Addr.add ad12 0) 9)=some (.slice A80 N80 C80)/\CallsH P 32 #[.slice A80 N80 C80,(.func (.func 33) #[] #[])] h_27 fun v4 h_28=>
 ∃ (A81:Option Addr) (N81 C81:Nat),v4=(.slice A81 N81 C81)/\AtP t10 fun ad13=>StoreH h_28 (Addr.add (Addr.add ad13 0) 9) [.slice A81 N81 C81] fun h_29=>AtP t10 fun ad14=>LdC h_29 (Addr.add ad14 0) fun t19=>StoreH h_29 ⟨h_.size,0,none⟩ t19.cs fun h_30=>LdC h_30 ⟨h_.size,0,none⟩ fun t20=>R (.tuple #[t20.v,.int .i64 0]) h_30
def B11_8 (P:Program) (R:Value->Heap->Prop) (h_:Heap) (t10:(Option Addr)) (t12 good1:Int) (A76:(Option Addr)) (N76:Nat) (t16:Int) (h_16:Heap) (next_1:Int->Heap->Prop):Prop:=
 PIf (t16<((N76:Nat):Int))
 (J11_6 P t10 good1 A76 N76 t16 next_1 h_16)
 (J11_5 P R h_ t10 t12 good1 h_16)
def J11_2  (P:Program) (R:Value->Heap->Prop) (h h_:Heap) (t10:(Option Addr)) (t12 good1:Int) (h_15:Heap):Prop:=
 ∃ (A76:Option Addr) (N76 C76:Nat),cellH h_15 (Addr.add ⟨h.size,0,none⟩ 4)=some (.slice A76 N76 C76)/\LoopT (σ:=Int) (fun st_ h_st nx_st=>B11_8 P R h_ t10 t12 good1 A76 N76 (st_) h_st nx_st) (0) h_15
def B11_9 (P:Program) (R:Value->Heap->Prop) (h h_:Heap) (t10:(Option Addr)) (t12:Int) (A75:(Option Addr)) (N75:Nat) (good t13:Int) (h_12:Heap) (next_:Int×Int->Heap->Prop):Prop:=
 PIf (t13<((N75:Nat):Int))
 (J11_3 P t10 A75 N75 good t13 next_ h_12)
 (J11_2 P R h h_ t10 t12 (good) h_12)
def J11_1  (P:Program) (R:Value->Heap->Prop) (h h_ h_9:Heap):Prop:=
 LdC h_9 ⟨h.size,0,none⟩ fun t9=>CallsH P 30 #[t9.v] h_9 fun v1 h_10=>
 ∃ (t10:Option Addr),v1=(.pointer t10)/\AtP t10 fun ad=>∃ (t11:Int),cellH h_10 (Addr.add (Addr.add ad 0) 0)=some (.int .i64 t11)/\AtP t10 fun ad1=>StoreH h_10 (Addr.add (Addr.add ad1 0) 0) [(.int .i64 (IntKind.wrap .i64 (t11+1)))] fun h_11=>AtP t10 fun ad2=>∃ (t12:Int),cellH h_11 (Addr.add (Addr.add ad2 0) 0)=some (.int .i64 t12)/\∃ (A75:Option Addr) (N75 C75:Nat),cellH h_11 (Addr.add ⟨h.size,0,none⟩ 5)=some (.slice A75 N75 C75)/\LoopT (σ:=Int×Int) (fun st_ h_st nx_st=>B11_9 P R h h_ t10 t12 A75 N75 (st_.1) (st_.2) h_st nx_st) ((IntKind.wrap .i64 (2*t12)),0) h_11
def J11_0  (P:Program) (R:Value->Heap->Prop) (h h_ h_4:Heap):Prop:=
 ∃ (A20:Option Addr) (N20 C20:Nat),cellH h_4 (Addr.add ⟨h.size,0,none⟩ 5)=some (.slice A20 N20 C20)/\∃ (A21:Option Addr) (N21 C21:Nat),cellH h_4 (Addr.add ⟨h.size,0,none⟩ 4)=some (.slice A21 N21 C21)/\∃ (t4:Int),cellH h_4 (Addr.add ⟨h.size,0,none⟩ 0)=some (.int .i64 t4)/\PIf ((16384:Int)<(IntKind.wrap .i64 ((IntKind.wrap .i64 (t4+1))+(IntKind.wrap .i64 (((N20:Nat):Int)+((N21:Nat):Int))))))
 (StoreH h_4 ⟨h_.size,0,none⟩ CV.zero.cs fun h_5=>LdC h_5 ⟨h_.size,0,none⟩ fun t5=>R (.tuple #[t5.v,.int .i64 2]) h_5)
 (∃ (A32:Option Addr) (N32 C32:Nat),cellH h_4 (Addr.add ⟨h.size,0,none⟩ 2)=some (.slice A32 N32 C32)/\PIf ((16384:Int)≤((N32:Nat):Int))
 (StoreH h_4 ⟨h_.size,0,none⟩ CV.zero.cs fun h_6=>LdC h_6 ⟨h_.size,0,none⟩ fun t6=>R (.tuple #[t6.v,.int .i64 2]) h_6)
 (∃ (A43:Option Addr) (N43 C43:Nat),cellH h_4 (Addr.add ⟨h.size,0,none⟩ 7)=some (.slice A43 N43 C43)/\PIf ((16384:Int)≤((N43:Nat):Int))
 (StoreH h_4 ⟨h_.size,0,none⟩ CV.zero.cs fun h_7=>LdC h_7 ⟨h_.size,0,none⟩ fun t7=>R (.tuple #[t7.v,.int .i64 2]) h_7)
 (∃ (A54:Option Addr) (N54 C54:Nat),cellH h_4 (Addr.add ⟨h.size,0,none⟩ 8)=some (.slice A54 N54 C54)/\PIf ((16384:Int)<(IntKind.wrap .i64 (((N54:Nat):Int)+(IntKind.wrap .i64 (((N20:Nat):Int)+((N21:Nat):Int))))))
 (StoreH h_4 ⟨h_.size,0,none⟩ CV.zero.cs fun h_8=>LdC h_8 ⟨h_.size,0,none⟩ fun t8=>R (.tuple #[t8.v,.int .i64 2]) h_8)
 (J11_1 P R h h_ h_4))))
def VC11 (P:Program) (c:CV) (R:Value->Heap->Prop) (h:Heap):Prop:=
 let h_:Heap:=(h).push (.cells (Value.cells c.v) 29);let h_1:Heap:=(h_).push (.cells CV.zero.cs.toArray 29);LdC h_1 ⟨h.size,0,none⟩ fun t=>CallsH P 27 #[t.v] h_1 fun v h_2=>
 ∃ (t1 t2:Int),v=(.tuple #[.int .i64 t1,.int .i64 t2])/\PIf (t2=0)
 (J11_0 P R h h_ h_2)
 (StoreH h_2 ⟨h_.size,0,none⟩ CV.zero.cs fun h_3=>LdC h_3 ⟨h_.size,0,none⟩ fun t3=>R (.tuple #[t3.v,.int .i64 t2]) h_3)
theorem run11 (c:CV) (R:Value->Heap->Prop) (h:Heap) (hv:VC11 Try.prog c R h):CallsH Try.prog 11 #[c.v] h R:=calls_of_fnC (Checked.mixed Try.checked) Try.func11 comp11 (Nat.le_of_ble_eq_true rfl) (Eq.mp (by kernel_rfl) hv)
def loops10:List (List (Nat×Shp)):=[]
noncomputable def code10:SCode:=((compF Try.prog Try.f10 loops10).elim .skip fun x=>x.2.2)
def ret10:List RV:=[.tmp 0]
theorem comp10:compF Try.prog Try.f10 loops10=some (55,ret10,code10):=by kernel_rfl
def VC10 (P:Program) (R:Value->Heap->Prop) (h:Heap):Prop:=
 let h_:Heap:=(h).push (.cells #[.int .i64 2] 3);let h_1:Heap:=(h_).push (.cells #[.int .i64 4,.int .i64 2,.int .i64 0] 63);let h_2:Heap:=(h_1).push (.cells #[.int .i64 4] 3);let h_3:Heap:=(h_2).push (.cells #[.int .i64 3] 3);let h_4:Heap:=(h_3).push (.cells CV.zero.cs.toArray 29);StoreH h_4 ⟨h_3.size,0,none⟩ [.int .i64 2,(.slice (some ⟨h.size,0,none⟩) 1 1),(.slice (some ⟨h_.size,0,none⟩) 1 1),.slice none 0 0,(.slice (some ⟨h_1.size,0,none⟩) 1 1),(.slice (some ⟨h_2.size,0,none⟩) 1 1),.slice none 0 0,.slice none 0 0,.slice none 0 0,.slice none 0 0,.slice none 0 0] fun h_5=>LdC h_5 ⟨h_3.size,0,none⟩ fun t=>CallsH P 11 #[t.v] h_5 fun v h_6=>
 ExCi fun t1=>∃ (t2:Int),v=(.tuple #[t1.v,.int .i64 t2])/\let h_7:Heap:=(h_6).push (.cells CV.zero.cs.toArray 29);StoreH h_7 ⟨h_6.size,0,none⟩ t1.cs fun h_8=>PIf (t2=0)
 (∃ (t3:Int),cellH h_8 (Addr.add ⟨h_6.size,0,none⟩ 0)=some (.int .i64 t3)/\PIf (t3=5)
 (∃ (A20:Option Addr) (N20 C20:Nat),cellH h_8 (Addr.add ⟨h_6.size,0,none⟩ 2)=some (.slice A20 N20 C20)/\PIf ((((N20:Nat):Int):Int)=2)
 (∃ (A21:Option Addr) (N21 C21:Nat),cellH h_8 (Addr.add ⟨h_6.size,0,none⟩ 2)=some (.slice A21 N21 C21)/\0≤(1:Int)/\(1:Int)<(N21:Nat)/\AtP A21 fun ad=>∃ (t4 t5 t6:Int),cellsH h_8 (Addr.add ad (Int.toNat 1*3)) 0 [.int .i64 t4,.int .i64 t5,.int .i64 t6]/\PIf ((#[.int .i64 t4,.int .i64 t5,.int .i64 t6]:Array Value)=#[.int .i64 6,.int .i64 8,.int .i64 1])
 (∃ (A22:Option Addr) (N22 C22:Nat),cellH h_8 (Addr.add ⟨h_6.size,0,none⟩ 4)=some (.slice A22 N22 C22)/\PIf ((((N22:Nat):Int):Int)=1)
 (∃ (A23:Option Addr) (N23 C23:Nat),cellH h_8 (Addr.add ⟨h_6.size,0,none⟩ 4)=some (.slice A23 N23 C23)/\0≤(0:Int)/\(0:Int)<(N23:Nat)/\AtP A23 fun ad1=>∃ (t7:Int),cellH h_8 (Addr.add ad1 (Int.toNat 0*1))=some (.int .i64 t7)/\PIf (t7=10)
 (∃ (A24:Option Addr) (N24 C24:Nat),cellH h_8 (Addr.add ⟨h_6.size,0,none⟩ 5)=some (.slice A24 N24 C24)/\PIf ((((N24:Nat):Int):Int)=0)
 (R (.bool true) h_8)
 (R (.bool false) h_8))
 (R (.bool false) h_8))
 (R (.bool false) h_8))
 (R (.bool false) h_8))
 (R (.bool false) h_8))
 (R (.bool false) h_8))
 (R (.bool false) h_8)
theorem run10 (R:Value->Heap->Prop) (h:Heap) (hv:VC10 Try.prog R h):CallsH Try.prog 10 #[] h R:=calls_of_fnC (Checked.mixed Try.checked) Try.func10 comp10 (Nat.le_of_ble_eq_true rfl) (Eq.mp (by kernel_rfl) hv)
def loops30:List (List (Nat×Shp)):=[]
noncomputable def code30:SCode:=((compF Try.prog Try.f30 loops30).elim .skip fun x=>x.2.2)
def ret30:List RV:=[.tmp 2]
theorem comp30:compF Try.prog Try.f30 loops30=some (25,ret30,code30):=by kernel_rfl
def VC30 (P:Program) (c:CV) (R:Value->Heap->Prop) (h:Heap):Prop:=
 let h_:Heap:=(h).push (.cells (Value.cells c.v) 29);LdC h_ ⟨h.size,0,none⟩ fun t=>CallsH P 55 #[t.v] h_ fun v h_1=>
 ExCi fun t1=>v=t1.v/\let h_2:Heap:=(h_1).push (.cells (Value.cells t1.v) 67);∃ (A20:Option Addr) (N20 C20:Nat),cellH h_2 (Addr.add ⟨h.size,0,none⟩ 4)=some (.slice A20 N20 C20)/\0≤(((N20:Nat):Int):Int)/\(((N20:Nat):Int):Int)≤((N20:Nat):Int)/\(8:Int)*((N20:Nat):Int)≤281474976710656/\let h_3:Heap:=(h_2).push (.cells (zeroRow #[.int .i64 0] (Int.toNat ((N20:Nat):Int)*1)).toArray 3);StoreH h_3 (Addr.add (Addr.add ⟨h_1.size,0,none⟩ 0) 4) [(.slice (some ⟨h_2.size,0,none⟩) (Int.toNat ((N20:Nat):Int)) (Int.toNat ((N20:Nat):Int)))] fun h_4=>∃ (A21:Option Addr) (N21 C21:Nat),cellH h_4 (Addr.add (Addr.add ⟨h_1.size,0,none⟩ 0) 4)=some (.slice A21 N21 C21)/\∃ (A22:Option Addr) (N22 C22:Nat),cellH h_4 (Addr.add ⟨h.size,0,none⟩ 4)=some (.slice A22 N22 C22)/\∃ ys:List Value,ReadL h_4 A22 ys/\ys.length=(min N22 N21)*1/\CpyH h_4 A21 ys fun h_5=>R (.pointer (some ⟨h_1.size,0,none⟩)) h_5
theorem run30 (c:CV) (R:Value->Heap->Prop) (h:Heap) (hv:VC30 Try.prog c R h):CallsH Try.prog 30 #[c.v] h R:=calls_of_fnC (Checked.mixed Try.checked) Try.func30 comp30 (Nat.le_of_ble_eq_true rfl) (Eq.mp (by kernel_rfl) hv)
def loops31:List (List (Nat×Shp)):=[]
noncomputable def code31:SCode:=((compF Try.prog Try.f31 loops31).elim .skip fun x=>x.2.2)
def ret31:List RV:=[.tmp 6]
theorem comp31:compF Try.prog Try.f31 loops31=some (46,ret31,code31):=by kernel_rfl
def VC31 (P:Program) (f:Option Addr) (x y:Int) (R:Value->Heap->Prop) (h:Heap):Prop:=
 AtP f fun ad=>∃ (t:Int),cellH h (Addr.add (Addr.add ad 0) 0)=some (.int .i64 t)/\AtP f fun ad1=>StoreH h (Addr.add (Addr.add ad1 0) 0) [(.int .i64 (IntKind.wrap .i64 (t+1)))] fun h_=>AtP f fun ad2=>(Addr.block (Addr.add (Addr.add ad2 0) 8))<(h_).size/\∃ (A:Option Addr) (N C:Nat),cellH h_ (Addr.add (Addr.add ad2 0) 8)=some (.slice A N C)/\AtP f fun ad3=>(Addr.block (Addr.add (Addr.add ad3 0) 0))<(h_).size/\∃ (t1:Int),cellH h_ (Addr.add (Addr.add ad3 0) 0)=some (.int .i64 t1)/\let h_1:Heap:=(h_).push (.cells #[(.int .i64 (IntKind.wrap .i64 (2*t1))),(.int .i64 (max (x:Int) y)),(.int .i64 (min (x:Int) y))] 120);AgreeH (h_).size h_ h_1/\∃ ys:List Value,ReadL h_1 (some ⟨h_.size,0,none⟩) ys/\ys.length=1*3/\AppS h_1 A N C 120 24 3 #[.int .i64 0,.int .i64 0,.int .i64 0] ys 1 fun apA apN apC h_2=>AtP f fun ad4=>StoreH h_2 (Addr.add (Addr.add ad4 0) 8) [.slice apA apN apC] fun h_3=>AtP f fun ad5=>∃ (t2:Int),cellH h_3 (Addr.add (Addr.add ad5 0) 0)=some (.int .i64 t2)/\R (.int .i64 (IntKind.wrap .i64 (2*t2))) h_3
theorem run31 (f:Option Addr) (x y:Int) (R:Value->Heap->Prop) (h:Heap) (hv:VC31 Try.prog f x y R h):CallsH Try.prog 31 #[.pointer f,.int .i64 x,.int .i64 y] h R:=calls_of_fnC (Checked.mixed Try.checked) Try.func31 comp31 (Nat.le_of_ble_eq_true rfl) (Eq.mp (by kernel_rfl) hv)
def loops32:List (List (Nat×Shp)):=[[(5,.int .i64),(6,.int .i64)]]
noncomputable def code32:SCode:=((compF Try.prog Try.f32 loops32).elim .skip fun x=>x.2.2)
def ret32:List RV:=[.tmp 4]
theorem comp32:compF Try.prog Try.f32 loops32=some (42,ret32,code32):=by kernel_rfl
def J32_2  (P:Program) (sA:(Option Addr)) (sN:Nat) (del:Value) (i j:Int) (next_:(Int×Int->Heap->Prop)) (h_3:Heap):Prop:=
 0≤j/\j<(sN:Nat)/\AtP sA fun ad=>∃ (t1 t2:Int) (t3:ByteArray),cellsH h_3 (Addr.add ad (Int.toNat j*3)) 0 [.int .u8 t1,.int .i64 t2,.string t3]/\let h_4:Heap:=(h_3).push (.cells #[.int .u8 0,.int .i64 0,(.string (ByteArray.mk #[]))] 71);StoreH h_4 ⟨h_3.size,0,none⟩ [.int .u8 t1,.int .i64 t2,.string t3] fun h_5=>∃ (t4 t5:Int) (t6:ByteArray),cellsH h_5 ⟨h_3.size,0,none⟩ 0 [.int .u8 t4,.int .i64 t5,.string t6]/\CallV P del [(.agg #[.int .u8 t4,.int .i64 t5,.string t6])] h_5 fun v1 h_6=>
 ∃ (t7:Bool),v1=(.bool t7)/\BIf (!t7) (∃ (t8 t9:Int) (t10:ByteArray),cellsH h_6 ⟨h_3.size,0,none⟩ 0 [.int .u8 t8,.int .i64 t9,.string t10]/\0≤i/\i<(sN:Nat)/\AtP sA fun ad1=>StoreH h_6 (Addr.add ad1 (Int.toNat i*3)) [.int .u8 t8,.int .i64 t9,.string t10] fun h_7=>next_ ((IntKind.wrap .i64 (i+1)),(IntKind.wrap .i64 (j+1))) h_7) (next_ (i,(IntKind.wrap .i64 (j+1))) h_6)
def J32_1  (R:Value->Heap->Prop) (sA:(Option Addr)) (sN sC:Nat) (i1:Int) (h_8:Heap):Prop:=
 0≤i1/\i1≤((sN:Nat):Int)/\(((sN:Nat):Int):Int)≤(sC:Nat)/\CpyH h_8 (cutA 3 sA sC (Int.toNat i1)) (zeroRow #[.int .u8 0,.int .i64 0,(.string (ByteArray.mk #[]))] ((Int.toNat ((sN:Nat):Int)-Int.toNat i1)*3)) fun h_9=>0≤(0:Int)/\(0:Int)≤i1/\i1≤(sC:Nat)/\R (.slice (cutA 3 sA sC (Int.toNat 0)) (Int.toNat i1-Int.toNat 0) (sC-Int.toNat 0)) h_9
def B32_3 (P:Program) (R:Value->Heap->Prop) (sA:(Option Addr)) (sN sC:Nat) (del:Value) (i j:Int) (h_2:Heap) (next_:Int×Int->Heap->Prop):Prop:=
 PIf (j<((sN:Nat):Int))
 (J32_2 P sA sN del i j next_ h_2)
 (J32_1 R sA sN sC (i) h_2)
def J32_0  (P:Program) (R:Value->Heap->Prop) (sA:(Option Addr)) (sN sC:Nat) (del:Value) (t:Int) (h_1:Heap):Prop:=
 LoopT (σ:=Int×Int) (fun st_ h_st nx_st=>B32_3 P R sA sN sC del (st_.1) (st_.2) h_st nx_st) (t,(IntKind.wrap .i64 (t+1))) h_1
def VC32 (P:Program) (sA:Option Addr) (sN sC:Nat) (del:Value) (R:Value->Heap->Prop) (h:Heap):Prop:=
 CallsH P 56 #[.slice sA sN sC,del] h fun v h_=>
 ∃ (t:Int),v=(.int .i64 t)/\PIf (t=(-1))
 (R (.slice sA sN sC) h_)
 (J32_0 P R sA sN sC del t h_)
theorem run32 (sA:Option Addr) (sN sC:Nat) (del:Value) (R:Value->Heap->Prop) (h:Heap) (hv:VC32 Try.prog sA sN sC del R h):CallsH Try.prog 32 #[.slice sA sN sC,del] h R:=calls_of_fnC (Checked.mixed Try.checked) Try.func32 comp32 (Nat.le_of_ble_eq_true rfl) (Eq.mp (by kernel_rfl) hv)
def loops33:List (List (Nat×Shp)):=[]
noncomputable def code33:SCode:=((compF Try.prog Try.f33 loops33).elim .skip fun x=>x.2.2)
def ret33:List RV:=[.tmp 2]
theorem comp33:compF Try.prog Try.f33 loops33=some (6,ret33,code33):=by kernel_rfl
def VC33 (P:Program) (s s1:Int) (s2:ByteArray) (R:Value->Heap->Prop) (h:Heap):Prop:=
 let h_:Heap:=(h).push (.cells (Value.cells (.agg #[.int .u8 s,.int .i64 s1,.string s2])) 71);∃ (t:Int),cellH h_ (Addr.add ⟨h.size,0,none⟩ 0)=some (.int .u8 t)/\PIf (t=99)
 (R (.bool true) h_)
 (R (.bool false) h_)
theorem run33 (s s1:Int) (s2:ByteArray) (R:Value->Heap->Prop) (h:Heap) (hv:VC33 Try.prog s s1 s2 R h):CallsH Try.prog 33 #[(.agg #[.int .u8 s,.int .i64 s1,.string s2])] h R:=calls_of_fnC (Checked.mixed Try.checked) Try.func33 comp33 (Nat.le_of_ble_eq_true rfl) (Eq.mp (by kernel_rfl) hv)
def loops55:List (List (Nat×Shp)):=[[(50,.int .i64)]]
noncomputable def code55:SCode:=((compF Try.prog Try.f55 loops55).elim .skip fun x=>x.2.2)
def ret55:List RV:=[.cellN 2 [.int .i64,.slice,.slice,.slice,.slice,.slice,.slice,.slice,.slice,.slice,.slice]]
theorem comp55:compF Try.prog Try.f55 loops55=some (63,ret55,code55):=by kernel_rfl
def J55_1  (P:Program) (h_1:Heap) (A30:(Option Addr)) (N30:Nat) (t1:Int) (next_:(Int->Heap->Prop)) (h_25:Heap):Prop:=
 0≤t1/\t1<(N30:Nat)/\AtP A30 fun ad=>∃ (A31:Option Addr) (N31 C31:Nat),cellH h_25 (Addr.add ad (Int.toNat t1*1))=some (.slice A31 N31 C31)/\(Addr.block (Addr.add ⟨h_1.size,0,none⟩ 6))<(h_25).size/\∃ (A32:Option Addr) (N32 C32:Nat),cellH h_25 (Addr.add ⟨h_1.size,0,none⟩ 6)=some (.slice A32 N32 C32)/\CallsH P 85 #[.slice A31 N31 C31] h_25 fun v10 h_26=>
 ∃ (A33:Option Addr) (N33 C33:Nat),v10=(.slice A33 N33 C33)/\AgreeH (h_25).size h_25 h_26/\0≤t1/\t1<(N32:Nat)/\AtP A32 fun ad1=>StoreH h_26 (Addr.add ad1 (Int.toNat t1*1)) [.slice A33 N33 C33] fun h_27=>next_ (IntKind.wrap .i64 (t1+1)) h_27
def J55_0  (R:Value->Heap->Prop) (h_ h_1 h_28:Heap):Prop:=
 LdC h_28 ⟨h_1.size,0,none⟩ fun t2=>StoreH h_28 ⟨h_.size,0,none⟩ t2.cs fun h_29=>LdC h_29 ⟨h_.size,0,none⟩ fun t3=>R t3.v h_29
def B55_3 (P:Program) (R:Value->Heap->Prop) (h_ h_1:Heap) (A30:(Option Addr)) (N30:Nat) (t1:Int) (h_24:Heap) (next_:Int->Heap->Prop):Prop:=
 PIf (t1<((N30:Nat):Int))
 (J55_1 P h_1 A30 N30 t1 next_ h_24)
 (J55_0 R h_ h_1 h_24)
def VC55 (P:Program) (c:CV) (R:Value->Heap->Prop) (h:Heap):Prop:=
 let h_:Heap:=(h).push (.cells (Value.cells c.v) 29);let h_1:Heap:=(h_).push (.cells CV.zero.cs.toArray 29);LdC h_1 ⟨h.size,0,none⟩ fun t=>let h_2:Heap:=(h_1).push (.cells CV.zero.cs.toArray 29);StoreH h_2 ⟨h_1.size,0,none⟩ t.cs fun h_3=>(Addr.block (Addr.add ⟨h.size,0,none⟩ 1))<(h_3).size/\∃ (A10:Option Addr) (N10 C10:Nat),cellH h_3 (Addr.add ⟨h.size,0,none⟩ 1)=some (.slice A10 N10 C10)/\CallsH P 85 #[.slice A10 N10 C10] h_3 fun v h_4=>
 ∃ (A11:Option Addr) (N11 C11:Nat),v=(.slice A11 N11 C11)/\AgreeH (h_3).size h_3 h_4/\(Addr.block (Addr.add ⟨h.size,0,none⟩ 2))<(h_3).size/\∃ (A12:Option Addr) (N12 C12:Nat),cellH h_4 (Addr.add ⟨h.size,0,none⟩ 2)=some (.slice A12 N12 C12)/\CallsH P 86 #[.slice A12 N12 C12] h_4 fun v1 h_5=>
 ∃ (A13:Option Addr) (N13 C13:Nat),v1=(.slice A13 N13 C13)/\AgreeH (h_3).size h_4 h_5/\(Addr.block (Addr.add ⟨h.size,0,none⟩ 3))<(h_3).size/\∃ (A14:Option Addr) (N14 C14:Nat),cellH h_5 (Addr.add ⟨h.size,0,none⟩ 3)=some (.slice A14 N14 C14)/\CallsH P 85 #[.slice A14 N14 C14] h_5 fun v2 h_6=>
 ∃ (A15:Option Addr) (N15 C15:Nat),v2=(.slice A15 N15 C15)/\AgreeH (h_3).size h_5 h_6/\(Addr.block (Addr.add ⟨h.size,0,none⟩ 4))<(h_3).size/\∃ (A16:Option Addr) (N16 C16:Nat),cellH h_6 (Addr.add ⟨h.size,0,none⟩ 4)=some (.slice A16 N16 C16)/\CallsH P 85 #[.slice A16 N16 C16] h_6 fun v3 h_7=>
 ∃ (A17:Option Addr) (N17 C17:Nat),v3=(.slice A17 N17 C17)/\AgreeH (h_3).size h_6 h_7/\StoreH h_7 (Addr.add ⟨h_1.size,0,none⟩ 1) [.slice A11 N11 C11] fun h_8=>StoreH h_8 (Addr.add ⟨h_1.size,0,none⟩ 2) [.slice A13 N13 C13] fun h_9=>StoreH h_9 (Addr.add ⟨h_1.size,0,none⟩ 3) [.slice A15 N15 C15] fun h_10=>StoreH h_10 (Addr.add ⟨h_1.size,0,none⟩ 4) [.slice A17 N17 C17] fun h_11=>(Addr.block (Addr.add ⟨h.size,0,none⟩ 5))<(h_11).size/\∃ (A18:Option Addr) (N18 C18:Nat),cellH h_11 (Addr.add ⟨h.size,0,none⟩ 5)=some (.slice A18 N18 C18)/\CallsH P 85 #[.slice A18 N18 C18] h_11 fun v4 h_12=>
 ∃ (A19:Option Addr) (N19 C19:Nat),v4=(.slice A19 N19 C19)/\AgreeH (h_11).size h_11 h_12/\(Addr.block (Addr.add ⟨h.size,0,none⟩ 7))<(h_11).size/\∃ (A20:Option Addr) (N20 C20:Nat),cellH h_12 (Addr.add ⟨h.size,0,none⟩ 7)=some (.slice A20 N20 C20)/\CallsH P 85 #[.slice A20 N20 C20] h_12 fun v5 h_13=>
 ∃ (A21:Option Addr) (N21 C21:Nat),v5=(.slice A21 N21 C21)/\AgreeH (h_11).size h_12 h_13/\(Addr.block (Addr.add ⟨h.size,0,none⟩ 8))<(h_11).size/\∃ (A22:Option Addr) (N22 C22:Nat),cellH h_13 (Addr.add ⟨h.size,0,none⟩ 8)=some (.slice A22 N22 C22)/\CallsH P 87 #[.slice A22 N22 C22] h_13 fun v6 h_14=>
 ∃ (A23:Option Addr) (N23 C23:Nat),v6=(.slice A23 N23 C23)/\AgreeH (h_11).size h_13 h_14/\StoreH h_14 (Addr.add ⟨h_1.size,0,none⟩ 5) [.slice A19 N19 C19] fun h_15=>StoreH h_15 (Addr.add ⟨h_1.size,0,none⟩ 7) [.slice A21 N21 C21] fun h_16=>StoreH h_16 (Addr.add ⟨h_1.size,0,none⟩ 8) [.slice A23 N23 C23] fun h_17=>(Addr.block (Addr.add ⟨h.size,0,none⟩ 9))<(h_17).size/\∃ (A24:Option Addr) (N24 C24:Nat),cellH h_17 (Addr.add ⟨h.size,0,none⟩ 9)=some (.slice A24 N24 C24)/\CallsH P 88 #[.slice A24 N24 C24] h_17 fun v7 h_18=>
 ∃ (A25:Option Addr) (N25 C25:Nat),v7=(.slice A25 N25 C25)/\AgreeH (h_17).size h_17 h_18/\(Addr.block (Addr.add ⟨h.size,0,none⟩ 10))<(h_17).size/\∃ (A26:Option Addr) (N26 C26:Nat),cellH h_18 (Addr.add ⟨h.size,0,none⟩ 10)=some (.slice A26 N26 C26)/\CallsH P 89 #[.slice A26 N26 C26] h_18 fun v8 h_19=>
 ∃ (A27:Option Addr) (N27 C27:Nat),v8=(.slice A27 N27 C27)/\AgreeH (h_17).size h_18 h_19/\(Addr.block (Addr.add ⟨h.size,0,none⟩ 6))<(h_17).size/\∃ (A28:Option Addr) (N28 C28:Nat),cellH h_19 (Addr.add ⟨h.size,0,none⟩ 6)=some (.slice A28 N28 C28)/\CallsH P 90 #[.slice A28 N28 C28] h_19 fun v9 h_20=>
 ∃ (A29:Option Addr) (N29 C29:Nat),v9=(.slice A29 N29 C29)/\AgreeH (h_17).size h_19 h_20/\StoreH h_20 (Addr.add ⟨h_1.size,0,none⟩ 9) [.slice A25 N25 C25] fun h_21=>StoreH h_21 (Addr.add ⟨h_1.size,0,none⟩ 10) [.slice A27 N27 C27] fun h_22=>StoreH h_22 (Addr.add ⟨h_1.size,0,none⟩ 6) [.slice A29 N29 C29] fun h_23=>∃ (A30:Option Addr) (N30 C30:Nat),cellH h_23 (Addr.add ⟨h.size,0,none⟩ 6)=some (.slice A30 N30 C30)/\LoopT (σ:=Int) (fun st_ h_st nx_st=>B55_3 P R h_ h_1 A30 N30 (st_) h_st nx_st) (0) h_23
theorem run55 (c:CV) (R:Value->Heap->Prop) (h:Heap) (hv:VC55 Try.prog c R h):CallsH Try.prog 55 #[c.v] h R:=calls_of_fnC (Checked.mixed Try.checked) Try.func55 comp55 (Nat.le_of_ble_eq_true rfl) (Eq.mp (by kernel_rfl) hv)
def loops56:List (List (Nat×Shp)):=[[(8,.int .i64)]]
noncomputable def code56:SCode:=((compF Try.prog Try.f56 loops56).elim .skip fun x=>x.2.2)
def ret56:List RV:=[.tmp 4]
theorem comp56:compF Try.prog Try.f56 loops56=some (19,ret56,code56):=by kernel_rfl
def J56_1  (P:Program) (R:Value->Heap->Prop) (sA:(Option Addr)) (sN:Nat) (f:Value) (t:Int) (next_:(Int->Heap->Prop)) (h_1:Heap):Prop:=
 0≤t/\t<(sN:Nat)/\AtP sA fun ad=>∃ (t1 t2:Int) (t3:ByteArray),cellsH h_1 (Addr.add ad (Int.toNat t*3)) 0 [.int .u8 t1,.int .i64 t2,.string t3]/\CallV P f [(.agg #[.int .u8 t1,.int .i64 t2,.string t3])] h_1 fun v h_2=>
 ∃ (t4:Bool),v=(.bool t4)/\BIf t4 (R (.int .i64 t) h_2) (next_ (IntKind.wrap .i64 (t+1)) h_2)
def J56_0  (R:Value->Heap->Prop) (h_3:Heap):Prop:=
 R (.int .i64 (-1)) h_3
def B56_3 (P:Program) (R:Value->Heap->Prop) (sA:(Option Addr)) (sN:Nat) (f:Value) (t:Int) (h_:Heap) (next_:Int->Heap->Prop):Prop:=
 PIf (t<((sN:Nat):Int))
 (J56_1 P R sA sN f t next_ h_)
 (J56_0 R h_)
def VC56 (P:Program) (sA:Option Addr) (sN sC:Nat) (f:Value) (R:Value->Heap->Prop) (h:Heap):Prop:=
 LoopT (σ:=Int) (fun st_ h_st nx_st=>B56_3 P R sA sN f (st_) h_st nx_st) (0) h
theorem run56 (sA:Option Addr) (sN sC:Nat) (f:Value) (R:Value->Heap->Prop) (h:Heap) (hv:VC56 Try.prog sA sN sC f R h):CallsH Try.prog 56 #[.slice sA sN sC,f] h R:=calls_of_fnC (Checked.mixed Try.checked) Try.func56 comp56 (Nat.le_of_ble_eq_true rfl) (Eq.mp (by kernel_rfl) hv)
def loops85:List (List (Nat×Shp)):=[]
noncomputable def code85:SCode:=((compF Try.prog Try.f85 loops85).elim .skip fun x=>x.2.2)
def ret85:List RV:=[.tmp 2]
theorem comp85:compF Try.prog Try.f85 loops85=some (8,ret85,code85):=by kernel_rfl
def VC85 (P:Program) (sA:Option Addr) (sN sC:Nat) (R:Value->Heap->Prop) (h:Heap):Prop:=
 PIf ((sA:Option Addr)=none)
 (R (.slice none 0 0) h)
 (let h_:Heap:=(h).push (.cells #[] 3);∃ ys:List Value,ReadL h_ sA ys/\ys.length=sN*1/\AppS h_ (some ⟨h.size,0,none⟩) 0 0 3 8 1 #[.int .i64 0] ys sN fun apA apN apC h_1=>R (.slice apA apN apC) h_1)
theorem run85 (sA:Option Addr) (sN sC:Nat) (R:Value->Heap->Prop) (h:Heap) (hv:VC85 Try.prog sA sN sC R h):CallsH Try.prog 85 #[.slice sA sN sC] h R:=calls_of_fnC (Checked.mixed Try.checked) Try.func85 comp85 (Nat.le_of_ble_eq_true rfl) (Eq.mp (by kernel_rfl) hv)
def loops86:List (List (Nat×Shp)):=[]
noncomputable def code86:SCode:=((compF Try.prog Try.f86 loops86).elim .skip fun x=>x.2.2)
def ret86:List RV:=[.tmp 2]
theorem comp86:compF Try.prog Try.f86 loops86=some (8,ret86,code86):=by kernel_rfl
def VC86 (P:Program) (sA:Option Addr) (sN sC:Nat) (R:Value->Heap->Prop) (h:Heap):Prop:=
 PIf ((sA:Option Addr)=none)
 (R (.slice none 0 0) h)
 (let h_:Heap:=(h).push (.cells #[] 63);∃ ys:List Value,ReadL h_ sA ys/\ys.length=sN*3/\AppS h_ (some ⟨h.size,0,none⟩) 0 0 63 24 3 #[.int .i64 0,.int .i64 0,.int .i64 0] ys sN fun apA apN apC h_1=>R (.slice apA apN apC) h_1)
theorem run86 (sA:Option Addr) (sN sC:Nat) (R:Value->Heap->Prop) (h:Heap) (hv:VC86 Try.prog sA sN sC R h):CallsH Try.prog 86 #[.slice sA sN sC] h R:=calls_of_fnC (Checked.mixed Try.checked) Try.func86 comp86 (Nat.le_of_ble_eq_true rfl) (Eq.mp (by kernel_rfl) hv)
def loops87:List (List (Nat×Shp)):=[]
noncomputable def code87:SCode:=((compF Try.prog Try.f87 loops87).elim .skip fun x=>x.2.2)
def ret87:List RV:=[.tmp 2]
theorem comp87:compF Try.prog Try.f87 loops87=some (8,ret87,code87):=by kernel_rfl
def VC87 (P:Program) (sA:Option Addr) (sN sC:Nat) (R:Value->Heap->Prop) (h:Heap):Prop:=
 PIf ((sA:Option Addr)=none)
 (R (.slice none 0 0) h)
 (let h_:Heap:=(h).push (.cells #[] 120);∃ ys:List Value,ReadL h_ sA ys/\ys.length=sN*3/\AppS h_ (some ⟨h.size,0,none⟩) 0 0 120 24 3 #[.int .i64 0,.int .i64 0,.int .i64 0] ys sN fun apA apN apC h_1=>R (.slice apA apN apC) h_1)
theorem run87 (sA:Option Addr) (sN sC:Nat) (R:Value->Heap->Prop) (h:Heap) (hv:VC87 Try.prog sA sN sC R h):CallsH Try.prog 87 #[.slice sA sN sC] h R:=calls_of_fnC (Checked.mixed Try.checked) Try.func87 comp87 (Nat.le_of_ble_eq_true rfl) (Eq.mp (by kernel_rfl) hv)
def loops88:List (List (Nat×Shp)):=[]
noncomputable def code88:SCode:=((compF Try.prog Try.f88 loops88).elim .skip fun x=>x.2.2)
def ret88:List RV:=[.tmp 2]
theorem comp88:compF Try.prog Try.f88 loops88=some (8,ret88,code88):=by kernel_rfl
def VC88 (P:Program) (sA:Option Addr) (sN sC:Nat) (R:Value->Heap->Prop) (h:Heap):Prop:=
 PIf ((sA:Option Addr)=none)
 (R (.slice none 0 0) h)
 (let h_:Heap:=(h).push (.cells #[] 71);∃ ys:List Value,ReadL h_ sA ys/\ys.length=sN*3/\AppS h_ (some ⟨h.size,0,none⟩) 0 0 71 32 3 #[.int .u8 0,.int .i64 0,(.string (ByteArray.mk #[]))] ys sN fun apA apN apC h_1=>R (.slice apA apN apC) h_1)
theorem run88 (sA:Option Addr) (sN sC:Nat) (R:Value->Heap->Prop) (h:Heap) (hv:VC88 Try.prog sA sN sC R h):CallsH Try.prog 88 #[.slice sA sN sC] h R:=calls_of_fnC (Checked.mixed Try.checked) Try.func88 comp88 (Nat.le_of_ble_eq_true rfl) (Eq.mp (by kernel_rfl) hv)
def loops89:List (List (Nat×Shp)):=[]
noncomputable def code89:SCode:=((compF Try.prog Try.f89 loops89).elim .skip fun x=>x.2.2)
def ret89:List RV:=[.tmp 2]
theorem comp89:compF Try.prog Try.f89 loops89=some (8,ret89,code89):=by kernel_rfl
def VC89 (P:Program) (sA:Option Addr) (sN sC:Nat) (R:Value->Heap->Prop) (h:Heap):Prop:=
 PIf ((sA:Option Addr)=none)
 (R (.slice none 0 0) h)
 (let h_:Heap:=(h).push (.cells #[] 9);∃ ys:List Value,ReadL h_ sA ys/\ys.length=sN*1/\AppS h_ (some ⟨h.size,0,none⟩) 0 0 9 16 1 #[(.string (ByteArray.mk #[]))] ys sN fun apA apN apC h_1=>R (.slice apA apN apC) h_1)
theorem run89 (sA:Option Addr) (sN sC:Nat) (R:Value->Heap->Prop) (h:Heap) (hv:VC89 Try.prog sA sN sC R h):CallsH Try.prog 89 #[.slice sA sN sC] h R:=calls_of_fnC (Checked.mixed Try.checked) Try.func89 comp89 (Nat.le_of_ble_eq_true rfl) (Eq.mp (by kernel_rfl) hv)
def loops90:List (List (Nat×Shp)):=[]
noncomputable def code90:SCode:=((compF Try.prog Try.f90 loops90).elim .skip fun x=>x.2.2)
def ret90:List RV:=[.tmp 2]
theorem comp90:compF Try.prog Try.f90 loops90=some (8,ret90,code90):=by kernel_rfl
def VC90 (P:Program) (sA:Option Addr) (sN sC:Nat) (R:Value->Heap->Prop) (h:Heap):Prop:=
 PIf ((sA:Option Addr)=none)
 (R (.slice none 0 0) h)
 (let h_:Heap:=(h).push (.cells #[] 22);∃ ys:List Value,ReadL h_ sA ys/\ys.length=sN*1/\AppS h_ (some ⟨h.size,0,none⟩) 0 0 22 24 1 #[.slice none 0 0] ys sN fun apA apN apC h_1=>R (.slice apA apN apC) h_1)
theorem run90 (sA:Option Addr) (sN sC:Nat) (R:Value->Heap->Prop) (h:Heap) (hv:VC90 Try.prog sA sN sC R h):CallsH Try.prog 90 #[.slice sA sN sC] h R:=calls_of_fnC (Checked.mixed Try.checked) Try.func90 comp90 (Nat.le_of_ble_eq_true rfl) (Eq.mp (by kernel_rfl) hv)
end Go.Proofs.Ytdpbdjdgdmheiaa
