/- Words and facts that the claim's proof leans on. No condition. -/
import Derived.Test.YtdpbdjdgdmheiaaGreatHxV
import Derived.Test.YtdpbdjdgdmheiaaGreatChecked
set_option maxRecDepth 100000
set_option linter.unusedVariables false
namespace Go.Proofs.YtdpbdjdgdmheiaaGreat
open Go.Hx
def loops67:List (List (Nat×Shp)):=[]
noncomputable def code67:SCode:=((compF Tryz.prog Tryz.f67 loops67).elim .skip fun x=>x.2.2)
def ret67:List RV:=[.tmp 6,.tmp 7]
theorem comp67:compF Tryz.prog Tryz.f67 loops67=some (39,ret67,code67):=by kernel_rfl
def J67_2  (P:Program) (R:Value->Heap->Prop) (h h_ h_1 h_8:Heap):Prop:=
 LdC h_8 ⟨h.size,0,none⟩ fun t14=>∃ (t15:Int),cellH h_8 (Addr.add ⟨h_.size,0,none⟩ 1)=some (.int .i64 t15)/\LdT h_8 ⟨h_1.size,0,none⟩ fun t16=>CallsH P 113 #[t14.v,.int .i64 t15,t16.v] h_8 fun v3 h_9=>
 ∃ (t17 t18:Int),v3=(.tuple #[.int .i64 t17,.int .i64 t18])/\R (.tuple #[.int .i64 t17,.int .i64 t18]) h_9
def J67_1  (P:Program) (R:Value->Heap->Prop) (h h_ h_1 h_6:Heap):Prop:=
 ∃ (t8:Int),cellH h_6 (Addr.add ⟨h_.size,0,none⟩ 0)=some (.int .u8 t8)/\PIf (t8=98)
 (LdC h_6 ⟨h.size,0,none⟩ fun t9=>∃ (t10:Int),cellH h_6 (Addr.add ⟨h_.size,0,none⟩ 1)=some (.int .i64 t10)/\LdT h_6 ⟨h_1.size,0,none⟩ fun t11=>CallsH P 112 #[t9.v,.int .i64 t10,t11.v] h_6 fun v2 h_7=>
 ∃ (t12 t13:Int),v2=(.tuple #[.int .i64 t12,.int .i64 t13])/\R (.tuple #[.int .i64 t12,.int .i64 t13]) h_7)
 (J67_2 P R h h_ h_1 h_6)
def J67_0  (P:Program) (R:Value->Heap->Prop) (h h_ h_1 h_4:Heap):Prop:=
 LdC h_4 ⟨h.size,0,none⟩ fun t4=>∃ (t5 t6:Int),cellsH h_4 ⟨h_.size,0,none⟩ 0 [.int .u8 t5,.int .i64 t6]/\CallsH P 111 #[t4.v,(.agg #[.int .u8 t5,.int .i64 t6])] h_4 fun v1 h_5=>
 ∃ (t7:Bool),v1=(.bool t7)/\BIf (!t7) (R (.tuple #[.int .i64 0,.int .i64 5]) h_5) (J67_1 P R h h_ h_1 h_5)
def VC67 (P:Program) (c:CV) (p p1:Int) (t:TV) (R:Value->Heap->Prop) (h:Heap):Prop:=
 let h_:Heap:=(h).push (.cells (Value.cells c.v) 29);let h_1:Heap:=(h_).push (.cells (Value.cells (.agg #[.int .u8 p,.int .i64 p1])) 107);let h_2:Heap:=(h_1).push (.cells (Value.cells t.v) 49);LdC h_2 ⟨h.size,0,none⟩ fun t1=>CallsH P 93 #[t1.v] h_2 fun v h_3=>
 ∃ (t2 t3:Int),v=(.tuple #[.int .i64 t2,.int .i64 t3])/\PIf (t3=0)
 (J67_0 P R h h_ h_1 h_3)
 (R (.tuple #[.int .i64 0,.int .i64 t3]) h_3)
theorem run67 (c:CV) (p p1:Int) (t:TV) (R:Value->Heap->Prop) (h:Heap) (hv:VC67 Tryz.prog c p p1 t R h):CallsH Tryz.prog 67 #[c.v,(.agg #[.int .u8 p,.int .i64 p1]),t.v] h R:=calls_of_fnC (Checked.mixed Tryz.checked) Tryz.func67 comp67 (Nat.le_of_ble_eq_true rfl) (Eq.mp (by kernel_rfl) hv)
def loops80:List (List (Nat×Shp)):=[]
noncomputable def code80:SCode:=((compF Tryz.prog Tryz.f80 loops80).elim .skip fun x=>x.2.2)
def ret80:List RV:=[.tmp 6,.tmp 7]
theorem comp80:compF Tryz.prog Tryz.f80 loops80=some (15,ret80,code80):=by kernel_rfl
def VC80 (P:Program) (c:CV) (i:Int) (t:TV) (R:Value->Heap->Prop) (h:Heap):Prop:=
 let h_:Heap:=(h).push (.cells (Value.cells c.v) 29);let h_1:Heap:=(h_).push (.cells (Value.cells t.v) 49);LdC h_1 ⟨h.size,0,none⟩ fun t1=>LdT h_1 ⟨h_.size,0,none⟩ fun t2=>CallsH P 67 #[t1.v,(.agg #[.int .u8 98,.int .i64 i]),t2.v] h_1 fun v h_2=>
 ∃ (t3 t4:Int),v=(.tuple #[.int .i64 t3,.int .i64 t4])/\R (.tuple #[.int .i64 t3,.int .i64 t4]) h_2
theorem run80 (c:CV) (i:Int) (t:TV) (R:Value->Heap->Prop) (h:Heap) (hv:VC80 Tryz.prog c i t R h):CallsH Tryz.prog 80 #[c.v,.int .i64 i,t.v] h R:=calls_of_fnC (Checked.mixed Tryz.checked) Tryz.func80 comp80 (Nat.le_of_ble_eq_true rfl) (Eq.mp (by kernel_rfl) hv)
def loops29:List (List (Nat×Shp)):=[]
noncomputable def code29:SCode:=((compF Tryz.prog Tryz.f29 loops29).elim .skip fun x=>x.2.2)
def ret29:List RV:=[.tmp 6,.tmp 7]
theorem comp29:compF Tryz.prog Tryz.f29 loops29=some (15,ret29,code29):=by kernel_rfl
def VC29 (P:Program) (c:CV) (j:Int) (t:TV) (R:Value->Heap->Prop) (h:Heap):Prop:=
 let h_:Heap:=(h).push (.cells (Value.cells c.v) 29);let h_1:Heap:=(h_).push (.cells (Value.cells t.v) 49);LdC h_1 ⟨h.size,0,none⟩ fun t1=>LdT h_1 ⟨h_.size,0,none⟩ fun t2=>CallsH P 67 #[t1.v,(.agg #[.int .u8 106,.int .i64 j]),t2.v] h_1 fun v h_2=>
 ∃ (t3 t4:Int),v=(.tuple #[.int .i64 t3,.int .i64 t4])/\R (.tuple #[.int .i64 t3,.int .i64 t4]) h_2
theorem run29 (c:CV) (j:Int) (t:TV) (R:Value->Heap->Prop) (h:Heap) (hv:VC29 Tryz.prog c j t R h):CallsH Tryz.prog 29 #[c.v,.int .i64 j,t.v] h R:=calls_of_fnC (Checked.mixed Tryz.checked) Tryz.func29 comp29 (Nat.le_of_ble_eq_true rfl) (Eq.mp (by kernel_rfl) hv)
def loops111:List (List (Nat×Shp)):=[]
noncomputable def code111:SCode:=((compF Tryz.prog Tryz.f111 loops111).elim .skip fun x=>x.2.2)
def ret111:List RV:=[.tmp 4]
theorem comp111:compF Tryz.prog Tryz.f111 loops111=some (39,ret111,code111):=by kernel_rfl
def VC111 (P:Program) (c:CV) (p p1:Int) (R:Value->Heap->Prop) (h:Heap):Prop:=
 let h_:Heap:=(h).push (.cells (Value.cells c.v) 29);let h_1:Heap:=(h_).push (.cells (Value.cells (.agg #[.int .u8 p,.int .i64 p1])) 107);∃ (t:Int),cellH h_1 (Addr.add ⟨h_.size,0,none⟩ 0)=some (.int .u8 t)/\PIf (t=98)
 (∃ (t1:Int),cellH h_1 (Addr.add ⟨h_.size,0,none⟩ 1)=some (.int .i64 t1)/\PIf ((0:Int)≤t1)
 (∃ (t2:Int),cellH h_1 (Addr.add ⟨h_.size,0,none⟩ 1)=some (.int .i64 t2)/\∃ (A:Option Addr) (N C:Nat),cellH h_1 (Addr.add ⟨h.size,0,none⟩ 4)=some (.slice A N C)/\PIf (t2<((N:Nat):Int))
 (R (.bool true) h_1)
 (∃ (t3:Int),cellH h_1 (Addr.add ⟨h_.size,0,none⟩ 0)=some (.int .u8 t3)/\PIf (t3=106)
 (∃ (t4:Int),cellH h_1 (Addr.add ⟨h_.size,0,none⟩ 1)=some (.int .i64 t4)/\PIf ((0:Int)≤t4)
 (∃ (t5:Int),cellH h_1 (Addr.add ⟨h_.size,0,none⟩ 1)=some (.int .i64 t5)/\∃ (A1:Option Addr) (N1 C1:Nat),cellH h_1 (Addr.add ⟨h.size,0,none⟩ 6)=some (.slice A1 N1 C1)/\PIf (t5<((N1:Nat):Int))
 (R (.bool true) h_1)
 (R (.bool false) h_1))
 (R (.bool false) h_1))
 (R (.bool false) h_1)))
 (∃ (t6:Int),cellH h_1 (Addr.add ⟨h_.size,0,none⟩ 0)=some (.int .u8 t6)/\PIf (t6=106)
 (∃ (t7:Int),cellH h_1 (Addr.add ⟨h_.size,0,none⟩ 1)=some (.int .i64 t7)/\PIf ((0:Int)≤t7)
 (∃ (t8:Int),cellH h_1 (Addr.add ⟨h_.size,0,none⟩ 1)=some (.int .i64 t8)/\∃ (A2:Option Addr) (N2 C2:Nat),cellH h_1 (Addr.add ⟨h.size,0,none⟩ 6)=some (.slice A2 N2 C2)/\PIf (t8<((N2:Nat):Int))
 (R (.bool true) h_1)
 (R (.bool false) h_1))
 (R (.bool false) h_1))
 (R (.bool false) h_1)))
 (∃ (t9:Int),cellH h_1 (Addr.add ⟨h_.size,0,none⟩ 0)=some (.int .u8 t9)/\PIf (t9=106)
 (∃ (t10:Int),cellH h_1 (Addr.add ⟨h_.size,0,none⟩ 1)=some (.int .i64 t10)/\PIf ((0:Int)≤t10)
 (∃ (t11:Int),cellH h_1 (Addr.add ⟨h_.size,0,none⟩ 1)=some (.int .i64 t11)/\∃ (A3:Option Addr) (N3 C3:Nat),cellH h_1 (Addr.add ⟨h.size,0,none⟩ 6)=some (.slice A3 N3 C3)/\PIf (t11<((N3:Nat):Int))
 (R (.bool true) h_1)
 (R (.bool false) h_1))
 (R (.bool false) h_1))
 (R (.bool false) h_1))
theorem run111 (c:CV) (p p1:Int) (R:Value->Heap->Prop) (h:Heap) (hv:VC111 Tryz.prog c p p1 R h):CallsH Tryz.prog 111 #[c.v,(.agg #[.int .u8 p,.int .i64 p1])] h R:=calls_of_fnC (Checked.mixed Tryz.checked) Tryz.func111 comp111 (Nat.le_of_ble_eq_true rfl) (Eq.mp (by kernel_rfl) hv)
def loops112:List (List (Nat×Shp)):=[]
noncomputable def code112:SCode:=((compF Tryz.prog Tryz.f112 loops112).elim .skip fun x=>x.2.2)
def ret112:List RV:=[.tmp 6,.tmp 7]
theorem comp112:compF Tryz.prog Tryz.f112 loops112=some (42,ret112,code112):=by kernel_rfl
def J112_1  (P:Program) (R:Value->Heap->Prop) (i:Int) (A24:(Option Addr)) (N24:Nat) (h_5:Heap):Prop:=
 0≤((IntKind.wrap .i64 (((N24:Nat):Int)-1)):Int)/\((IntKind.wrap .i64 (((N24:Nat):Int)-1)):Int)<(N24:Nat)/\AtP A24 fun ad=>∃ (A26:Option Addr) (N26 C26:Nat),cellH h_5 (Addr.add (Addr.add ad (Int.toNat (IntKind.wrap .i64 (((N24:Nat):Int)-1))*4)) 2)=some (.slice A26 N26 C26)/\CallsH P 145 #[.slice A26 N26 C26,.int .i64 i] h_5 fun v2 h_6=>
 ∃ (t8:Bool),v2=(.bool t8)/\BIf (!t8) (R (.tuple #[(.int .i64 (IntKind.wrap .i64 (((N24:Nat):Int)-1))),.int .i64 131]) h_6) (R (.tuple #[(.int .i64 (IntKind.wrap .i64 (((N24:Nat):Int)-1))),.int .i64 0]) h_6)
def J112_0  (P:Program) (R:Value->Heap->Prop) (h:Heap) (i:Int) (h_ h_3:Heap):Prop:=
 LdC h_3 ⟨h.size,0,none⟩ fun t4=>LdT h_3 ⟨h_.size,0,none⟩ fun t5=>CallsH P 81 #[t4.v,t5.v] h_3 fun v1 h_4=>
 ∃ (A24:Option Addr) (N24 C24:Nat) (A25:Option Addr) (N25 C25:Nat) (t6 t7:Int),v1=(.tuple #[.slice A24 N24 C24,.slice A25 N25 C25,.int .i64 t6,.int .i64 t7])/\PIf (t7=0)
 (J112_1 P R i A24 N24 h_4)
 (R (.tuple #[.int .i64 t6,.int .i64 t7]) h_4)
def VC112 (P:Program) (c:CV) (i:Int) (t:TV) (R:Value->Heap->Prop) (h:Heap):Prop:=
 let h_:Heap:=(h).push (.cells (Value.cells c.v) 29);let h_1:Heap:=(h_).push (.cells (Value.cells t.v) 49);LdC h_1 ⟨h.size,0,none⟩ fun t1=>LdT h_1 ⟨h_.size,0,none⟩ fun t2=>CallsH P 144 #[t1.v,t2.v] h_1 fun v h_2=>
 ∃ (t3:Bool),v=(.bool t3)/\BIf (!t3) (R (.tuple #[.int .i64 0,.int .i64 4]) h_2) (J112_0 P R h i h_ h_2)
theorem run112 (c:CV) (i:Int) (t:TV) (R:Value->Heap->Prop) (h:Heap) (hv:VC112 Tryz.prog c i t R h):CallsH Tryz.prog 112 #[c.v,.int .i64 i,t.v] h R:=calls_of_fnC (Checked.mixed Tryz.checked) Tryz.func112 comp112 (Nat.le_of_ble_eq_true rfl) (Eq.mp (by kernel_rfl) hv)
def loops113:List (List (Nat×Shp)):=[[(13,.int .i64)],[(15,.bool),(16,.int .i64)],[(15,.bool),(17,.int .i64)]]
noncomputable def code113:SCode:=((compF Tryz.prog Tryz.f113 loops113).elim .skip fun x=>x.2.2)
def ret113:List RV:=[.tmp 6,.tmp 7]
theorem comp113:compF Tryz.prog Tryz.f113 loops113=some (112,ret113,code113):=by kernel_rfl
def J113_10  (A24:(Option Addr)) (N24:Nat) (h_9:Heap) (i:Int) (came1:Bool) (f:Int) (next_2:(Bool×Int->Heap->Prop)) (h_17:Heap):Prop:=
 BIf came1 (next_2 (true,(IntKind.wrap .i64 (f+1))) h_17) (0≤i/\i<(N24:Nat)/\AtP A24 fun ad3=>∃ (A31:Option Addr) (N31 C31:Nat),cellH h_17 (Addr.add (Addr.add ad3 (Int.toNat i*4)) 3)=some (.slice A31 N31 C31)/\0≤f/\f<(N31:Nat)/\AtP A31 fun ad4=>∃ (t12 t13:Int),cellsH h_17 (Addr.add ad4 (Int.toNat f*2)) 0 [.int .i64 t12,.int .i64 t13]/\∃ (t14 t15:Int),cellsH h_17 ⟨h_9.size,0,none⟩ 0 [.int .i64 t14,.int .i64 t15]/\PIf ((#[.int .i64 t12,.int .i64 t13]:Array Value)=#[.int .i64 t14,.int .i64 t15])
 (next_2 (true,(IntKind.wrap .i64 (f+1))) h_17)
 (next_2 (false,(IntKind.wrap .i64 (f+1))) h_17))
def J113_9  (i:Int) (next_1:(Bool×Int->Heap->Prop)) (came2:Bool) (h_18:Heap):Prop:=
 next_1 (came2,(IntKind.wrap .i64 (i+1))) h_18
def B113_11 (A24:(Option Addr)) (N24:Nat) (h_9:Heap) (i:Int) (next_1:(Bool×Int->Heap->Prop)) (came1:Bool) (f:Int) (h_16:Heap) (next_2:Bool×Int->Heap->Prop):Prop:=
 0≤i/\i<(N24:Nat)/\AtP A24 fun ad2=>∃ (A30:Option Addr) (N30 C30:Nat),cellH h_16 (Addr.add (Addr.add ad2 (Int.toNat i*4)) 3)=some (.slice A30 N30 C30)/\PIf (f<((N30:Nat):Int))
 (J113_10 A24 N24 h_9 i came1 f next_2 h_16)
 (J113_9 i next_1 (came1) h_16)
def J113_8  (A24:(Option Addr)) (N24:Nat) (h_9:Heap) (came:Bool) (i:Int) (next_1:(Bool×Int->Heap->Prop)) (h_15:Heap):Prop:=
 LoopT (σ:=Bool×Int) (fun st_ h_st nx_st=>B113_11 A24 N24 h_9 i next_1 (st_.1) (st_.2) h_st nx_st) (came,0) h_15
def J113_5  (k:Int) (next_:(Int->Heap->Prop)) (h_20:Heap):Prop:=
 next_ (IntKind.wrap .i64 (k+1)) h_20
def J113_7  (R:Value->Heap->Prop) (k:Int) (next_:(Int->Heap->Prop)) (came3:Bool) (h_19:Heap):Prop:=
 BIf (!came3) (R (.tuple #[.int .i64 k,.int .i64 133]) h_19) (J113_5 k next_ h_19)
def B113_12 (R:Value->Heap->Prop) (A24:(Option Addr)) (N24:Nat) (k:Int) (next_:(Int->Heap->Prop)) (h_9:Heap) (came:Bool) (i:Int) (h_14:Heap) (next_1:Bool×Int->Heap->Prop):Prop:=
 PIf (i<((N24:Nat):Int))
 (J113_8 A24 N24 h_9 came i next_1 h_14)
 (J113_7 R k next_ (came) h_14)
def J113_6  (R:Value->Heap->Prop) (h_:Heap) (A24:(Option Addr)) (N24:Nat) (k:Int) (next_:(Int->Heap->Prop)) (h_9 h_13:Heap):Prop:=
 ∃ (t11:Int),cellH h_13 (Addr.add ⟨h_.size,0,none⟩ 2)=some (.int .i64 t11)/\LoopT (σ:=Bool×Int) (fun st_ h_st nx_st=>B113_12 R A24 N24 k next_ h_9 (st_.1) (st_.2) h_st nx_st) (false,t11) h_13
def J113_4  (R:Value->Heap->Prop) (j:Int) (h_:Heap) (A24:(Option Addr)) (N24 N28:Nat) (k:Int) (next_:(Int->Heap->Prop)) (h_9:Heap):Prop:=
 let h_10:Heap:=(h_9).push (.cells #[.int .i64 0,.int .i64 0] 201);StoreH h_10 ⟨h_9.size,0,none⟩ [.int .i64 j,.int .i64 k] fun h_11=>PIf ((((N28:Nat):Int):Int)≤k)
 (StoreH h_11 ⟨h_9.size,0,none⟩ [(.int .i64 (-1)),(.int .i64 (IntKind.wrap .i64 (k-((N28:Nat):Int))))] fun h_12=>J113_6 R h_ A24 N24 k next_ h_9 h_12)
 (J113_6 R h_ A24 N24 k next_ h_9 h_11)
def J113_3  (R:Value->Heap->Prop) (h_ h_21:Heap):Prop:=
 ∃ (t16:Int),cellH h_21 (Addr.add ⟨h_.size,0,none⟩ 2)=some (.int .i64 t16)/\R (.tuple #[.int .i64 t16,.int .i64 0]) h_21
def B113_13 (R:Value->Heap->Prop) (h:Heap) (j:Int) (h_:Heap) (A24:(Option Addr)) (N24 N28:Nat) (k:Int) (h_8:Heap) (next_:Int->Heap->Prop):Prop:=
 ∃ (A29:Option Addr) (N29 C29:Nat),cellH h_8 (Addr.add ⟨h.size,0,none⟩ 7)=some (.slice A29 N29 C29)/\PIf (k<(IntKind.wrap .i64 (((N28:Nat):Int)+((N29:Nat):Int))))
 (J113_4 R j h_ A24 N24 N28 k next_ h_8)
 (J113_3 R h_ h_8)
def J113_2  (R:Value->Heap->Prop) (h:Heap) (j:Int) (h_:Heap) (A24:(Option Addr)) (N24:Nat) (h_7:Heap):Prop:=
 ∃ (A27:Option Addr) (N27 C27:Nat),cellH h_7 (Addr.add ⟨h.size,0,none⟩ 6)=some (.slice A27 N27 C27)/\0≤j/\j<(N27:Nat)/\AtP A27 fun ad1=>∃ (A28:Option Addr) (N28 C28:Nat),cellH h_7 (Addr.add ad1 (Int.toNat j*1))=some (.slice A28 N28 C28)/\LoopT (σ:=Int) (fun st_ h_st nx_st=>B113_13 R h j h_ A24 N24 N28 (st_) h_st nx_st) (0) h_7
def J113_1  (P:Program) (R:Value->Heap->Prop) (h:Heap) (j:Int) (h_:Heap) (A24:(Option Addr)) (N24:Nat) (A25:(Option Addr)) (N25 C25:Nat) (h_5:Heap):Prop:=
 ∃ (t8:Int),cellH h_5 (Addr.add ⟨h_.size,0,none⟩ 2)=some (.int .i64 t8)/\PIf (t8<0)
 (R (.tuple #[(.int .i64 (IntKind.wrap .i64 (((N24:Nat):Int)-1))),.int .i64 132]) h_5)
 (∃ (t9:Int),cellH h_5 (Addr.add ⟨h_.size,0,none⟩ 2)=some (.int .i64 t9)/\0≤t9/\t9<(N24:Nat)/\AtP A24 fun ad=>∃ (A26:Option Addr) (N26 C26:Nat),cellH h_5 (Addr.add (Addr.add ad (Int.toNat t9*4)) 0)=some (.slice A26 N26 C26)/\CallsH P 59 #[.slice A25 N25 C25,.slice A26 N26 C26] h_5 fun v2 h_6=>
 ∃ (t10:Bool),v2=(.bool t10)/\BIf (!t10) (R (.tuple #[(.int .i64 (IntKind.wrap .i64 (((N24:Nat):Int)-1))),.int .i64 132]) h_6) (J113_2 R h j h_ A24 N24 h_6))
def J113_0  (P:Program) (R:Value->Heap->Prop) (h:Heap) (j:Int) (h_ h_3:Heap):Prop:=
 LdC h_3 ⟨h.size,0,none⟩ fun t4=>LdT h_3 ⟨h_.size,0,none⟩ fun t5=>CallsH P 81 #[t4.v,t5.v] h_3 fun v1 h_4=>
 ∃ (A24:Option Addr) (N24 C24:Nat) (A25:Option Addr) (N25 C25:Nat) (t6 t7:Int),v1=(.tuple #[.slice A24 N24 C24,.slice A25 N25 C25,.int .i64 t6,.int .i64 t7])/\PIf (t7=0)
 (J113_1 P R h j h_ A24 N24 A25 N25 C25 h_4)
 (R (.tuple #[.int .i64 t6,.int .i64 t7]) h_4)
def VC113 (P:Program) (c:CV) (j:Int) (t:TV) (R:Value->Heap->Prop) (h:Heap):Prop:=
 let h_:Heap:=(h).push (.cells (Value.cells c.v) 29);let h_1:Heap:=(h_).push (.cells (Value.cells t.v) 49);LdC h_1 ⟨h.size,0,none⟩ fun t1=>LdT h_1 ⟨h_.size,0,none⟩ fun t2=>CallsH P 144 #[t1.v,t2.v] h_1 fun v h_2=>
 ∃ (t3:Bool),v=(.bool t3)/\BIf (!t3) (R (.tuple #[.int .i64 0,.int .i64 4]) h_2) (J113_0 P R h j h_ h_2)
theorem run113 (c:CV) (j:Int) (t:TV) (R:Value->Heap->Prop) (h:Heap) (hv:VC113 Tryz.prog c j t R h):CallsH Tryz.prog 113 #[c.v,.int .i64 j,t.v] h R:=calls_of_fnC (Checked.mixed Tryz.checked) Tryz.func113 comp113 (Nat.le_of_ble_eq_true rfl) (Eq.mp (by kernel_rfl) hv)
def loops81:List (List (Nat×Shp)):=[[(10,.int .i64)],[(14,.int .i64)]]
noncomputable def code81:SCode:=((compF Tryz.prog Tryz.f81 loops81).elim .skip fun x=>x.2.2)
def ret81:List RV:=[.tmp 4,.tmp 5,.tmp 6,.tmp 7]
theorem comp81:compF Tryz.prog Tryz.f81 loops81=some (77,ret81,code81):=by kernel_rfl
def J81_1  (R:Value->Heap->Prop) (h h_:Heap) (i:Int) (next_:(Int->Heap->Prop)) (h_4:Heap):Prop:=
 ∃ (A12:Option Addr) (N12 C12:Nat),cellH h_4 (Addr.add ⟨h.size,0,none⟩ 2)=some (.slice A12 N12 C12)/\0≤i/\i<(N12:Nat)/\AtP A12 fun ad=>∃ (t3:Int),cellH h_4 (Addr.add (Addr.add ad (Int.toNat i*3)) 2)=some (.int .i64 t3)/\PIf (t3=0)
 (∃ (A13:Option Addr) (N13 C13:Nat),cellH h_4 (Addr.add ⟨h_.size,0,none⟩ 0)=some (.slice A13 N13 C13)/\0≤i/\i<(N13:Nat)/\AtP A13 fun ad1=>∃ (t4:Bool),cellH h_4 (Addr.add ad1 (Int.toNat i*1))=some (.bool t4)/\BIf t4 (R (.tuple #[.slice none 0 0,.slice none 0 0,.int .i64 i,.int .i64 134]) h_4) (PIf (t3=1)
 (∃ (A14:Option Addr) (N14 C14:Nat),cellH h_4 (Addr.add ⟨h_.size,0,none⟩ 0)=some (.slice A14 N14 C14)/\0≤i/\i<(N14:Nat)/\AtP A14 fun ad2=>∃ (t5:Bool),cellH h_4 (Addr.add ad2 (Int.toNat i*1))=some (.bool t5)/\BIf (!t5) (R (.tuple #[.slice none 0 0,.slice none 0 0,.int .i64 i,.int .i64 134]) h_4) (next_ (IntKind.wrap .i64 (i+1)) h_4))
 (next_ (IntKind.wrap .i64 (i+1)) h_4)))
 (PIf (t3=1)
 (∃ (A15:Option Addr) (N15 C15:Nat),cellH h_4 (Addr.add ⟨h_.size,0,none⟩ 0)=some (.slice A15 N15 C15)/\0≤i/\i<(N15:Nat)/\AtP A15 fun ad3=>∃ (t6:Bool),cellH h_4 (Addr.add ad3 (Int.toNat i*1))=some (.bool t6)/\BIf (!t6) (R (.tuple #[.slice none 0 0,.slice none 0 0,.int .i64 i,.int .i64 134]) h_4) (next_ (IntKind.wrap .i64 (i+1)) h_4))
 (next_ (IntKind.wrap .i64 (i+1)) h_4))
def J81_3  (R:Value->Heap->Prop) (A28:(Option Addr)) (N28:Nat) (i1:Int) (next_1:(Int->Heap->Prop)) (h_8:Heap):Prop:=
 0≤i1/\i1<(N28:Nat)/\AtP A28 fun ad4=>∃ (t9:Bool),cellH h_8 (Addr.add (Addr.add ad4 (Int.toNat i1*4)) 1)=some (.bool t9)/\BIf (!t9) (R (.tuple #[.slice none 0 0,.slice none 0 0,.int .i64 i1,.int .i64 130]) h_8) (next_1 (IntKind.wrap .i64 (i1+1)) h_8)
def J81_2  (R:Value->Heap->Prop) (A28:(Option Addr)) (N28 C28:Nat) (A29:(Option Addr)) (N29 C29:Nat) (h_9:Heap):Prop:=
 R (.tuple #[.slice A28 N28 C28,.slice A29 N29 C29,.int .i64 0,.int .i64 0]) h_9
def B81_4 (R:Value->Heap->Prop) (A28:(Option Addr)) (N28 C28:Nat) (A29:(Option Addr)) (N29 C29:Nat) (i1:Int) (h_7:Heap) (next_1:Int->Heap->Prop):Prop:=
 PIf (i1<((N28:Nat):Int))
 (J81_3 R A28 N28 i1 next_1 h_7)
 (J81_2 R A28 N28 C28 A29 N29 C29 h_7)
def J81_0  (P:Program) (R:Value->Heap->Prop) (h h_:Heap) (A10:(Option Addr)) (N10 C10:Nat) (h_5:Heap):Prop:=
 LdC h_5 ⟨h.size,0,none⟩ fun t7=>LdT h_5 ⟨h_.size,0,none⟩ fun t8=>CallsH P 127 #[t7.v,.slice A10 N10 C10,t8.v] h_5 fun v1 h_6=>
 ∃ (A28:Option Addr) (N28 C28:Nat) (A29:Option Addr) (N29 C29:Nat),v1=(.tuple #[.slice A28 N28 C28,.slice A29 N29 C29])/\LoopT (σ:=Int) (fun st_ h_st nx_st=>B81_4 R A28 N28 C28 A29 N29 C29 (st_) h_st nx_st) (0) h_6
def B81_5 (P:Program) (R:Value->Heap->Prop) (h h_:Heap) (A10:(Option Addr)) (N10 C10:Nat) (i:Int) (h_3:Heap) (next_:Int->Heap->Prop):Prop:=
 ∃ (A11:Option Addr) (N11 C11:Nat),cellH h_3 (Addr.add ⟨h.size,0,none⟩ 2)=some (.slice A11 N11 C11)/\PIf (i<((N11:Nat):Int))
 (J81_1 R h h_ i next_ h_3)
 (J81_0 P R h h_ A10 N10 C10 h_3)
def VC81 (P:Program) (c:CV) (t:TV) (R:Value->Heap->Prop) (h:Heap):Prop:=
 let h_:Heap:=(h).push (.cells (Value.cells c.v) 29);let h_1:Heap:=(h_).push (.cells (Value.cells t.v) 49);LdC h_1 ⟨h.size,0,none⟩ fun t1=>CallsH P 82 #[t1.v] h_1 fun v h_2=>
 ∃ (A10:Option Addr) (N10 C10:Nat) (t2:Int),v=(.tuple #[.slice A10 N10 C10,.int .i64 t2])/\LoopT (σ:=Int) (fun st_ h_st nx_st=>B81_5 P R h h_ A10 N10 C10 (st_) h_st nx_st) (0) h_2
theorem run81 (c:CV) (t:TV) (R:Value->Heap->Prop) (h:Heap) (hv:VC81 Tryz.prog c t R h):CallsH Tryz.prog 81 #[c.v,t.v] h R:=calls_of_fnC (Checked.mixed Tryz.checked) Tryz.func81 comp81 (Nat.le_of_ble_eq_true rfl) (Eq.mp (by kernel_rfl) hv)
def loops145:List (List (Nat×Shp)):=[[(5,.int .i64)]]
noncomputable def code145:SCode:=((compF Tryz.prog Tryz.f145 loops145).elim .skip fun x=>x.2.2)
def ret145:List RV:=[.tmp 4]
theorem comp145:compF Tryz.prog Tryz.f145 loops145=some (18,ret145,code145):=by kernel_rfl
def J145_1  (R:Value->Heap->Prop) (lA:(Option Addr)) (lN:Nat) (n i:Int) (next_:(Int->Heap->Prop)) (h_1:Heap):Prop:=
 0≤i/\i<(lN:Nat)/\AtP lA fun ad=>∃ (t:Int),cellH h_1 (Addr.add ad (Int.toNat i*1))=some (.int .i64 t)/\PIf (t=n)
 (R (.bool true) h_1)
 (next_ (IntKind.wrap .i64 (i+1)) h_1)
def J145_0  (R:Value->Heap->Prop) (h_2:Heap):Prop:=
 R (.bool false) h_2
def B145_2 (R:Value->Heap->Prop) (lA:(Option Addr)) (lN:Nat) (n i:Int) (h_:Heap) (next_:Int->Heap->Prop):Prop:=
 PIf (i<((lN:Nat):Int))
 (J145_1 R lA lN n i next_ h_)
 (J145_0 R h_)
def VC145 (P:Program) (lA:Option Addr) (lN lC:Nat) (n:Int) (R:Value->Heap->Prop) (h:Heap):Prop:=
 LoopT (σ:=Int) (fun st_ h_st nx_st=>B145_2 R lA lN n (st_) h_st nx_st) (0) h
theorem run145 (lA:Option Addr) (lN lC:Nat) (n:Int) (R:Value->Heap->Prop) (h:Heap) (hv:VC145 Tryz.prog lA lN lC n R h):CallsH Tryz.prog 145 #[.slice lA lN lC,.int .i64 n] h R:=calls_of_fnC (Checked.mixed Tryz.checked) Tryz.func145 comp145 (Nat.le_of_ble_eq_true rfl) (Eq.mp (by kernel_rfl) hv)
def loops127:List (List (Nat×Shp)):=[[(8,.slice),(9,.slice),(10,.int .i64)]]
noncomputable def code127:SCode:=((compF Tryz.prog Tryz.f127 loops127).elim .skip fun x=>x.2.2)
def ret127:List RV:=[.tmp 6,.tmp 7]
theorem comp127:compF Tryz.prog Tryz.f127 loops127=some (44,ret127,code127):=by kernel_rfl
def J127_1  (P:Program) (h:Heap) (orderA:(Option Addr)) (orderN orderC:Nat) (h_:Heap) (stateA:(Option Addr)) (stateN stateC:Nat) (outA:(Option Addr)) (outN outC:Nat) (i:Int) (next_:((Option Addr×Nat×Nat)×(Option Addr×Nat×Nat)×Int->Heap->Prop)) (h_5:Heap):Prop:=
 LdC h_5 ⟨h.size,0,none⟩ fun t1=>∃ (A12:Option Addr) (N12 C12:Nat),cellH h_5 (Addr.add ⟨h_.size,0,none⟩ 1)=some (.slice A12 N12 C12)/\0≤i/\i<(N12:Nat)/\AtP A12 fun ad=>∃ (A13:Option Addr) (N13 C13:Nat),cellH h_5 (Addr.add ad (Int.toNat i*1))=some (.slice A13 N13 C13)/\CallsH P 83 #[t1.v,.slice orderA orderN orderC,.slice stateA stateN stateC,.slice A13 N13 C13] h_5 fun v h_6=>
 ∃ (A14:Option Addr) (N14 C14:Nat),v=(.slice A14 N14 C14)/\LdC h_6 ⟨h.size,0,none⟩ fun t2=>CallsH P 166 #[t2.v,.slice stateA stateN stateC,.slice A14 N14 C14] h_6 fun v1 h_7=>
 ∃ (A25:Option Addr) (N25 C25:Nat) (t3:Bool) (A26:Option Addr) (N26 C26:Nat) (A27:Option Addr) (N27 C27:Nat),v1=(.agg #[.slice A25 N25 C25,.bool t3,.slice A26 N26 C26,.slice A27 N27 C27])/\let h_8:Heap:=(h_7).push (.cells #[.slice A25 N25 C25,.bool t3,.slice A26 N26 C26,.slice A27 N27 C27] 131);∃ ys1:List Value,ReadL h_8 (some ⟨h_7.size,0,none⟩) ys1/\ys1.length=1*4/\AppS h_8 outA outN outC 131 80 4 #[.slice none 0 0,.bool false,.slice none 0 0,.slice none 0 0] ys1 1 fun apA1 apN1 apC1 h_9=>LdC h_9 ⟨h.size,0,none⟩ fun t4=>CallsH P 97 #[t4.v,.slice A14 N14 C14] h_9 fun v2 h_10=>
 ∃ (A38:Option Addr) (N38 C38:Nat),v2=(.slice A38 N38 C38)/\next_ ((A38,N38,C38),(apA1,apN1,apC1),(IntKind.wrap .i64 (i+1))) h_10
def J127_0  (R:Value->Heap->Prop) (stateA1:Option Addr) (stateN1 stateC1:Nat) (outA1:Option Addr) (outN1 outC1:Nat) (h_11:Heap):Prop:=
 R (.tuple #[.slice outA1 outN1 outC1,.slice stateA1 stateN1 stateC1]) h_11
def B127_2 (P:Program) (R:Value->Heap->Prop) (h:Heap) (orderA:(Option Addr)) (orderN orderC:Nat) (h_:Heap) (stateA:Option Addr) (stateN stateC:Nat) (outA:Option Addr) (outN outC:Nat) (i:Int) (h_4:Heap) (next_:(Option Addr×Nat×Nat)×(Option Addr×Nat×Nat)×Int->Heap->Prop):Prop:=
 ∃ (A1:Option Addr) (N1 C1:Nat),cellH h_4 (Addr.add ⟨h_.size,0,none⟩ 1)=some (.slice A1 N1 C1)/\PIf (i<((N1:Nat):Int))
 (J127_1 P h orderA orderN orderC h_ stateA stateN stateC outA outN outC i next_ h_4)
 (J127_0 R (stateA) (stateN) (stateC) (outA) (outN) (outC) h_4)
def VC127 (P:Program) (c:CV) (orderA:Option Addr) (orderN orderC:Nat) (t:TV) (R:Value->Heap->Prop) (h:Heap):Prop:=
 let h_:Heap:=(h).push (.cells (Value.cells c.v) 29);let h_1:Heap:=(h_).push (.cells (Value.cells t.v) 49);let h_2:Heap:=(h_1).push (.cells #[] 4);∃ (A:Option Addr) (N C:Nat),cellH h_2 (Addr.add ⟨h_.size,0,none⟩ 0)=some (.slice A N C)/\∃ ys:List Value,ReadL h_2 A ys/\ys.length=N*1/\AppS h_2 (some ⟨h_1.size,0,none⟩) 0 0 4 1 1 #[.bool false] ys N fun apA apN apC h_3=>LoopT (σ:=(Option Addr×Nat×Nat)×(Option Addr×Nat×Nat)×Int) (fun st_ h_st nx_st=>B127_2 P R h orderA orderN orderC h_ (st_.1.1) (st_.1.2.1) (st_.1.2.2) (st_.2.1.1) (st_.2.1.2.1) (st_.2.1.2.2) (st_.2.2) h_st nx_st) ((apA,apN,apC),(none,0,0),0) h_3
theorem run127 (c:CV) (orderA:Option Addr) (orderN orderC:Nat) (t:TV) (R:Value->Heap->Prop) (h:Heap) (hv:VC127 Tryz.prog c orderA orderN orderC t R h):CallsH Tryz.prog 127 #[c.v,.slice orderA orderN orderC,t.v] h R:=calls_of_fnC (Checked.mixed Tryz.checked) Tryz.func127 comp127 (Nat.le_of_ble_eq_true rfl) (Eq.mp (by kernel_rfl) hv)
def loops83:List (List (Nat×Shp)):=[[(10,.int .i64)],[(11,.int .i64)],[(12,.int .i64)]]
noncomputable def code83:SCode:=((compF Tryz.prog Tryz.f83 loops83).elim .skip fun x=>x.2.2)
def ret83:List RV:=[.tmp 8]
theorem comp83:compF Tryz.prog Tryz.f83 loops83=some (87,ret83,code83):=by kernel_rfl
def J83_1  (h:Heap) (rowA:(Option Addr)) (rowN:Nat) (h_:Heap) (t i:Int) (next_:(Int->Heap->Prop)) (h_3:Heap):Prop:=
 ∃ (A1:Option Addr) (N1 C1:Nat),cellH h_3 (Addr.add ⟨h.size,0,none⟩ 1)=some (.slice A1 N1 C1)/\0≤i/\i<(N1:Nat)/\AtP A1 fun ad=>∃ (t1:Int),cellH h_3 (Addr.add ad (Int.toNat i*1))=some (.int .i64 t1)/\0≤i/\i<(rowN:Nat)/\AtP rowA fun ad1=>∃ (t2:Bool),cellH h_3 (Addr.add ad1 (Int.toNat i*1))=some (.bool t2)/\0≤((IntKind.wrap .i64 (Int.tdiv t1 2)):Int)/\((IntKind.wrap .i64 (Int.tdiv t1 2)):Int)<((Int.toNat (IntKind.wrap .i64 (t+1))):Nat)/\StoreH h_3 (Addr.add ⟨h_.size,0,none⟩ (Int.toNat (IntKind.wrap .i64 (Int.tdiv t1 2))*1)) [.bool t2] fun h_4=>next_ (IntKind.wrap .i64 (i+1)) h_4
def J83_3  (h:Heap) (stateA:(Option Addr)) (stateN:Nat) (h_:Heap) (t i1:Int) (next_1:(Int->Heap->Prop)) (h_7:Heap):Prop:=
 ∃ (A3:Option Addr) (N3 C3:Nat),cellH h_7 (Addr.add ⟨h.size,0,none⟩ 2)=some (.slice A3 N3 C3)/\0≤i1/\i1<(N3:Nat)/\AtP A3 fun ad2=>∃ (t3:Int),cellH h_7 (Addr.add (Addr.add ad2 (Int.toNat i1*3)) 0)=some (.int .i64 t3)/\0≤i1/\i1<(stateN:Nat)/\AtP stateA fun ad3=>∃ (t4:Bool),cellH h_7 (Addr.add ad3 (Int.toNat i1*1))=some (.bool t4)/\0≤((IntKind.wrap .i64 (Int.tdiv t3 2)):Int)/\((IntKind.wrap .i64 (Int.tdiv t3 2)):Int)<((Int.toNat (IntKind.wrap .i64 (t+1))):Nat)/\StoreH h_7 (Addr.add ⟨h_.size,0,none⟩ (Int.toNat (IntKind.wrap .i64 (Int.tdiv t3 2))*1)) [.bool t4] fun h_8=>next_1 (IntKind.wrap .i64 (i1+1)) h_8
def J83_5  (P:Program) (h:Heap) (orderA:(Option Addr)) (orderN:Nat) (h_:Heap) (t i2:Int) (next_2:(Int->Heap->Prop)) (h_11:Heap):Prop:=
 (Addr.block (Addr.add ⟨h.size,0,none⟩ 8))<(h_11).size/\∃ (A4:Option Addr) (N4 C4:Nat),cellH h_11 (Addr.add ⟨h.size,0,none⟩ 8)=some (.slice A4 N4 C4)/\0≤i2/\i2<(orderN:Nat)/\AtP orderA fun ad4=>(Addr.block (Addr.add ad4 (Int.toNat i2*1)))<(h_11).size/\∃ (t5:Int),cellH h_11 (Addr.add ad4 (Int.toNat i2*1))=some (.int .i64 t5)/\0≤t5/\t5<(N4:Nat)/\AtP A4 fun ad5=>(Addr.block (Addr.add ad5 (Int.toNat t5*3)))<(h_11).size/\∃ (t6 t7 t8:Int),cellsH h_11 (Addr.add ad5 (Int.toNat t5*3)) 0 [.int .i64 t6,.int .i64 t7,.int .i64 t8]/\let h_12:Heap:=(h_11).push (.cells #[.int .i64 0,.int .i64 0,.int .i64 0] 67);AgreeH (h_11).size h_11 h_12/\StoreH h_12 ⟨h_11.size,0,none⟩ [.int .i64 t6,.int .i64 t7,.int .i64 t8] fun h_13=>(Addr.block (Addr.add ⟨h_11.size,0,none⟩ 0))<(h_13).size/\∃ (t9:Int),cellH h_13 (Addr.add ⟨h_11.size,0,none⟩ 0)=some (.int .i64 t9)/\(Addr.block (Addr.add ⟨h_11.size,0,none⟩ 1))<(h_13).size/\∃ (t10:Int),cellH h_13 (Addr.add ⟨h_11.size,0,none⟩ 1)=some (.int .i64 t10)/\CallsH P 58 #[(.slice (some ⟨h_.size,0,none⟩) (Int.toNat (IntKind.wrap .i64 (t+1))) (Int.toNat (IntKind.wrap .i64 (t+1)))),.int .i64 t10] h_13 fun v h_14=>
 ∃ (t11:Bool),v=(.bool t11)/\AgreeH (h_13).size h_13 h_14/\BIf t11 ((Addr.block (Addr.add ⟨h_11.size,0,none⟩ 2))<(h_13).size/\∃ (t12:Int),cellH h_14 (Addr.add ⟨h_11.size,0,none⟩ 2)=some (.int .i64 t12)/\CallsH P 58 #[(.slice (some ⟨h_.size,0,none⟩) (Int.toNat (IntKind.wrap .i64 (t+1))) (Int.toNat (IntKind.wrap .i64 (t+1)))),.int .i64 t12] h_14 fun v1 h_15=>
 ∃ (t13:Bool),v1=(.bool t13)/\AgreeH (h_13).size h_14 h_15/\0≤((IntKind.wrap .i64 (Int.tdiv t9 2)):Int)/\((IntKind.wrap .i64 (Int.tdiv t9 2)):Int)<((Int.toNat (IntKind.wrap .i64 (t+1))):Nat)/\StoreH h_15 (Addr.add ⟨h_.size,0,none⟩ (Int.toNat (IntKind.wrap .i64 (Int.tdiv t9 2))*1)) [.bool t13] fun h_16=>next_2 (IntKind.wrap .i64 (i2+1)) h_16) (0≤((IntKind.wrap .i64 (Int.tdiv t9 2)):Int)/\((IntKind.wrap .i64 (Int.tdiv t9 2)):Int)<((Int.toNat (IntKind.wrap .i64 (t+1))):Nat)/\StoreH h_14 (Addr.add ⟨h_.size,0,none⟩ (Int.toNat (IntKind.wrap .i64 (Int.tdiv t9 2))*1)) [.bool false] fun h_17=>next_2 (IntKind.wrap .i64 (i2+1)) h_17)
def J83_4  (R:Value->Heap->Prop) (h_:Heap) (t:Int) (h_18:Heap):Prop:=
 R (.slice (some ⟨h_.size,0,none⟩) (Int.toNat (IntKind.wrap .i64 (t+1))) (Int.toNat (IntKind.wrap .i64 (t+1)))) h_18
def B83_6 (P:Program) (R:Value->Heap->Prop) (h:Heap) (orderA:(Option Addr)) (orderN:Nat) (h_:Heap) (t i2:Int) (h_10:Heap) (next_2:Int->Heap->Prop):Prop:=
 PIf (i2<((orderN:Nat):Int))
 (J83_5 P h orderA orderN h_ t i2 next_2 h_10)
 (J83_4 R h_ t h_10)
def J83_2  (P:Program) (R:Value->Heap->Prop) (h:Heap) (orderA:(Option Addr)) (orderN:Nat) (h_:Heap) (t:Int) (h_9:Heap):Prop:=
 LoopT (σ:=Int) (fun st_ h_st nx_st=>B83_6 P R h orderA orderN h_ t (st_) h_st nx_st) (0) h_9
def B83_7 (P:Program) (R:Value->Heap->Prop) (h:Heap) (orderA:(Option Addr)) (orderN:Nat) (stateA:(Option Addr)) (stateN:Nat) (h_:Heap) (t i1:Int) (h_6:Heap) (next_1:Int->Heap->Prop):Prop:=
 ∃ (A2:Option Addr) (N2 C2:Nat),cellH h_6 (Addr.add ⟨h.size,0,none⟩ 2)=some (.slice A2 N2 C2)/\PIf (i1<((N2:Nat):Int))
 (J83_3 h stateA stateN h_ t i1 next_1 h_6)
 (J83_2 P R h orderA orderN h_ t h_6)
def J83_0  (P:Program) (R:Value->Heap->Prop) (h:Heap) (orderA:(Option Addr)) (orderN:Nat) (stateA:(Option Addr)) (stateN:Nat) (h_:Heap) (t:Int) (h_5:Heap):Prop:=
 LoopT (σ:=Int) (fun st_ h_st nx_st=>B83_7 P R h orderA orderN stateA stateN h_ t (st_) h_st nx_st) (0) h_5
def B83_8 (P:Program) (R:Value->Heap->Prop) (h:Heap) (orderA:(Option Addr)) (orderN:Nat) (stateA:(Option Addr)) (stateN:Nat) (rowA:(Option Addr)) (rowN:Nat) (h_:Heap) (t i:Int) (h_2:Heap) (next_:Int->Heap->Prop):Prop:=
 ∃ (A:Option Addr) (N C:Nat),cellH h_2 (Addr.add ⟨h.size,0,none⟩ 1)=some (.slice A N C)/\PIf (i<((N:Nat):Int))
 (J83_1 h rowA rowN h_ t i next_ h_2)
 (J83_0 P R h orderA orderN stateA stateN h_ t h_2)
def VC83 (P:Program) (c:CV) (orderA:Option Addr) (orderN orderC:Nat) (stateA:Option Addr) (stateN stateC:Nat) (rowA:Option Addr) (rowN rowC:Nat) (R:Value->Heap->Prop) (h:Heap):Prop:=
 let h_:Heap:=(h).push (.cells (Value.cells c.v) 29);∃ (t:Int),cellH h_ (Addr.add ⟨h.size,0,none⟩ 0)=some (.int .i64 t)/\0≤((IntKind.wrap .i64 (t+1)):Int)/\((IntKind.wrap .i64 (t+1)):Int)≤(IntKind.wrap .i64 (t+1))/\(1:Int)*(IntKind.wrap .i64 (t+1))≤281474976710656/\let h_1:Heap:=(h_).push (.cells (zeroRow #[.bool false] (Int.toNat (IntKind.wrap .i64 (t+1))*1)).toArray 4);LoopT (σ:=Int) (fun st_ h_st nx_st=>B83_8 P R h orderA orderN stateA stateN rowA rowN h_ t (st_) h_st nx_st) (0) h_1
theorem run83 (c:CV) (orderA:Option Addr) (orderN orderC:Nat) (stateA:Option Addr) (stateN stateC:Nat) (rowA:Option Addr) (rowN rowC:Nat) (R:Value->Heap->Prop) (h:Heap) (hv:VC83 Tryz.prog c orderA orderN orderC stateA stateN stateC rowA rowN rowC R h):CallsH Tryz.prog 83 #[c.v,.slice orderA orderN orderC,.slice stateA stateN stateC,.slice rowA rowN rowC] h R:=calls_of_fnC (Checked.mixed Tryz.checked) Tryz.func83 comp83 (Nat.le_of_ble_eq_true rfl) (Eq.mp (by kernel_rfl) hv)
def loops166:List (List (Nat×Shp)):=[[(8,.int .i64)],[(9,.int .i64)],[(10,.int .i64)],[(11,.int .i64)]]
noncomputable def code166:SCode:=((compF Tryz.prog Tryz.f166 loops166).elim .skip fun x=>x.2.2)
def ret166:List RV:=[.cellN 6 [.slice,.bool,.slice,.slice]]
theorem comp166:compF Tryz.prog Tryz.f166 loops166=some (97,ret166,code166):=by kernel_rfl
def J166_1  (P:Program) (h:Heap) (vA:(Option Addr)) (vN vC b1:Nat) (i:Int) (next_:(Int->Heap->Prop)) (h_11:Heap):Prop:=
 ∃ (A2:Option Addr) (N2 C2:Nat),cellH h_11 (Addr.add ⟨h.size,0,none⟩ 4)=some (.slice A2 N2 C2)/\0≤i/\i<(N2:Nat)/\AtP A2 fun ad=>∃ (t1:Int),cellH h_11 (Addr.add ad (Int.toNat i*1))=some (.int .i64 t1)/\CallsH P 58 #[.slice vA vN vC,.int .i64 t1] h_11 fun v1 h_12=>
 ∃ (t2:Bool),v1=(.bool t2)/\BIf t2 (∃ (A3:Option Addr) (N3 C3:Nat),cellH h_12 (Addr.add (Addr.mk b1 0 none) 2)=some (.slice A3 N3 C3)/\let h_13:Heap:=(h_12).push (.cells #[.int .i64 i] 3);∃ ys1:List Value,ReadL h_13 (some ⟨h_12.size,0,none⟩) ys1/\ys1.length=1*1/\AppS h_13 A3 N3 C3 3 8 1 #[.int .i64 0] ys1 1 fun apA1 apN1 apC1 h_14=>StoreH h_14 (Addr.add (Addr.mk b1 0 none) 2) [.slice apA1 apN1 apC1] fun h_15=>next_ (IntKind.wrap .i64 (i+1)) h_15) (next_ (IntKind.wrap .i64 (i+1)) h_12)
def J166_5  (P:Program) (h:Heap) (vA:(Option Addr)) (vN vC b1:Nat) (i1 k:Int) (next_2:(Int->Heap->Prop)) (h_20:Heap):Prop:=
 ∃ (A7:Option Addr) (N7 C7:Nat),cellH h_20 (Addr.add ⟨h.size,0,none⟩ 6)=some (.slice A7 N7 C7)/\0≤i1/\i1<(N7:Nat)/\AtP A7 fun ad2=>∃ (A8:Option Addr) (N8 C8:Nat),cellH h_20 (Addr.add ad2 (Int.toNat i1*1))=some (.slice A8 N8 C8)/\0≤k/\k<(N8:Nat)/\AtP A8 fun ad3=>∃ (t3:Int),cellH h_20 (Addr.add ad3 (Int.toNat k*1))=some (.int .i64 t3)/\CallsH P 58 #[.slice vA vN vC,.int .i64 t3] h_20 fun v2 h_21=>
 ∃ (t4:Bool),v2=(.bool t4)/\BIf t4 (∃ (A9:Option Addr) (N9 C9:Nat),cellH h_21 (Addr.add (Addr.mk b1 0 none) 3)=some (.slice A9 N9 C9)/\let h_22:Heap:=(h_21).push (.cells #[.int .i64 i1,.int .i64 k] 201);∃ ys2:List Value,ReadL h_22 (some ⟨h_21.size,0,none⟩) ys2/\ys2.length=1*2/\AppS h_22 A9 N9 C9 201 16 2 #[.int .i64 0,.int .i64 0] ys2 1 fun apA2 apN2 apC2 h_23=>StoreH h_23 (Addr.add (Addr.mk b1 0 none) 3) [.slice apA2 apN2 apC2] fun h_24=>next_2 (IntKind.wrap .i64 (k+1)) h_24) (next_2 (IntKind.wrap .i64 (k+1)) h_21)
def J166_4  (i1:Int) (next_1:(Int->Heap->Prop)) (h_25:Heap):Prop:=
 next_1 (IntKind.wrap .i64 (i1+1)) h_25
def B166_6 (P:Program) (h:Heap) (vA:(Option Addr)) (vN vC b1:Nat) (i1:Int) (next_1:(Int->Heap->Prop)) (k:Int) (h_19:Heap) (next_2:Int->Heap->Prop):Prop:=
 ∃ (A5:Option Addr) (N5 C5:Nat),cellH h_19 (Addr.add ⟨h.size,0,none⟩ 6)=some (.slice A5 N5 C5)/\0≤i1/\i1<(N5:Nat)/\AtP A5 fun ad1=>∃ (A6:Option Addr) (N6 C6:Nat),cellH h_19 (Addr.add ad1 (Int.toNat i1*1))=some (.slice A6 N6 C6)/\PIf (k<((N6:Nat):Int))
 (J166_5 P h vA vN vC b1 i1 k next_2 h_19)
 (J166_4 i1 next_1 h_19)
def J166_3  (P:Program) (h:Heap) (vA:(Option Addr)) (vN vC b1:Nat) (i1:Int) (next_1:(Int->Heap->Prop)) (h_18:Heap):Prop:=
 LoopT (σ:=Int) (fun st_ h_st nx_st=>B166_6 P h vA vN vC b1 i1 next_1 (st_) h_st nx_st) (0) h_18
def J166_8  (P:Program) (h:Heap) (vA:(Option Addr)) (vN vC b1:Nat) (k1:Int) (next_3:(Int->Heap->Prop)) (h_28:Heap):Prop:=
 ∃ (A11:Option Addr) (N11 C11:Nat),cellH h_28 (Addr.add ⟨h.size,0,none⟩ 7)=some (.slice A11 N11 C11)/\0≤k1/\k1<(N11:Nat)/\AtP A11 fun ad4=>∃ (t5:Int),cellH h_28 (Addr.add ad4 (Int.toNat k1*1))=some (.int .i64 t5)/\CallsH P 58 #[.slice vA vN vC,.int .i64 t5] h_28 fun v3 h_29=>
 ∃ (t6:Bool),v3=(.bool t6)/\BIf t6 (∃ (A12:Option Addr) (N12 C12:Nat),cellH h_29 (Addr.add (Addr.mk b1 0 none) 3)=some (.slice A12 N12 C12)/\let h_30:Heap:=(h_29).push (.cells #[(.int .i64 (-1)),.int .i64 k1] 201);∃ ys3:List Value,ReadL h_30 (some ⟨h_29.size,0,none⟩) ys3/\ys3.length=1*2/\AppS h_30 A12 N12 C12 201 16 2 #[.int .i64 0,.int .i64 0] ys3 1 fun apA3 apN3 apC3 h_31=>StoreH h_31 (Addr.add (Addr.mk b1 0 none) 3) [.slice apA3 apN3 apC3] fun h_32=>next_3 (IntKind.wrap .i64 (k1+1)) h_32) (next_3 (IntKind.wrap .i64 (k1+1)) h_29)
def J166_7  (R:Value->Heap->Prop) (h_:Heap) (b1:Nat) (h_33:Heap):Prop:=
 ∃ (A13:Option Addr) (N13 C13:Nat) (t7:Bool) (A14:Option Addr) (N14 C14:Nat) (A15:Option Addr) (N15 C15:Nat),cellsH h_33 (Addr.mk b1 0 none) 0 [.slice A13 N13 C13,.bool t7,.slice A14 N14 C14,.slice A15 N15 C15]/\StoreH h_33 ⟨h_.size,0,none⟩ [.slice A13 N13 C13,.bool t7,.slice A14 N14 C14,.slice A15 N15 C15] fun h_34=>∃ (A16:Option Addr) (N16 C16:Nat) (t8:Bool) (A17:Option Addr) (N17 C17:Nat) (A18:Option Addr) (N18 C18:Nat),cellsH h_34 ⟨h_.size,0,none⟩ 0 [.slice A16 N16 C16,.bool t8,.slice A17 N17 C17,.slice A18 N18 C18]/\R (.agg #[.slice A16 N16 C16,.bool t8,.slice A17 N17 C17,.slice A18 N18 C18]) h_34
def B166_9 (P:Program) (R:Value->Heap->Prop) (h:Heap) (vA:(Option Addr)) (vN vC:Nat) (h_:Heap) (b1:Nat) (k1:Int) (h_27:Heap) (next_3:Int->Heap->Prop):Prop:=
 ∃ (A10:Option Addr) (N10 C10:Nat),cellH h_27 (Addr.add ⟨h.size,0,none⟩ 7)=some (.slice A10 N10 C10)/\PIf (k1<((N10:Nat):Int))
 (J166_8 P h vA vN vC b1 k1 next_3 h_27)
 (J166_7 R h_ b1 h_27)
def J166_2  (P:Program) (R:Value->Heap->Prop) (h:Heap) (vA:(Option Addr)) (vN vC:Nat) (h_:Heap) (b1:Nat) (h_26:Heap):Prop:=
 LoopT (σ:=Int) (fun st_ h_st nx_st=>B166_9 P R h vA vN vC h_ b1 (st_) h_st nx_st) (0) h_26
def B166_10 (P:Program) (R:Value->Heap->Prop) (h:Heap) (vA:(Option Addr)) (vN vC:Nat) (h_:Heap) (b1:Nat) (i1:Int) (h_17:Heap) (next_1:Int->Heap->Prop):Prop:=
 ∃ (A4:Option Addr) (N4 C4:Nat),cellH h_17 (Addr.add ⟨h.size,0,none⟩ 6)=some (.slice A4 N4 C4)/\PIf (i1<((N4:Nat):Int))
 (J166_3 P h vA vN vC b1 i1 next_1 h_17)
 (J166_2 P R h vA vN vC h_ b1 h_17)
def J166_0  (P:Program) (R:Value->Heap->Prop) (h:Heap) (vA:(Option Addr)) (vN vC:Nat) (h_:Heap) (b1:Nat) (h_16:Heap):Prop:=
 LoopT (σ:=Int) (fun st_ h_st nx_st=>B166_10 P R h vA vN vC h_ b1 (st_) h_st nx_st) (0) h_16
def B166_11 (P:Program) (R:Value->Heap->Prop) (h:Heap) (vA:(Option Addr)) (vN vC:Nat) (h_:Heap) (b1:Nat) (i:Int) (h_10:Heap) (next_:Int->Heap->Prop):Prop:=
 ∃ (A1:Option Addr) (N1 C1:Nat),cellH h_10 (Addr.add ⟨h.size,0,none⟩ 4)=some (.slice A1 N1 C1)/\PIf (i<((N1:Nat):Int))
 (J166_1 P h vA vN vC b1 i next_ h_10)
 (J166_0 P R h vA vN vC h_ b1 h_10)
def VC166 (P:Program) (c:CV) (stateA:Option Addr) (stateN stateC:Nat) (vA:Option Addr) (vN vC:Nat) (R:Value->Heap->Prop) (h:Heap):Prop:=
 let h_:Heap:=(h).push (.cells (Value.cells c.v) 29);let h_1:Heap:=(h_).push (.cells #[.slice none 0 0,.bool false,.slice none 0 0,.slice none 0 0] 131);∀ (U:Nat->Prop) (h_2:Heap) (b:Nat),GrowH none' h_1 U h_2->U b->(h_2)[b]?=some (Obj.cells #[] 4)->∀ (U1:Nat->Prop) (h_3:Heap),GrowH (minus U b) h_2 U1 h_3->∃ ys:List Value,ReadL h_3 stateA ys/\ys.length=stateN*1/\AppS h_3 (some (Addr.mk b 0 none)) 0 0 4 1 1 #[.bool false] ys stateN fun apA apN apC h_4=>Keeps (h_1).size U1 h_3 h_4/\(Addr.block (Addr.add ⟨h.size,0,none⟩ 5))<(h_1).size/\∃ (A:Option Addr) (N C:Nat),cellH h_4 (Addr.add ⟨h.size,0,none⟩ 5)=some (.slice A N C)/\∀ (U2:Nat->Prop) (h_5:Heap),GrowH U1 h_4 U2 h_5->CallsH P 95 #[.slice vA vN vC,.slice A N C] h_5 fun v h_6=>
 ∃ (t:Bool),v=(.bool t)/\Keeps (h_1).size U2 h_5 h_6/\∀ (U3:Nat->Prop) (h_7:Heap) (b1:Nat),GrowH U2 h_6 U3 h_7->U3 b1->(h_7)[b1]?=some (Obj.cells #[.slice none 0 0,.bool false,.slice none 0 0,.slice none 0 0] 131)->∀ (U4:Nat->Prop) (h_8:Heap),GrowH (minus U3 b1) h_7 U4 h_8->StoreH h_8 (Addr.mk b1 0 none) [.slice apA apN apC,.bool t,.slice none 0 0,.slice none 0 0] fun h_9=>(h_8).size≤(h_9).size/\LoopT (σ:=Int) (fun st_ h_st nx_st=>B166_11 P R h vA vN vC h_ b1 (st_) h_st nx_st) (0) h_9
theorem run166 (c:CV) (stateA:Option Addr) (stateN stateC:Nat) (vA:Option Addr) (vN vC:Nat) (R:Value->Heap->Prop) (h:Heap) (hv:VC166 Tryz.prog c stateA stateN stateC vA vN vC R h):CallsH Tryz.prog 166 #[c.v,.slice stateA stateN stateC,.slice vA vN vC] h R:=calls_of_fnC (Checked.mixed Tryz.checked) Tryz.func166 comp166 (Nat.le_of_ble_eq_true rfl) (Eq.mp (by kernel_rfl) hv)
def loops97:List (List (Nat×Shp)):=[[(6,.int .i64)]]
noncomputable def code97:SCode:=((compF Tryz.prog Tryz.f97 loops97).elim .skip fun x=>x.2.2)
def ret97:List RV:=[.tmp 4]
theorem comp97:compF Tryz.prog Tryz.f97 loops97=some (30,ret97,code97):=by kernel_rfl
def J97_1  (P:Program) (h:Heap) (valuesA:(Option Addr)) (valuesN valuesC:Nat) (h_:Heap) (N:Nat) (i:Int) (next_:(Int->Heap->Prop)) (h_3:Heap):Prop:=
 ∃ (A2:Option Addr) (N2 C2:Nat),cellH h_3 (Addr.add ⟨h.size,0,none⟩ 2)=some (.slice A2 N2 C2)/\0≤i/\i<(N2:Nat)/\AtP A2 fun ad=>∃ (t:Int),cellH h_3 (Addr.add (Addr.add ad (Int.toNat i*3)) 1)=some (.int .i64 t)/\CallsH P 58 #[.slice valuesA valuesN valuesC,.int .i64 t] h_3 fun v h_4=>
 ∃ (t1:Bool),v=(.bool t1)/\0≤i/\i<((Int.toNat ((N:Nat):Int)):Nat)/\StoreH h_4 (Addr.add ⟨h_.size,0,none⟩ (Int.toNat i*1)) [.bool t1] fun h_5=>next_ (IntKind.wrap .i64 (i+1)) h_5
def J97_0  (R:Value->Heap->Prop) (h_:Heap) (N:Nat) (h_6:Heap):Prop:=
 R (.slice (some ⟨h_.size,0,none⟩) (Int.toNat ((N:Nat):Int)) (Int.toNat ((N:Nat):Int))) h_6
def B97_2 (P:Program) (R:Value->Heap->Prop) (h:Heap) (valuesA:(Option Addr)) (valuesN valuesC:Nat) (h_:Heap) (N:Nat) (i:Int) (h_2:Heap) (next_:Int->Heap->Prop):Prop:=
 ∃ (A1:Option Addr) (N1 C1:Nat),cellH h_2 (Addr.add ⟨h.size,0,none⟩ 2)=some (.slice A1 N1 C1)/\PIf (i<((N1:Nat):Int))
 (J97_1 P h valuesA valuesN valuesC h_ N i next_ h_2)
 (J97_0 R h_ N h_2)
def VC97 (P:Program) (c:CV) (valuesA:Option Addr) (valuesN valuesC:Nat) (R:Value->Heap->Prop) (h:Heap):Prop:=
 let h_:Heap:=(h).push (.cells (Value.cells c.v) 29);∃ (A:Option Addr) (N C:Nat),cellH h_ (Addr.add ⟨h.size,0,none⟩ 2)=some (.slice A N C)/\0≤(((N:Nat):Int):Int)/\(((N:Nat):Int):Int)≤((N:Nat):Int)/\(1:Int)*((N:Nat):Int)≤281474976710656/\let h_1:Heap:=(h_).push (.cells (zeroRow #[.bool false] (Int.toNat ((N:Nat):Int)*1)).toArray 4);LoopT (σ:=Int) (fun st_ h_st nx_st=>B97_2 P R h valuesA valuesN valuesC h_ N (st_) h_st nx_st) (0) h_1
theorem run97 (c:CV) (valuesA:Option Addr) (valuesN valuesC:Nat) (R:Value->Heap->Prop) (h:Heap) (hv:VC97 Tryz.prog c valuesA valuesN valuesC R h):CallsH Tryz.prog 97 #[c.v,.slice valuesA valuesN valuesC] h R:=calls_of_fnC (Checked.mixed Tryz.checked) Tryz.func97 comp97 (Nat.le_of_ble_eq_true rfl) (Eq.mp (by kernel_rfl) hv)
def loops58:List (List (Nat×Shp)):=[]
noncomputable def code58:SCode:=((compF Tryz.prog Tryz.f58 loops58).elim .skip fun x=>x.2.2)
def ret58:List RV:=[.tmp 4]
theorem comp58:compF Tryz.prog Tryz.f58 loops58=some (14,ret58,code58):=by kernel_rfl
def VC58 (P:Program) (valuesA:Option Addr) (valuesN valuesC:Nat) (l:Int) (R:Value->Heap->Prop) (h:Heap):Prop:=
 0≤((IntKind.wrap .i64 (Int.tdiv l 2)):Int)/\((IntKind.wrap .i64 (Int.tdiv l 2)):Int)<(valuesN:Nat)/\AtP valuesA fun ad=>∃ (t:Bool),cellH h (Addr.add ad (Int.toNat (IntKind.wrap .i64 (Int.tdiv l 2))*1))=some (.bool t)/\PIf (((Int.tmod l 2):Int)=1)
 (PIf ((t:Bool)=true)
 (R (.bool false) h)
 (R (.bool true) h))
 (PIf ((t:Bool)=false)
 (R (.bool false) h)
 (R (.bool true) h))
theorem run58 (valuesA:Option Addr) (valuesN valuesC:Nat) (l:Int) (R:Value->Heap->Prop) (h:Heap) (hv:VC58 Tryz.prog valuesA valuesN valuesC l R h):CallsH Tryz.prog 58 #[.slice valuesA valuesN valuesC,.int .i64 l] h R:=calls_of_fnC (Checked.mixed Tryz.checked) Tryz.func58 comp58 (Nat.le_of_ble_eq_true rfl) (Eq.mp (by kernel_rfl) hv)
def loops95:List (List (Nat×Shp)):=[[(5,.int .i64)]]
noncomputable def code95:SCode:=((compF Tryz.prog Tryz.f95 loops95).elim .skip fun x=>x.2.2)
def ret95:List RV:=[.tmp 4]
theorem comp95:compF Tryz.prog Tryz.f95 loops95=some (19,ret95,code95):=by kernel_rfl
def J95_1  (P:Program) (R:Value->Heap->Prop) (valuesA:(Option Addr)) (valuesN valuesC:Nat) (lA:(Option Addr)) (lN:Nat) (i:Int) (next_:(Int->Heap->Prop)) (h_1:Heap):Prop:=
 0≤i/\i<(lN:Nat)/\AtP lA fun ad=>∃ (t:Int),cellH h_1 (Addr.add ad (Int.toNat i*1))=some (.int .i64 t)/\CallsH P 58 #[.slice valuesA valuesN valuesC,.int .i64 t] h_1 fun v h_2=>
 ∃ (t1:Bool),v=(.bool t1)/\BIf (!t1) (R (.bool false) h_2) (next_ (IntKind.wrap .i64 (i+1)) h_2)
def J95_0  (R:Value->Heap->Prop) (h_3:Heap):Prop:=
 R (.bool true) h_3
def B95_2 (P:Program) (R:Value->Heap->Prop) (valuesA:(Option Addr)) (valuesN valuesC:Nat) (lA:(Option Addr)) (lN:Nat) (i:Int) (h_:Heap) (next_:Int->Heap->Prop):Prop:=
 PIf (i<((lN:Nat):Int))
 (J95_1 P R valuesA valuesN valuesC lA lN i next_ h_)
 (J95_0 R h_)
def VC95 (P:Program) (valuesA:Option Addr) (valuesN valuesC:Nat) (lA:Option Addr) (lN lC:Nat) (R:Value->Heap->Prop) (h:Heap):Prop:=
 LoopT (σ:=Int) (fun st_ h_st nx_st=>B95_2 P R valuesA valuesN valuesC lA lN (st_) h_st nx_st) (0) h
theorem run95 (valuesA:Option Addr) (valuesN valuesC:Nat) (lA:Option Addr) (lN lC:Nat) (R:Value->Heap->Prop) (h:Heap) (hv:VC95 Tryz.prog valuesA valuesN valuesC lA lN lC R h):CallsH Tryz.prog 95 #[.slice valuesA valuesN valuesC,.slice lA lN lC] h R:=calls_of_fnC (Checked.mixed Tryz.checked) Tryz.func95 comp95 (Nat.le_of_ble_eq_true rfl) (Eq.mp (by kernel_rfl) hv)
end Go.Proofs.YtdpbdjdgdmheiaaGreat
