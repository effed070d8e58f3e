/- Words and facts that the claim's proof leans on. No condition. -/
import Derived.Test.YtdpbdjdgdmheiaaGreatHxV
import Derived.Test.YtdpbdjdgdmheiaaGreatChecked
set_option maxRecDepth 100000
set_option linter.unusedVariables false
namespace Go.Proofs.YtdpbdjdgdmheiaaGreat
open Go.Hx
def loops88:List (List (Nat×Shp)):=[[(11,.int .i64)]]
noncomputable def code88:SCode:=((compF Tryz.prog Tryz.f88 loops88).elim .skip fun x=>x.2.2)
def ret88:List RV:=[.tmp 4]
theorem comp88:compF Tryz.prog Tryz.f88 loops88=some (24,ret88,code88):=by kernel_rfl
def J88_1  (h:Heap) (n size t:Int) (next_:(Int->Heap->Prop)) (h_2:Heap):Prop:=
 0≤t/\PIf (((bop .and .u64 (n / 2 ^ min (Int.toNat t) (IntKind.bits .u64)) 1):Int)=1)
 (0≤t/\t<((Int.toNat size):Nat)/\StoreH h_2 (Addr.add ⟨h.size,0,none⟩ (Int.toNat t*1)) [.bool true] fun h_3=>next_ (IntKind.wrap .i64 (t+1)) h_3)
 (0≤t/\t<((Int.toNat size):Nat)/\StoreH h_2 (Addr.add ⟨h.size,0,none⟩ (Int.toNat t*1)) [.bool false] fun h_4=>next_ (IntKind.wrap .i64 (t+1)) h_4)
def J88_0  (R:Value->Heap->Prop) (h:Heap) (size:Int) (h_5:Heap):Prop:=
 R (.slice (some ⟨h.size,0,none⟩) (Int.toNat size) (Int.toNat size)) h_5
def B88_3 (R:Value->Heap->Prop) (h:Heap) (n size t:Int) (h_1:Heap) (next_:Int->Heap->Prop):Prop:=
 PIf (t<(((Int.toNat size):Nat):Int))
 (J88_1 h n size t next_ h_1)
 (J88_0 R h size h_1)
def VC88 (P:Program) (n size:Int) (R:Value->Heap->Prop) (h:Heap):Prop:=
 0≤size/\size≤size/\(1:Int)*size≤281474976710656/\let h_:Heap:=(h).push (.cells (zeroRow #[.bool false] (Int.toNat size*1)).toArray 4);LoopT (σ:=Int) (fun st_ h_st nx_st=>B88_3 R h n size (st_) h_st nx_st) (0) h_
theorem run88 (n size:Int) (R:Value->Heap->Prop) (h:Heap) (hv:VC88 Tryz.prog n size R h):CallsH Tryz.prog 88 #[.int .u64 n,.int .i64 size] h R:=calls_of_fnC (Checked.mixed Tryz.checked) Tryz.func88 comp88 (Nat.le_of_ble_eq_true rfl) (Eq.mp (by kernel_rfl) hv)
def loops92:List (List (Nat×Shp)):=[]
noncomputable def code92:SCode:=((compF Tryz.prog Tryz.f92 loops92).elim .skip fun x=>x.2.2)
def ret92:List RV:=[.tmp 4]
theorem comp92:compF Tryz.prog Tryz.f92 loops92=some (14,ret92,code92):=by kernel_rfl
def VC92 (P:Program) (vA:Option Addr) (vN vC:Nat) (l:Int) (R:Value->Heap->Prop) (h:Heap):Prop:=
 0≤((l / ((2 ^ 1:Nat):Int)):Int)/\((l / ((2 ^ 1:Nat):Int)):Int)<(vN:Nat)/\AtP vA fun ad=>∃ (t:Bool),cellH h (Addr.add ad (Int.toNat (l / ((2 ^ 1:Nat):Int))*1))=some (.bool t)/\PIf (((bop .and .i64 l 1):Int)=1)
 (PIf ((t:Bool)=true)
 (R (.bool false) h)
 (R (.bool true) h))
 (PIf ((t:Bool)=false)
 (R (.bool false) h)
 (R (.bool true) h))
theorem run92 (vA:Option Addr) (vN vC:Nat) (l:Int) (R:Value->Heap->Prop) (h:Heap) (hv:VC92 Tryz.prog vA vN vC l R h):CallsH Tryz.prog 92 #[.slice vA vN vC,.int .i64 l] h R:=calls_of_fnC (Checked.mixed Tryz.checked) Tryz.func92 comp92 (Nat.le_of_ble_eq_true rfl) (Eq.mp (by kernel_rfl) hv)
def loops91:List (List (Nat×Shp)):=[]
noncomputable def code91:SCode:=((compF Tryz.prog Tryz.f91 loops91).elim .skip fun x=>x.2.2)
def ret91:List RV:=[.tmp 3]
theorem comp91:compF Tryz.prog Tryz.f91 loops91=some (8,ret91,code91):=by kernel_rfl
def VC91 (P:Program) (l:Int) (t:Option Addr) (R:Value->Heap->Prop) (h:Heap):Prop:=
 AtP t fun ad=>∃ (A:Option Addr) (N C:Nat),cellH h ad=some (.slice A N C)/\CallsH P 92 #[.slice A N C,.int .i64 l] h fun v h_=>
 ∃ (t1:Bool),v=(.bool t1)/\R (.bool (!t1)) h_
theorem run91 (l:Int) (t:Option Addr) (R:Value->Heap->Prop) (h:Heap) (hv:VC91 Tryz.prog l t R h):CallsH Tryz.prog 91 #[.int .i64 l,.pointer t] h R:=calls_of_fnC (Checked.mixed Tryz.checked) Tryz.func91 comp91 (Nat.le_of_ble_eq_true rfl) (Eq.mp (by kernel_rfl) hv)
def loops87:List (List (Nat×Shp)):=[]
noncomputable def code87:SCode:=((compF Tryz.prog Tryz.f87 loops87).elim .skip fun x=>x.2.2)
def ret87:List RV:=[.tmp 2]
theorem comp87:compF Tryz.prog Tryz.f87 loops87=some (29,ret87,code87):=by kernel_rfl
def J87_0  (R:Value->Heap->Prop) (h h_2:Heap):Prop:=
 ∃ (A10:Option Addr) (N10 C10:Nat),cellH h_2 (Addr.add ⟨h.size,0,none⟩ 2)=some (.slice A10 N10 C10)/\PIf ((8:Int)<((N10:Nat):Int))
 (R (.int .i64 6) h_2)
 (∃ (A11:Option Addr) (N11 C11:Nat),cellH h_2 (Addr.add ⟨h.size,0,none⟩ 1)=some (.slice A11 N11 C11)/\PIf ((6:Int)<((N11:Nat):Int))
 (R (.int .i64 6) h_2)
 (∃ (A12:Option Addr) (N12 C12:Nat),cellH h_2 (Addr.add ⟨h.size,0,none⟩ 8)=some (.slice A12 N12 C12)/\PIf ((1024:Int)<((N12:Nat):Int))
 (R (.int .i64 6) h_2)
 (R (.int .i64 0) h_2)))
def VC87 (P:Program) (c:CV) (R:Value->Heap->Prop) (h:Heap):Prop:=
 let h_:Heap:=(h).push (.cells (Value.cells c.v) 29);LdC h_ ⟨h.size,0,none⟩ fun t=>CallsH P 114 #[t.v] h_ fun v h_1=>
 ∃ (t1 t2:Int),v=(.tuple #[.int .i64 t1,.int .i64 t2])/\PIf (t2=0)
 (J87_0 R h h_1)
 (R (.int .i64 t2) h_1)
theorem run87 (c:CV) (R:Value->Heap->Prop) (h:Heap) (hv:VC87 Tryz.prog c R h):CallsH Tryz.prog 87 #[c.v] h R:=calls_of_fnC (Checked.mixed Tryz.checked) Tryz.func87 comp87 (Nat.le_of_ble_eq_true rfl) (Eq.mp (by kernel_rfl) hv)
def loops53:List (List (Nat×Shp)):=[[(3,.slice),(15,.int .u64)],[(5,.bool),(24,.int .i64)]]
noncomputable def code53:SCode:=((compF Tryz.prog Tryz.f53 loops53).elim .skip fun x=>x.2.2)
def ret53:List RV:=[.tmp 2]
theorem comp53:compF Tryz.prog Tryz.f53 loops53=some (54,ret53,code53):=by kernel_rfl
def J53_4  (t:Int) (A1:(Option Addr)) (N1:Nat) (ok:Bool) (t1:Int) (next_1:(Bool×Int->Heap->Prop)) (h_3:Heap):Prop:=
 0≤t1/\t1<(N1:Nat)/\AtP A1 fun ad2=>∃ (t2 t3 t4:Int),cellsH h_3 (Addr.add ad2 (Int.toNat t1*3)) 0 [.int .i64 t2,.int .i64 t3,.int .i64 t4]/\let h_4:Heap:=(h_3).push (.cells #[.int .i64 0,.int .i64 0,.int .i64 0] 65);StoreH h_4 ⟨h_3.size,0,none⟩ [.int .i64 t2,.int .i64 t3,.int .i64 t4] fun h_5=>BIf ok (∃ (t5:Int),cellH h_5 (Addr.add ⟨h_3.size,0,none⟩ 2)=some (.int .i64 t5)/\PIf ((1:Int)<t5)
 (next_1 (true,(IntKind.wrap .i64 (t1+1))) h_5)
 (0≤t1/\∃ (t6:Int),cellH h_5 (Addr.add ⟨h_3.size,0,none⟩ 2)=some (.int .i64 t6)/\PIf (((bop .and .u64 (t / 2 ^ min (Int.toNat t1) (IntKind.bits .u64)) 1):Int)=(IntKind.wrap .u64 t6))
 (next_1 (true,(IntKind.wrap .i64 (t1+1))) h_5)
 (next_1 (false,(IntKind.wrap .i64 (t1+1))) h_5))) (next_1 (false,(IntKind.wrap .i64 (t1+1))) h_5)
def J53_2  (t:Int) (next_:((Option Addr×Nat×Nat)×Int->Heap->Prop)) (outA1:Option Addr) (outN1 outC1:Nat) (h_9:Heap):Prop:=
 next_ ((outA1,outN1,outC1),(IntKind.wrap .u64 (t+1))) h_9
def J53_3  (outA:(Option Addr)) (outN outC:Nat) (t:Int) (next_:((Option Addr×Nat×Nat)×Int->Heap->Prop)) (ok1:Bool) (h_6:Heap):Prop:=
 BIf ok1 (let h_7:Heap:=(h_6).push (.cells #[.int .u64 t] 76);∃ ys:List Value,ReadL h_7 (some ⟨h_6.size,0,none⟩) ys/\ys.length=1*1/\AppS h_7 outA outN outC 76 8 1 #[.int .u64 0] ys 1 fun apA apN apC h_8=>J53_2 t next_ (apA) (apN) (apC) h_8) (J53_2 t next_ (outA) (outN) (outC) h_6)
def B53_6 (outA:(Option Addr)) (outN outC:Nat) (t:Int) (next_:((Option Addr×Nat×Nat)×Int->Heap->Prop)) (A1:(Option Addr)) (N1:Nat) (ok:Bool) (t1:Int) (h_2:Heap) (next_1:Bool×Int->Heap->Prop):Prop:=
 PIf (t1<((N1:Nat):Int))
 (J53_4 t A1 N1 ok t1 next_1 h_2)
 (J53_3 outA outN outC t next_ (ok) h_2)
def J53_1  (w:(Option Addr)) (outA:(Option Addr)) (outN outC:Nat) (t:Int) (next_:((Option Addr×Nat×Nat)×Int->Heap->Prop)) (h_1:Heap):Prop:=
 AtP w fun ad1=>∃ (A1:Option Addr) (N1 C1:Nat),cellH h_1 (Addr.add (Addr.add ad1 0) 2)=some (.slice A1 N1 C1)/\LoopT (σ:=Bool×Int) (fun st_ h_st nx_st=>B53_6 outA outN outC t next_ A1 N1 (st_.1) (st_.2) h_st nx_st) (true,0) h_1
def J53_0  (R:Value->Heap->Prop) (outA2:Option Addr) (outN2 outC2:Nat) (h_10:Heap):Prop:=
 R (.slice outA2 outN2 outC2) h_10
def B53_8 (R:Value->Heap->Prop) (w:(Option Addr)) (N:Nat) (outA:Option Addr) (outN outC:Nat) (t:Int) (h_:Heap) (next_:(Option Addr×Nat×Nat)×Int->Heap->Prop):Prop:=
 PIf (t<(IntKind.wrap .u64 (1*2 ^ min (Int.toNat ((N:Nat):Int)) (IntKind.bits .u64))))
 (J53_1 w outA outN outC t next_ h_)
 (J53_0 R (outA) (outN) (outC) h_)
def VC53 (P:Program) (w:Option Addr) (R:Value->Heap->Prop) (h:Heap):Prop:=
 AtP w fun ad=>∃ (A:Option Addr) (N C:Nat),cellH h (Addr.add (Addr.add ad 0) 2)=some (.slice A N C)/\0≤(((N:Nat):Int):Int)/\LoopT (σ:=(Option Addr×Nat×Nat)×Int) (fun st_ h_st nx_st=>B53_8 R w N (st_.1.1) (st_.1.2.1) (st_.1.2.2) (st_.2) h_st nx_st) ((none,0,0),0) h
theorem run53 (w:Option Addr) (R:Value->Heap->Prop) (h:Heap) (hv:VC53 Tryz.prog w R h):CallsH Tryz.prog 53 #[.pointer w] h R:=calls_of_fnC (Checked.mixed Tryz.checked) Tryz.func53 comp53 (Nat.le_of_ble_eq_true rfl) (Eq.mp (by kernel_rfl) hv)
def loops42:List (List (Nat×Shp)):=[[(27,.int .u64)],[(39,.int .i64)],[(11,.int .u64),(64,.int .i64)]]
noncomputable def code42:SCode:=((compF Tryz.prog Tryz.f42 loops42).elim .skip fun x=>x.2.2)
def ret42:List RV:=[.tmp 2,.tmp 3]
theorem comp42:compF Tryz.prog Tryz.f42 loops42=some (101,ret42,code42):=by kernel_rfl
def J42_5  (t4:Int) (next_1:(Int->Heap->Prop)) (h_19:Heap):Prop:=
 next_1 (IntKind.wrap .i64 (t4+1)) h_19
def J42_9  (P:Program) (b:Nat) (A38:(Option Addr)) (N38:Nat) (next_2 t8:Int) (next_3:(Int×Int->Heap->Prop)) (h_22:Heap):Prop:=
 0≤t8/\t8<(N38:Nat)/\AtP A38 fun ad=>∃ (t9 t10 t11:Int),cellsH h_22 (Addr.add ad (Int.toNat t8*3)) 0 [.int .i64 t9,.int .i64 t10,.int .i64 t11]/\let h_23:Heap:=(h_22).push (.cells #[.int .i64 0,.int .i64 0,.int .i64 0] 65);StoreH h_23 ⟨h_22.size,0,none⟩ [.int .i64 t9,.int .i64 t10,.int .i64 t11] fun h_24=>∃ (A39:Option Addr) (N39 C39:Nat),cellH h_24 (Addr.mk b 0 none)=some (.slice A39 N39 C39)/\∃ (t12:Int),cellH h_24 (Addr.add ⟨h_22.size,0,none⟩ 1)=some (.int .i64 t12)/\CallsH P 92 #[.slice A39 N39 C39,.int .i64 t12] h_24 fun v5 h_25=>
 ∃ (t13:Bool),v5=(.bool t13)/\BIf t13 (0≤t8/\next_3 ((bop .or .u64 next_2 (IntKind.wrap .u64 (1*2 ^ min (Int.toNat t8) (IntKind.bits .u64)))),(IntKind.wrap .i64 (t8+1))) h_25) (next_3 (next_2,(IntKind.wrap .i64 (t8+1))) h_25)
def J42_8  (h_3:Heap) (t3 t4:Int) (next_1:(Int->Heap->Prop)) (b:Nat) (next_4:Int) (h_26:Heap):Prop:=
 ∃ zn:Zone,Zone.hasL zn h_26 (Addr.add ⟨h_3.size,0,none⟩ 11)/\∃ (t14:Option Nat),cellH h_26 (Addr.add ⟨h_3.size,0,none⟩ 11)=some (.map t14)/\Zone.hasL zn h_26 (Addr.add ⟨h_3.size,0,none⟩ 11)/\∃ (t15:Option Nat),cellH h_26 (Addr.add ⟨h_3.size,0,none⟩ 11)=some (.map t15)/\MapLookW zn (.flat [.int .u64]) (.agg #[.int .u64 t3]) (.slice none 0 0) h_26 t15 (Zone.hasL zn h_26 (Addr.mk b 0 none)/\∃ (A40:Option Addr) (N40 C40:Nat),cellH h_26 (Addr.mk b 0 none)=some (.slice A40 N40 C40)/\let h_27:Heap:=(h_26).push (.cells #[.int .i64 t4,.int .u64 next_4,.slice A40 N40 C40] 148);Zone.r zn h_26 h_27/\∃ ys:List Value,ReadL h_27 (some ⟨h_26.size,0,none⟩) ys/\ys.length=1*3/\AppS h_27 none 0 0 148 40 3 #[.int .i64 0,.int .u64 0,.slice none 0 0] ys 1 fun apA apN apC h_28=>Zone.r zn h_27 h_28/\MapPut (.flat [.int .u64]) (.agg #[.int .u64 t3]) (.slice apA apN apC) h_28 t14 fun h_29=>J42_5 t4 next_1 h_29) fun look=>∃ (A41:Option Addr) (N41 C41:Nat),look (.slice A41 N41 C41)/\Zone.hasL zn h_26 (Addr.mk b 0 none)/\∃ (A42:Option Addr) (N42 C42:Nat),cellH h_26 (Addr.mk b 0 none)=some (.slice A42 N42 C42)/\let h_30:Heap:=(h_26).push (.cells #[.int .i64 t4,.int .u64 next_4,.slice A42 N42 C42] 148);Zone.r zn h_26 h_30/\∃ ys1:List Value,ReadL h_30 (some ⟨h_26.size,0,none⟩) ys1/\ys1.length=1*3/\AppS h_30 A41 N41 C41 148 40 3 #[.int .i64 0,.int .u64 0,.slice none 0 0] ys1 1 fun apA1 apN1 apC1 h_31=>Zone.r zn h_30 h_31/\MapPut (.flat [.int .u64]) (.agg #[.int .u64 t3]) (.slice apA1 apN1 apC1) h_31 t14 fun h_32=>J42_5 t4 next_1 h_32
def B42_11 (P:Program) (h_3:Heap) (t3 t4:Int) (next_1:(Int->Heap->Prop)) (b:Nat) (A38:(Option Addr)) (N38:Nat) (next_2 t8:Int) (h_21:Heap) (next_3:Int×Int->Heap->Prop):Prop:=
 PIf (t8<((N38:Nat):Int))
 (J42_9 P b A38 N38 next_2 t8 next_3 h_21)
 (J42_8 h_3 t3 t4 next_1 b (next_2) h_21)
def J42_7  (P:Program) (h h_3:Heap) (t3 t4:Int) (next_1:(Int->Heap->Prop)) (b:Nat) (h_20:Heap):Prop:=
 ∃ (A38:Option Addr) (N38 C38:Nat),cellH h_20 (Addr.add ⟨h.size,0,none⟩ 2)=some (.slice A38 N38 C38)/\LoopT (σ:=Int×Int) (fun st_ h_st nx_st=>B42_11 P h_3 t3 t4 next_1 b A38 N38 (st_.1) (st_.2) h_st nx_st) (0,0) h_20
def J42_6  (P:Program) (h h_3:Heap) (t3 t4:Int) (next_1:(Int->Heap->Prop)) (b:Nat) (h_17:Heap):Prop:=
 ∃ (A37:Option Addr) (N37 C37:Nat),cellH h_17 (Addr.add ⟨h.size,0,none⟩ 5)=some (.slice A37 N37 C37)/\CallsH P 90 #[.slice A37 N37 C37,(.func (.func 91) #[] #[(.pointer (some (Addr.mk b 0 none)))])] h_17 fun v4 h_18=>
 ∃ (t7:Bool),v4=(.bool t7)/\BIf t7 (J42_5 t4 next_1 h_18) (J42_7 P h h_3 t3 t4 next_1 b h_18)
def J42_4  (P:Program) (R:Value->Heap->Prop) (h h_3:Heap) (t3:Int) (A22:(Option Addr)) (N22 C22:Nat) (t4:Int) (next_1:(Int->Heap->Prop)) (h_9:Heap):Prop:=
 (Addr.block (Addr.add ⟨h.size,0,none⟩ 1))<(h_9).size/\∃ (A24:Option Addr) (N24 C24:Nat),cellH h_9 (Addr.add ⟨h.size,0,none⟩ 1)=some (.slice A24 N24 C24)/\∀ (U:Nat->Prop) (h_10:Heap),GrowH none' h_9 U h_10->CallsH P 88 #[(.int .u64 (IntKind.wrap .u64 t4)),(.int .i64 ((N24:Nat):Int))] h_10 fun v2 h_11=>
 ∃ (A25:Option Addr) (N25 C25:Nat),v2=(.slice A25 N25 C25)/\Keeps (h_9).size U h_10 h_11/\(Addr.block ⟨h.size,0,none⟩)<(h_9).size/\LdC h_11 ⟨h.size,0,none⟩ fun t5=>∀ (U1:Nat->Prop) (h_12:Heap),GrowH U h_11 U1 h_12->CallsH P 89 #[t5.v,.slice A22 N22 C22,.slice A25 N25 C25] h_12 fun v3 h_13=>
 ∃ (A36:Option Addr) (N36 C36:Nat) (t6:Int),v3=(.tuple #[.slice A36 N36 C36,.int .i64 t6])/\Keeps (h_9).size U1 h_12 h_13/\∀ (U2:Nat->Prop) (h_14:Heap) (b:Nat),GrowH U1 h_13 U2 h_14->U2 b->(h_14)[b]?=some (Obj.cells #[.slice none 0 0] 46)->∀ (U3:Nat->Prop) (h_15:Heap),GrowH (minus U2 b) h_14 U3 h_15->StoreH h_15 (Addr.mk b 0 none) [.slice A36 N36 C36] fun h_16=>(h_15).size≤(h_16).size/\PIf (t6=0)
 (J42_6 P h h_3 t3 t4 next_1 b h_16)
 (R (.tuple #[.pointer none,.int .i64 t6]) h_16)
def J42_3  (t3:Int) (next_:(Int->Heap->Prop)) (h_33:Heap):Prop:=
 next_ ((IntKind.wrap .u64 (t3+1))) h_33
def B42_13 (P:Program) (R:Value->Heap->Prop) (h h_3:Heap) (t3:Int) (next_:(Int->Heap->Prop)) (A22:(Option Addr)) (N22 C22 N23:Nat) (t4:Int) (h_8:Heap) (next_1:Int->Heap->Prop):Prop:=
 PIf (t4<(IntKind.wrap .i64 (1*2 ^ min (Int.toNat ((N23:Nat):Int)) (IntKind.bits .i64))))
 (J42_4 P R h h_3 t3 A22 N22 C22 t4 next_1 h_8)
 (J42_3 t3 next_ h_8)
def J42_2  (P:Program) (R:Value->Heap->Prop) (h h_3:Heap) (t3:Int) (next_:(Int->Heap->Prop)) (h_6:Heap):Prop:=
 ∃ (A21:Option Addr) (N21 C21:Nat),cellH h_6 (Addr.add ⟨h.size,0,none⟩ 2)=some (.slice A21 N21 C21)/\CallsH P 88 #[.int .u64 t3,(.int .i64 ((N21:Nat):Int))] h_6 fun v1 h_7=>
 ∃ (A22:Option Addr) (N22 C22:Nat),v1=(.slice A22 N22 C22)/\∃ (A23:Option Addr) (N23 C23:Nat),cellH h_7 (Addr.add ⟨h.size,0,none⟩ 1)=some (.slice A23 N23 C23)/\0≤(((N23:Nat):Int):Int)/\LoopT (σ:=Int) (fun st_ h_st nx_st=>B42_13 P R h h_3 t3 next_ A22 N22 C22 N23 (st_) h_st nx_st) (0) h_7
def J42_1  (R:Value->Heap->Prop) (h_3 h_34:Heap):Prop:=
 R (.tuple #[(.pointer (some ⟨h_3.size,0,none⟩)),.int .i64 0]) h_34
def B42_15 (P:Program) (R:Value->Heap->Prop) (h h_3:Heap) (N20:Nat) (t3:Int) (h_5:Heap) (next_:Int->Heap->Prop):Prop:=
 PIf (t3<(IntKind.wrap .u64 (1*2 ^ min (Int.toNat ((N20:Nat):Int)) (IntKind.bits .u64))))
 (J42_2 P R h h_3 t3 next_ h_5)
 (J42_1 R h_3 h_5)
def J42_0  (P:Program) (R:Value->Heap->Prop) (h h_2:Heap):Prop:=
 LdC h_2 ⟨h.size,0,none⟩ fun t2=>let h_3:Heap:=(h_2).push (.map #[] 0);let h_4:Heap:=(h_3).push (.cells (Value.cells (.agg #[.int .i64 t2.mx,.slice t2.i.a t2.i.n t2.i.c,.slice t2.l.a t2.l.n t2.l.c,.slice t2.o.a t2.o.n t2.o.c,.slice t2.b.a t2.b.n t2.b.c,.slice t2.c.a t2.c.n t2.c.c,.slice t2.j.a t2.j.n t2.j.c,.slice t2.f.a t2.f.n t2.f.c,.slice t2.g.a t2.g.n t2.g.c,.slice t2.s.a t2.s.n t2.s.c,.slice t2.m.a t2.m.n t2.m.c,(.map (some (h_2).size))])) 141);∃ (A20:Option Addr) (N20 C20:Nat),cellH h_4 (Addr.add ⟨h.size,0,none⟩ 2)=some (.slice A20 N20 C20)/\0≤(((N20:Nat):Int):Int)/\LoopT (σ:=Int) (fun st_ h_st nx_st=>B42_15 P R h h_3 N20 (st_) h_st nx_st) (0) h_4
def VC42 (P:Program) (c:CV) (R:Value->Heap->Prop) (h:Heap):Prop:=
 let h_:Heap:=(h).push (.cells (Value.cells c.v) 29);LdC h_ ⟨h.size,0,none⟩ fun t=>CallsH P 87 #[t.v] h_ fun v h_1=>
 ∃ (t1:Int),v=(.int .i64 t1)/\PIf (t1=0)
 (J42_0 P R h h_1)
 (R (.tuple #[.pointer none,.int .i64 t1]) h_1)
theorem run42 (c:CV) (R:Value->Heap->Prop) (h:Heap) (hv:VC42 Tryz.prog c R h):CallsH Tryz.prog 42 #[c.v] h R:=calls_of_fnC (Checked.mixed Tryz.checked) Tryz.func42 comp42 (Nat.le_of_ble_eq_true rfl) (Eq.mp (by kernel_rfl) hv)
def loops43:List (List (Nat×Shp)):=[[(17,.int .i64)],[(4,.slice)],[(4,.slice),(39,.int .i64)]]
noncomputable def code43:SCode:=((compF Tryz.prog Tryz.f43 loops43).elim .skip fun x=>x.2.2)
def ret43:List RV:=[.tmp 2]
theorem comp43:compF Tryz.prog Tryz.f43 loops43=some (66,ret43,code43):=by kernel_rfl
def J43_1  (h:Heap) (A:(Option Addr)) (N:Nat) (t:Int) (next_:(Int->Heap->Prop)) (h_3:Heap):Prop:=
 0≤t/\t<(N:Nat)/\AtP A fun ad=>∃ (t1:Int),cellsH h_3 (Addr.add ad (Int.toNat t*1)) 0 [.int .u64 t1]/\let h_4:Heap:=(h_3).push (.cells #[.int .u64 0] 76);StoreH h_4 ⟨h_3.size,0,none⟩ [.int .u64 t1] fun h_5=>∃ (t2:Int),cellsH h_5 ⟨h_3.size,0,none⟩ 0 [.int .u64 t2]/\MapPut (.flat [.int .u64]) (.agg #[.int .u64 t2]) (.int .i64 0) h_5 (some (h).size) fun h_6=>next_ (IntKind.wrap .i64 (t+1)) h_6
def J43_5  (t6:Int) (h_13:Heap):Prop:=
 0≤t6/\t6<(0:Nat)/\False
def B43_7 (next_1:((Option Addr×Nat×Nat)->Heap->Prop)) (workA1:Option Addr) (workN1 workC1:Nat) (t6:Int) (h_12:Heap) (next_2:(Option Addr×Nat×Nat)×Int->Heap->Prop):Prop:=
 PIf (t6<((0:Nat):Int))
 (J43_5 t6 h_12)
 (next_1 ((workA1,workN1,workC1)) h_12)
def J43_8  (h h_9:Heap) (A1:(Option Addr)) (N1:Nat) (workA2:(Option Addr)) (workN2 workC2:Nat) (t7:Int) (next_3:((Option Addr×Nat×Nat)×Int->Heap->Prop)) (h_15:Heap):Prop:=
 0≤t7/\t7<(N1:Nat)/\AtP A1 fun ad3=>∃ (t8 t9:Int) (A2:Option Addr) (N2 C2:Nat),cellsH h_15 (Addr.add ad3 (Int.toNat t7*3)) 0 [.int .i64 t8,.int .u64 t9,.slice A2 N2 C2]/\let h_16:Heap:=(h_15).push (.cells #[.int .i64 0,.int .u64 0,.slice none 0 0] 148);StoreH h_16 ⟨h_15.size,0,none⟩ [.int .i64 t8,.int .u64 t9,.slice A2 N2 C2] fun h_17=>∃ (t10:Int),cellsH h_17 (Addr.add ⟨h_15.size,0,none⟩ 1) 0 [.int .u64 t10]/\MapLook (.flat [.int .u64]) (.agg #[.int .u64 t10]) h_17 (some (h).size) none (∃ (t11:Int),cellsH h_17 (Addr.add ⟨h_15.size,0,none⟩ 1) 0 [.int .u64 t11]/\∃ (t12:Int),cellsH h_17 ⟨h_9.size,0,none⟩ 0 [.int .u64 t12]/\MapLook (.flat [.int .u64]) (.agg #[.int .u64 t12]) h_17 (some (h).size) none (MapPut (.flat [.int .u64]) (.agg #[.int .u64 t11]) (.int .i64 (IntKind.wrap .i64 (0+1))) h_17 (some (h).size) fun h_18=>∃ (t13:Int),cellsH h_18 (Addr.add ⟨h_15.size,0,none⟩ 1) 0 [.int .u64 t13]/\let h_19:Heap:=(h_18).push (.cells #[.int .u64 t13] 76);∃ ys:List Value,ReadL h_19 (some ⟨h_18.size,0,none⟩) ys/\ys.length=1*1/\AppS h_19 workA2 workN2 workC2 76 8 1 #[.int .u64 0] ys 1 fun apA apN apC h_20=>next_3 ((apA,apN,apC),(IntKind.wrap .i64 (t7+1))) h_20) fun u1=>∃ (t14:Int),u1=(.int .i64 t14)/\MapPut (.flat [.int .u64]) (.agg #[.int .u64 t11]) (.int .i64 (IntKind.wrap .i64 (t14+1))) h_17 (some (h).size) fun h_21=>∃ (t15:Int),cellsH h_21 (Addr.add ⟨h_15.size,0,none⟩ 1) 0 [.int .u64 t15]/\let h_22:Heap:=(h_21).push (.cells #[.int .u64 t15] 76);∃ ys1:List Value,ReadL h_22 (some ⟨h_21.size,0,none⟩) ys1/\ys1.length=1*1/\AppS h_22 workA2 workN2 workC2 76 8 1 #[.int .u64 0] ys1 1 fun apA1 apN1 apC1 h_23=>next_3 ((apA1,apN1,apC1),(IntKind.wrap .i64 (t7+1))) h_23) fun u2=>∃ (t16:Int),u2=(.int .i64 t16)/\next_3 ((workA2,workN2,workC2),(IntKind.wrap .i64 (t7+1))) h_17
def B43_10 (h:Heap) (next_1:((Option Addr×Nat×Nat)->Heap->Prop)) (h_9:Heap) (A1:(Option Addr)) (N1:Nat) (workA2:Option Addr) (workN2 workC2:Nat) (t7:Int) (h_14:Heap) (next_3:(Option Addr×Nat×Nat)×Int->Heap->Prop):Prop:=
 PIf (t7<((N1:Nat):Int))
 (J43_8 h h_9 A1 N1 workA2 workN2 workC2 t7 next_3 h_14)
 (next_1 ((workA2,workN2,workC2)) h_14)
def J43_4  (h:Heap) (w:(Option Addr)) (workA:(Option Addr)) (workN workC:Nat) (next_1:((Option Addr×Nat×Nat)->Heap->Prop)) (h_9:Heap):Prop:=
 0≤(0:Int)/\(0:Int)<(workN:Nat)/\AtP workA fun ad1=>∃ (t3:Int),cellsH h_9 (Addr.add ad1 (Int.toNat 0*1)) 0 [.int .u64 t3]/\let h_10:Heap:=(h_9).push (.cells #[.int .u64 0] 76);StoreH h_10 ⟨h_9.size,0,none⟩ [.int .u64 t3] fun h_11=>0≤(1:Int)/\(1:Int)≤((workN:Nat):Int)/\(((workN:Nat):Int):Int)≤(workC:Nat)/\AtP w fun ad2=>∃ (t4:Option Nat),cellH h_11 (Addr.add ad2 11)=some (.map t4)/\∃ (t5:Int),cellsH h_11 ⟨h_9.size,0,none⟩ 0 [.int .u64 t5]/\MapLook (.flat [.int .u64]) (.agg #[.int .u64 t5]) h_11 t4 none (LoopT (σ:=(Option Addr×Nat×Nat)×Int) (fun st_ h_st nx_st=>B43_7 next_1 (st_.1.1) (st_.1.2.1) (st_.1.2.2) (st_.2) h_st nx_st) (((cutA 1 workA workC (Int.toNat 1)),(Int.toNat ((workN:Nat):Int)-Int.toNat 1),(workC-Int.toNat 1)),0) h_11) fun u=>∃ (A1:Option Addr) (N1 C1:Nat),u=(.slice A1 N1 C1)/\LoopT (σ:=(Option Addr×Nat×Nat)×Int) (fun st_ h_st nx_st=>B43_10 h next_1 h_9 A1 N1 (st_.1.1) (st_.1.2.1) (st_.1.2.2) (st_.2) h_st nx_st) (((cutA 1 workA workC (Int.toNat 1)),(Int.toNat ((workN:Nat):Int)-Int.toNat 1),(workC-Int.toNat 1)),0) h_11
def J43_3  (R:Value->Heap->Prop) (h h_24:Heap):Prop:=
 R (.map (some (h).size)) h_24
def B43_11 (R:Value->Heap->Prop) (h:Heap) (w:(Option Addr)) (workA:Option Addr) (workN workC:Nat) (h_8:Heap) (next_1:(Option Addr×Nat×Nat)->Heap->Prop):Prop:=
 PIf ((0:Int)<((workN:Nat):Int))
 (J43_4 h w workA workN workC next_1 h_8)
 (J43_3 R h h_8)
def J43_0  (R:Value->Heap->Prop) (h:Heap) (w:(Option Addr)) (A:(Option Addr)) (N C:Nat) (h_7:Heap):Prop:=
 LoopT (σ:=(Option Addr×Nat×Nat)) (fun st_ h_st nx_st=>B43_11 R h w (st_.1) (st_.2.1) (st_.2.2) h_st nx_st) ((A,N,C)) h_7
def B43_12 (R:Value->Heap->Prop) (h:Heap) (w:(Option Addr)) (A:(Option Addr)) (N C:Nat) (t:Int) (h_2:Heap) (next_:Int->Heap->Prop):Prop:=
 PIf (t<((N:Nat):Int))
 (J43_1 h A N t next_ h_2)
 (J43_0 R h w A N C h_2)
def VC43 (P:Program) (w:Option Addr) (R:Value->Heap->Prop) (h:Heap):Prop:=
 let h_:Heap:=(h).push (.map #[] 0);CallsH P 53 #[.pointer w] h_ fun v h_1=>
 ∃ (A:Option Addr) (N C:Nat),v=(.slice A N C)/\LoopT (σ:=Int) (fun st_ h_st nx_st=>B43_12 R h w A N C (st_) h_st nx_st) (0) h_1
theorem run43 (w:Option Addr) (R:Value->Heap->Prop) (h:Heap) (hv:VC43 Tryz.prog w R h):CallsH Tryz.prog 43 #[.pointer w] h R:=calls_of_fnC (Checked.mixed Tryz.checked) Tryz.func43 comp43 (Nat.le_of_ble_eq_true rfl) (Eq.mp (by kernel_rfl) hv)
def loops99:List (List (Nat×Shp)):=[]
noncomputable def code99:SCode:=((compF Tryz.prog Tryz.f99 loops99).elim .skip fun x=>x.2.2)
def ret99:List RV:=[.tmp 4]
theorem comp99:compF Tryz.prog Tryz.f99 loops99=some (9,ret99,code99):=by kernel_rfl
def VC99 (P:Program) (sA:Option Addr) (sN sC:Nat) (f:Value) (R:Value->Heap->Prop) (h:Heap):Prop:=
 CallsH P 140 #[.slice sA sN sC,f] h fun v h_=>
 ∃ (t:Int),v=(.int .i64 t)/\PIf ((0:Int)≤t)
 (R (.bool true) h_)
 (R (.bool false) h_)
theorem run99 (sA:Option Addr) (sN sC:Nat) (f:Value) (R:Value->Heap->Prop) (h:Heap) (hv:VC99 Tryz.prog sA sN sC f R h):CallsH Tryz.prog 99 #[.slice sA sN sC,f] h R:=calls_of_fnC (Checked.mixed Tryz.checked) Tryz.func99 comp99 (Nat.le_of_ble_eq_true rfl) (Eq.mp (by kernel_rfl) hv)
def loops140:List (List (Nat×Shp)):=[[(8,.int .i64)]]
noncomputable def code140:SCode:=((compF Tryz.prog Tryz.f140 loops140).elim .skip fun x=>x.2.2)
def ret140:List RV:=[.tmp 4]
theorem comp140:compF Tryz.prog Tryz.f140 loops140=some (19,ret140,code140):=by kernel_rfl
def J140_1  (P:Program) (R:Value->Heap->Prop) (sA:(Option Addr)) (sN:Nat) (f:Value) (t:Int) (next_:(Int->Heap->Prop)) (h_1:Heap):Prop:=
 0≤t/\t<(sN:Nat)/\AtP sA fun ad=>∃ (t1 t2:Int) (A:Option Addr) (N C:Nat),cellsH h_1 (Addr.add ad (Int.toNat t*3)) 0 [.int .i64 t1,.int .u64 t2,.slice A N C]/\CallV P f [(.agg #[.int .i64 t1,.int .u64 t2,.slice A N C])] h_1 fun v h_2=>
 ∃ (t3:Bool),v=(.bool t3)/\BIf t3 (R (.int .i64 t) h_2) (next_ (IntKind.wrap .i64 (t+1)) h_2)
def J140_0  (R:Value->Heap->Prop) (h_3:Heap):Prop:=
 R (.int .i64 (-1)) h_3
def B140_3 (P:Program) (R:Value->Heap->Prop) (sA:(Option Addr)) (sN:Nat) (f:Value) (t:Int) (h_:Heap) (next_:Int->Heap->Prop):Prop:=
 PIf (t<((sN:Nat):Int))
 (J140_1 P R sA sN f t next_ h_)
 (J140_0 R h_)
def VC140 (P:Program) (sA:Option Addr) (sN sC:Nat) (f:Value) (R:Value->Heap->Prop) (h:Heap):Prop:=
 LoopT (σ:=Int) (fun st_ h_st nx_st=>B140_3 P R sA sN f (st_) h_st nx_st) (0) h
theorem run140 (sA:Option Addr) (sN sC:Nat) (f:Value) (R:Value->Heap->Prop) (h:Heap) (hv:VC140 Tryz.prog sA sN sC f R h):CallsH Tryz.prog 140 #[.slice sA sN sC,f] h R:=calls_of_fnC (Checked.mixed Tryz.checked) Tryz.func140 comp140 (Nat.le_of_ble_eq_true rfl) (Eq.mp (by kernel_rfl) hv)
def loops100:List (List (Nat×Shp)):=[]
noncomputable def code100:SCode:=((compF Tryz.prog Tryz.f100 loops100).elim .skip fun x=>x.2.2)
def ret100:List RV:=[.tmp 3]
theorem comp100:compF Tryz.prog Tryz.f100 loops100=some (8,ret100,code100):=by kernel_rfl
def VC100 (P:Program) (a a1:Int) (aA:Option Addr) (aN aC:Nat) (t:Option Addr) (R:Value->Heap->Prop) (h:Heap):Prop:=
 let h_:Heap:=(h).push (.cells (Value.cells (.agg #[.int .i64 a,.int .u64 a1,.slice aA aN aC])) 148);∃ (A:Option Addr) (N C:Nat),cellH h_ (Addr.add ⟨h.size,0,none⟩ 2)=some (.slice A N C)/\AtP t fun ad=>∃ (t1:Int),cellH h_ ad=some (.int .i64 t1)/\CallsH P 92 #[.slice A N C,.int .i64 t1] h_ fun v h_1=>
 ∃ (t2:Bool),v=(.bool t2)/\R (.bool t2) h_1
theorem run100 (a a1:Int) (aA:Option Addr) (aN aC:Nat) (t:Option Addr) (R:Value->Heap->Prop) (h:Heap) (hv:VC100 Tryz.prog a a1 aA aN aC t R h):CallsH Tryz.prog 100 #[(.agg #[.int .i64 a,.int .u64 a1,.slice aA aN aC]),.pointer t] h R:=calls_of_fnC (Checked.mixed Tryz.checked) Tryz.func100 comp100 (Nat.le_of_ble_eq_true rfl) (Eq.mp (by kernel_rfl) hv)
def loops51:List (List (Nat×Shp)):=[[(5,.int .i64)]]
noncomputable def code51:SCode:=((compF Tryz.prog Tryz.f51 loops51).elim .skip fun x=>x.2.2)
def ret51:List RV:=[.tmp 4]
theorem comp51:compF Tryz.prog Tryz.f51 loops51=some (33,ret51,code51):=by kernel_rfl
def J51_0  (R:Value->Heap->Prop) (least1:Int) (h_4:Heap):Prop:=
 R (.int .i64 least1) h_4
def J51_3  (P:Program) (h:Heap) (w:(Option Addr)) (least:Int) (next_:(Int->Heap->Prop)) (h_6:Heap) (v2:Int) (h_9:Heap):Prop:=
 AtP w fun ad=>∃ (t1:Option Nat),cellH h_9 (Addr.add ad 11)=some (.map t1)/\∃ (t2:Int),cellsH h_9 ⟨h_6.size,0,none⟩ 0 [.int .u64 t2]/\MapLook (.flat [.int .u64]) (.agg #[.int .u64 t2]) h_9 t1 none (CallsH P 99 #[.slice none 0 0,(.func (.func 100) #[] #[(.pointer (some ⟨h.size,0,none⟩))])] h_9 fun v3 h_10=>
 ∃ (t3:Bool),v3=(.bool t3)/\BIf t3 (next_ (v2) h_10) (next_ (least) h_10)) fun u=>∃ (A:Option Addr) (N C:Nat),u=(.slice A N C)/\CallsH P 99 #[.slice A N C,(.func (.func 100) #[] #[(.pointer (some ⟨h.size,0,none⟩))])] h_9 fun v4 h_11=>
 ∃ (t4:Bool),v4=(.bool t4)/\BIf t4 (next_ (v2) h_11) (next_ (least) h_11)
def J51_2  (P:Program) (h:Heap) (w:(Option Addr)) (h_1:Heap) (least:Int) (next_:(Int->Heap->Prop)) (h_6:Heap):Prop:=
 (Addr.off ⟨h_1.size,0,none⟩)=0/\MEntryS h_6 (Addr.block ⟨h_1.size,0,none⟩) fun e1=>∃ (k1:Int),e1.key=(.agg #[.int .u64 k1])/\∃ (v2:Int),e1.val=(.int .i64 v2)/\let h_7:Heap:=(h_6).push (.cells #[.int .u64 0] 76);StoreH h_7 ⟨h_6.size,0,none⟩ [.int .u64 k1] fun h_8=>PIf ((0:Int)≤least)
 (PIf (least≤v2)
 (next_ (least) h_8)
 (J51_3 P h w least next_ h_6 v2 h_8))
 (J51_3 P h w least next_ h_6 v2 h_8)
def B51_4 (P:Program) (R:Value->Heap->Prop) (h:Heap) (w:(Option Addr)) (h_1:Heap) (least:Int) (h_3:Heap) (next_:Int->Heap->Prop):Prop:=
 (Addr.off ⟨h_1.size,0,none⟩)=0/\MNextS h_3 (Addr.block ⟨h_1.size,0,none⟩) (J51_0 R (least) h_3) fun e h_5=>∃ (k:Value),e.key=k/\∃ (v1:Value),e.val=v1/\J51_2 P h w h_1 least next_ h_5
def VC51 (P:Program) (w:Option Addr) (l:Int) (R:Value->Heap->Prop) (h:Heap):Prop:=
 let h_:Heap:=(h).push (.cells #[.int .i64 l] 3);CallsH P 43 #[.pointer w] h_ fun v h_1=>
 ∃ (t:Option Nat),v=(.map t)/\MapRange h_1 t fun h_2=>LoopT (σ:=Int) (fun st_ h_st nx_st=>B51_4 P R h w h_1 (st_) h_st nx_st) ((-1)) h_2
theorem run51 (w:Option Addr) (l:Int) (R:Value->Heap->Prop) (h:Heap) (hv:VC51 Tryz.prog w l R h):CallsH Tryz.prog 51 #[.pointer w,.int .i64 l] h R:=calls_of_fnC (Checked.mixed Tryz.checked) Tryz.func51 comp51 (Nat.le_of_ble_eq_true rfl) (Eq.mp (by kernel_rfl) hv)
def loops50:List (List (Nat×Shp)):=[[(8,.int .i64)]]
noncomputable def code50:SCode:=((compF Tryz.prog Tryz.f50 loops50).elim .skip fun x=>x.2.2)
def ret50:List RV:=[.tmp 4]
theorem comp50:compF Tryz.prog Tryz.f50 loops50=some (48,ret50,code50):=by kernel_rfl
def J50_3  (t1:Int) (h_2:Heap) (n:Int) (next_:(Int->Heap->Prop)) (h_6:Heap):Prop:=
 0≤n/\n≤(((Int.toNat (IntKind.wrap .i64 t1)):Nat):Int)/\((((Int.toNat (IntKind.wrap .i64 t1)):Nat):Int):Int)≤((Int.toNat (IntKind.wrap .i64 t1)):Nat)/\0≤(0:Int)/\(0:Int)≤n/\n≤((Int.toNat (IntKind.wrap .i64 t1)):Nat)/\∃ ys1:List Value,ReadL h_6 (cutA 1 (some ⟨h_2.size,0,none⟩) (Int.toNat (IntKind.wrap .i64 t1)) (Int.toNat 0)) ys1/\ys1.length=(min (Int.toNat n-Int.toNat 0) (Int.toNat (((Int.toNat (IntKind.wrap .i64 t1)):Nat):Int)-Int.toNat n))*1/\CpyH h_6 (cutA 1 (some ⟨h_2.size,0,none⟩) (Int.toNat (IntKind.wrap .i64 t1)) (Int.toNat n)) ys1 fun h_7=>next_ ((IntKind.wrap .i64 (n+((min (Int.toNat n-Int.toNat 0) (Int.toNat (((Int.toNat (IntKind.wrap .i64 t1)):Nat):Int)-Int.toNat n):Nat):Int)))) h_7
def J50_2  (R:Value->Heap->Prop) (t1:Int) (h_2 h_8:Heap):Prop:=
 R (.slice (some ⟨h_2.size,0,none⟩) (Int.toNat (IntKind.wrap .i64 t1)) (Int.toNat (IntKind.wrap .i64 t1))) h_8
def B50_4 (R:Value->Heap->Prop) (t1:Int) (h_2:Heap) (n:Int) (h_5:Heap) (next_:Int->Heap->Prop):Prop:=
 PIf (n<(((Int.toNat (IntKind.wrap .i64 t1)):Nat):Int))
 (J50_3 t1 h_2 n next_ h_5)
 (J50_2 R t1 h_2 h_5)
def J50_1  (R:Value->Heap->Prop) (xA:(Option Addr)) (xN:Nat) (t1:Int) (h_2:Heap):Prop:=
 0≤((IntKind.wrap .i64 t1):Int)/\((IntKind.wrap .i64 t1):Int)≤(IntKind.wrap .i64 t1)/\(8:Int)*(IntKind.wrap .i64 t1)≤281474976710656/\let h_3:Heap:=(h_2).push (.cells (zeroRow #[.int .i64 0] (Int.toNat (IntKind.wrap .i64 t1)*1)).toArray 3);∃ ys:List Value,ReadL h_3 xA ys/\ys.length=(min xN (Int.toNat (IntKind.wrap .i64 t1)))*1/\StoreH h_3 ⟨h_2.size,0,none⟩ ys fun h_4=>LoopT (σ:=Int) (fun st_ h_st nx_st=>B50_4 R t1 h_2 (st_) h_st nx_st) (((min xN (Int.toNat (IntKind.wrap .i64 t1)):Nat):Int)) h_4
def J50_0  (P:Program) (R:Value->Heap->Prop) (xA:(Option Addr)) (xN:Nat) (count:Int) (h_:Heap):Prop:=
 CallsH P 98 #[(.int .u64 (IntKind.wrap .u64 ((xN:Nat):Int))),(.int .u64 (IntKind.wrap .u64 count))] h_ fun v h_1=>
 ∃ (t t1:Int),v=(.tuple #[.int .u64 t,.int .u64 t1])/\PIf ((0:Int)<t)
 (False)
 (PIf ((9223372036854775807:Int)<t1)
 (False)
 (J50_1 R xA xN t1 h_1))
def VC50 (P:Program) (xA:Option Addr) (xN xC:Nat) (count:Int) (R:Value->Heap->Prop) (h:Heap):Prop:=
 PIf (count<0)
 (False)
 (J50_0 P R xA xN count h)
theorem run50 (xA:Option Addr) (xN xC:Nat) (count:Int) (R:Value->Heap->Prop) (h:Heap) (hv:VC50 Tryz.prog xA xN xC count R h):CallsH Tryz.prog 50 #[.slice xA xN xC,.int .i64 count] h R:=calls_of_fnC (Checked.mixed Tryz.checked) Tryz.func50 comp50 (Nat.le_of_ble_eq_true rfl) (Eq.mp (by kernel_rfl) hv)
def loops98:List (List (Nat×Shp)):=[]
noncomputable def code98:SCode:=((compF Tryz.prog Tryz.f98 loops98).elim .skip fun x=>x.2.2)
def ret98:List RV:=[.tmp 4,.tmp 5]
theorem comp98:compF Tryz.prog Tryz.f98 loops98=some (30,ret98,code98):=by kernel_rfl
def VC98 (P:Program) (x y:Int) (R:Value->Heap->Prop) (h:Heap):Prop:=
 CallsH P 139 #[.int .u64 x,.int .u64 y] h fun v h_=>
 ∃ (t t1:Int),v=(.tuple #[.int .u64 t,.int .u64 t1])/\R (.tuple #[.int .u64 t,.int .u64 t1]) h_
theorem run98 (x y:Int) (R:Value->Heap->Prop) (h:Heap) (hv:VC98 Tryz.prog x y R h):CallsH Tryz.prog 98 #[.int .u64 x,.int .u64 y] h R:=calls_of_fnC (Checked.mixed Tryz.checked) Tryz.func98 comp98 (Nat.le_of_ble_eq_true rfl) (Eq.mp (by kernel_rfl) hv)
def loops139:List (List (Nat×Shp)):=[]
noncomputable def code139:SCode:=((compF Tryz.prog Tryz.f139 loops139).elim .skip fun x=>x.2.2)
def ret139:List RV:=[.tmp 4,.tmp 5]
theorem comp139:compF Tryz.prog Tryz.f139 loops139=some (51,ret139,code139):=by kernel_rfl
def VC139 (P:Program) (x y:Int) (R:Value->Heap->Prop) (h:Heap):Prop:=
 R (.tuple #[(.int .u64 (IntKind.wrap .u64 ((IntKind.wrap .u64 ((IntKind.wrap .u64 ((x / ((2 ^ 32:Nat):Int))*(y / ((2 ^ 32:Nat):Int))))+((IntKind.wrap .u64 ((IntKind.wrap .u64 ((x / ((2 ^ 32:Nat):Int))*(bop .and .u64 y 4294967295)))+((IntKind.wrap .u64 ((bop .and .u64 x 4294967295)*(bop .and .u64 y 4294967295))) / ((2 ^ 32:Nat):Int)))) / ((2 ^ 32:Nat):Int))))+((IntKind.wrap .u64 ((bop .and .u64 (IntKind.wrap .u64 ((IntKind.wrap .u64 ((x / ((2 ^ 32:Nat):Int))*(bop .and .u64 y 4294967295)))+((IntKind.wrap .u64 ((bop .and .u64 x 4294967295)*(bop .and .u64 y 4294967295))) / ((2 ^ 32:Nat):Int)))) 4294967295)+(IntKind.wrap .u64 ((bop .and .u64 x 4294967295)*(y / ((2 ^ 32:Nat):Int)))))) / ((2 ^ 32:Nat):Int))))),(.int .u64 (IntKind.wrap .u64 (x*y)))]) h
theorem run139 (x y:Int) (R:Value->Heap->Prop) (h:Heap) (hv:VC139 Tryz.prog x y R h):CallsH Tryz.prog 139 #[.int .u64 x,.int .u64 y] h R:=calls_of_fnC (Checked.mixed Tryz.checked) Tryz.func139 comp139 (Nat.le_of_ble_eq_true rfl) (Eq.mp (by kernel_rfl) hv)
def loops16:List (List (Nat×Shp)):=[[]]
noncomputable def code16:SCode:=((compF Tryz.prog Tryz.f16 loops16).elim .skip fun x=>x.2.2)
def ret16:List RV:=[.cellN 2 [.slice,.int .i64],.tmp 3]
theorem comp16:compF Tryz.prog Tryz.f16 loops16=some (45,ret16,code16):=by kernel_rfl
def J16_1  (R:Value->Heap->Prop) (h_ h_6 h_12:Heap):Prop:=
 ∃ (A13:Option Addr) (N13 C13:Nat) (t5:Int),cellsH h_12 ⟨h_6.size,0,none⟩ 0 [.slice A13 N13 C13,.int .i64 t5]/\StoreH h_12 ⟨h_.size,0,none⟩ [.slice A13 N13 C13,.int .i64 t5] fun h_13=>∃ (A14:Option Addr) (N14 C14:Nat) (t6:Int),cellsH h_13 ⟨h_.size,0,none⟩ 0 [.slice A14 N14 C14,.int .i64 t6]/\R (.tuple #[(.agg #[.slice A14 N14 C14,.int .i64 t6]),.int .i64 0]) h_13
def J16_3  (h_6 h_9:Heap) (next_:(Unit->Heap->Prop)) (h_15:Heap):Prop:=
 (Addr.off ⟨h_9.size,0,none⟩)=0/\MEntryS h_15 (Addr.block ⟨h_9.size,0,none⟩) fun e1=>∃ (k1:Int),e1.key=(.agg #[.int .u64 k1])/\∃ (v4:Int),e1.val=(.int .i64 v4)/\let h_16:Heap:=(h_15).push (.cells #[.int .u64 0] 76);StoreH h_16 ⟨h_15.size,0,none⟩ [.int .u64 k1] fun h_17=>∃ (A15:Option Addr) (N15 C15:Nat),cellH h_17 (Addr.add ⟨h_6.size,0,none⟩ 0)=some (.slice A15 N15 C15)/\0≤(0:Int)/\(0:Int)<(1:Nat)/\∃ (t7:Int),cellH h_17 (Addr.add ⟨h_15.size,0,none⟩ (Int.toNat 0*1))=some (.int .u64 t7)/\0≤t7/\t7<(N15:Nat)/\AtP A15 fun ad=>StoreH h_17 (Addr.add ad (Int.toNat t7*1)) [.int .i64 v4] fun h_18=>∃ (t8:Int),cellH h_18 (Addr.add ⟨h_6.size,0,none⟩ 1)=some (.int .i64 t8)/\StoreH h_18 (Addr.add ⟨h_6.size,0,none⟩ 1) [(.int .i64 (max (t8:Int) v4))] fun h_19=>next_ () h_19
def B16_4 (R:Value->Heap->Prop) (h_ h_6 h_9 h_11:Heap) (next_:Unit->Heap->Prop):Prop:=
 (Addr.off ⟨h_9.size,0,none⟩)=0/\MNextS h_11 (Addr.block ⟨h_9.size,0,none⟩) (J16_1 R h_ h_6 h_11) fun e h_14=>∃ (k:Value),e.key=k/\∃ (v3:Value),e.val=v3/\J16_3 h_6 h_9 next_ h_14
def J16_0  (P:Program) (R:Value->Heap->Prop) (h h_:Heap) (t1:(Option Addr)) (h_4:Heap):Prop:=
 let h_5:Heap:=(h_4).push (.cells #[(.int .i64 (-1))] 3);∃ (A11:Option Addr) (N11 C11:Nat),cellH h_5 (Addr.add ⟨h.size,0,none⟩ 2)=some (.slice A11 N11 C11)/\0≤(((N11:Nat):Int):Int)/\CallsH P 50 #[(.slice (some ⟨h_4.size,0,none⟩) 1 1),(.int .i64 (IntKind.wrap .i64 (1*2 ^ min (Int.toNat ((N11:Nat):Int)) (IntKind.bits .i64))))] h_5 fun v1 h_6=>
 ∃ (A12:Option Addr) (N12 C12:Nat),v1=(.slice A12 N12 C12)/\let h_7:Heap:=(h_6).push (.cells #[.slice none 0 0,.int .i64 0] 41);StoreH h_7 ⟨h_6.size,0,none⟩ [.slice A12 N12 C12,.int .i64 0] fun h_8=>CallsH P 43 #[.pointer t1] h_8 fun v2 h_9=>
 ∃ (t4:Option Nat),v2=(.map t4)/\MapRange h_9 t4 fun h_10=>LoopT (σ:=Unit) (fun st_ h_st nx_st=>B16_4 R h_ h_6 h_9  h_st nx_st) () h_10
def VC16 (P:Program) (c:CV) (R:Value->Heap->Prop) (h:Heap):Prop:=
 let h_:Heap:=(h).push (.cells (Value.cells c.v) 29);let h_1:Heap:=(h_).push (.cells #[.slice none 0 0,.int .i64 0] 41);LdC h_1 ⟨h.size,0,none⟩ fun t=>CallsH P 42 #[t.v] h_1 fun v h_2=>
 ∃ (t1:Option Addr) (t2:Int),v=(.tuple #[.pointer t1,.int .i64 t2])/\PIf (t2=0)
 (J16_0 P R h h_ t1 h_2)
 (StoreH h_2 ⟨h_.size,0,none⟩ [.slice none 0 0,.int .i64 0] fun h_3=>∃ (A10:Option Addr) (N10 C10:Nat) (t3:Int),cellsH h_3 ⟨h_.size,0,none⟩ 0 [.slice A10 N10 C10,.int .i64 t3]/\R (.tuple #[(.agg #[.slice A10 N10 C10,.int .i64 t3]),.int .i64 t2]) h_3)
theorem run16 (c:CV) (R:Value->Heap->Prop) (h:Heap) (hv:VC16 Tryz.prog c R h):CallsH Tryz.prog 16 #[c.v] h R:=calls_of_fnC (Checked.mixed Tryz.checked) Tryz.func16 comp16 (Nat.le_of_ble_eq_true rfl) (Eq.mp (by kernel_rfl) hv)
def loops18:List (List (Nat×Shp)):=[]
noncomputable def code18:SCode:=((compF Tryz.prog Tryz.f18 loops18).elim .skip fun x=>x.2.2)
def ret18:List RV:=[.tmp 4,.tmp 5]
theorem comp18:compF Tryz.prog Tryz.f18 loops18=some (32,ret18,code18):=by kernel_rfl
def J18_1  (P:Program) (R:Value->Heap->Prop) (h:Heap) (i:Int) (t1:(Option Addr)) (h_3:Heap):Prop:=
 ∃ (A11:Option Addr) (N11 C11:Nat),cellH h_3 (Addr.add ⟨h.size,0,none⟩ 4)=some (.slice A11 N11 C11)/\0≤i/\i<(N11:Nat)/\AtP A11 fun ad=>∃ (t3:Int),cellH h_3 (Addr.add ad (Int.toNat i*1))=some (.int .i64 t3)/\CallsH P 51 #[.pointer t1,.int .i64 t3] h_3 fun v1 h_4=>
 ∃ (t4:Int),v1=(.int .i64 t4)/\R (.tuple #[.int .i64 t4,.int .i64 0]) h_4
def J18_0  (P:Program) (R:Value->Heap->Prop) (h:Heap) (i:Int) (t1:(Option Addr)) (h_2:Heap):Prop:=
 PIf (i<0)
 (R (.tuple #[.int .i64 0,.int .i64 5]) h_2)
 (∃ (A10:Option Addr) (N10 C10:Nat),cellH h_2 (Addr.add ⟨h.size,0,none⟩ 4)=some (.slice A10 N10 C10)/\PIf ((((N10:Nat):Int):Int)≤i)
 (R (.tuple #[.int .i64 0,.int .i64 5]) h_2)
 (J18_1 P R h i t1 h_2))
def VC18 (P:Program) (c:CV) (i:Int) (R:Value->Heap->Prop) (h:Heap):Prop:=
 let h_:Heap:=(h).push (.cells (Value.cells c.v) 29);LdC h_ ⟨h.size,0,none⟩ fun t=>CallsH P 42 #[t.v] h_ fun v h_1=>
 ∃ (t1:Option Addr) (t2:Int),v=(.tuple #[.pointer t1,.int .i64 t2])/\PIf (t2=0)
 (J18_0 P R h i t1 h_1)
 (R (.tuple #[.int .i64 0,.int .i64 t2]) h_1)
theorem run18 (c:CV) (i:Int) (R:Value->Heap->Prop) (h:Heap) (hv:VC18 Tryz.prog c i R h):CallsH Tryz.prog 18 #[c.v,.int .i64 i] h R:=calls_of_fnC (Checked.mixed Tryz.checked) Tryz.func18 comp18 (Nat.le_of_ble_eq_true rfl) (Eq.mp (by kernel_rfl) hv)
end Go.Proofs.YtdpbdjdgdmheiaaGreat
