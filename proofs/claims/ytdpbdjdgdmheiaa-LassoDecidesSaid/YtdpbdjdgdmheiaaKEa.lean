/- Words and facts that the claim's proof leans on. No condition. -/
import Derived.Test.YtdpbdjdgdmheiaaHxV
import Derived.Test.YtdpbdjdgdmheiaaChecked
set_option maxRecDepth 100000
set_option linter.unusedVariables false
namespace Go.Proofs.Ytdpbdjdgdmheiaa
open Go.Hx
def loops58:List (List (Nat×Shp)):=[[(11,.int .i64)]]
noncomputable def code58:SCode:=((compF Try.prog Try.f58 loops58).elim .skip fun x=>x.2.2)
def ret58:List RV:=[.tmp 4]
theorem comp58:compF Try.prog Try.f58 loops58=some (24,ret58,code58):=by kernel_rfl
def J58_1  (h:Heap) (n size t:Int) (next_:(Int->Heap->Prop)) (h_2:Heap):Prop:=
 0≤t/\PIf (((bop .and .u64 (n / 2 ^ min (Int.toNat t) (IntKind.bits .u64)) 1):Int)=1)
 (0≤t/\t<((Int.toNat size):Nat)/\StoreH h_2 (Addr.add ⟨h.size,0,none⟩ (Int.toNat t*1)) [.bool true] fun h_3=>next_ (IntKind.wrap .i64 (t+1)) h_3)
 (0≤t/\t<((Int.toNat size):Nat)/\StoreH h_2 (Addr.add ⟨h.size,0,none⟩ (Int.toNat t*1)) [.bool false] fun h_4=>next_ (IntKind.wrap .i64 (t+1)) h_4)
def J58_0  (R:Value->Heap->Prop) (h:Heap) (size:Int) (h_5:Heap):Prop:=
 R (.slice (some ⟨h.size,0,none⟩) (Int.toNat size) (Int.toNat size)) h_5
def B58_3 (R:Value->Heap->Prop) (h:Heap) (n size t:Int) (h_1:Heap) (next_:Int->Heap->Prop):Prop:=
 PIf (t<(((Int.toNat size):Nat):Int))
 (J58_1 h n size t next_ h_1)
 (J58_0 R h size h_1)
def VC58 (P:Program) (n size:Int) (R:Value->Heap->Prop) (h:Heap):Prop:=
 0≤size/\size≤size/\(1:Int)*size≤281474976710656/\let h_:Heap:=(h).push (.cells (zeroRow #[.bool false] (Int.toNat size*1)).toArray 4);LoopT (σ:=Int) (fun st_ h_st nx_st=>B58_3 R h n size (st_) h_st nx_st) (0) h_
theorem run58 (n size:Int) (R:Value->Heap->Prop) (h:Heap) (hv:VC58 Try.prog n size R h):CallsH Try.prog 58 #[.int .u64 n,.int .i64 size] h R:=calls_of_fnC (Checked.mixed Try.checked) Try.func58 comp58 (Nat.le_of_ble_eq_true rfl) (Eq.mp (by kernel_rfl) hv)
def loops62:List (List (Nat×Shp)):=[]
noncomputable def code62:SCode:=((compF Try.prog Try.f62 loops62).elim .skip fun x=>x.2.2)
def ret62:List RV:=[.tmp 4]
theorem comp62:compF Try.prog Try.f62 loops62=some (14,ret62,code62):=by kernel_rfl
def VC62 (P:Program) (vA:Option Addr) (vN vC:Nat) (l:Int) (R:Value->Heap->Prop) (h:Heap):Prop:=
 0≤((l / ((2 ^ 1:Nat):Int)):Int)/\((l / ((2 ^ 1:Nat):Int)):Int)<(vN:Nat)/\AtP vA fun ad=>∃ (t:Bool),cellH h (Addr.add ad (Int.toNat (l / ((2 ^ 1:Nat):Int))*1))=some (.bool t)/\PIf (((bop .and .i64 l 1):Int)=1)
 (PIf ((t:Bool)=true)
 (R (.bool false) h)
 (R (.bool true) h))
 (PIf ((t:Bool)=false)
 (R (.bool false) h)
 (R (.bool true) h))
theorem run62 (vA:Option Addr) (vN vC:Nat) (l:Int) (R:Value->Heap->Prop) (h:Heap) (hv:VC62 Try.prog vA vN vC l R h):CallsH Try.prog 62 #[.slice vA vN vC,.int .i64 l] h R:=calls_of_fnC (Checked.mixed Try.checked) Try.func62 comp62 (Nat.le_of_ble_eq_true rfl) (Eq.mp (by kernel_rfl) hv)
def loops61:List (List (Nat×Shp)):=[]
noncomputable def code61:SCode:=((compF Try.prog Try.f61 loops61).elim .skip fun x=>x.2.2)
def ret61:List RV:=[.tmp 3]
theorem comp61:compF Try.prog Try.f61 loops61=some (8,ret61,code61):=by kernel_rfl
def VC61 (P:Program) (l:Int) (t:Option Addr) (R:Value->Heap->Prop) (h:Heap):Prop:=
 AtP t fun ad=>∃ (A:Option Addr) (N C:Nat),cellH h ad=some (.slice A N C)/\CallsH P 62 #[.slice A N C,.int .i64 l] h fun v h_=>
 ∃ (t1:Bool),v=(.bool t1)/\R (.bool (!t1)) h_
theorem run61 (l:Int) (t:Option Addr) (R:Value->Heap->Prop) (h:Heap) (hv:VC61 Try.prog l t R h):CallsH Try.prog 61 #[.int .i64 l,.pointer t] h R:=calls_of_fnC (Checked.mixed Try.checked) Try.func61 comp61 (Nat.le_of_ble_eq_true rfl) (Eq.mp (by kernel_rfl) hv)
def loops57:List (List (Nat×Shp)):=[]
noncomputable def code57:SCode:=((compF Try.prog Try.f57 loops57).elim .skip fun x=>x.2.2)
def ret57:List RV:=[.tmp 2]
theorem comp57:compF Try.prog Try.f57 loops57=some (29,ret57,code57):=by kernel_rfl
def J57_0  (R:Value->Heap->Prop) (h h_2:Heap):Prop:=
 ∃ (A10:Option Addr) (N10 C10:Nat),cellH h_2 (Addr.add ⟨h.size,0,none⟩ 2)=some (.slice A10 N10 C10)/\PIf ((8:Int)<((N10:Nat):Int))
 (R (.int .i64 6) h_2)
 (∃ (A11:Option Addr) (N11 C11:Nat),cellH h_2 (Addr.add ⟨h.size,0,none⟩ 1)=some (.slice A11 N11 C11)/\PIf ((6:Int)<((N11:Nat):Int))
 (R (.int .i64 6) h_2)
 (∃ (A12:Option Addr) (N12 C12:Nat),cellH h_2 (Addr.add ⟨h.size,0,none⟩ 8)=some (.slice A12 N12 C12)/\PIf ((1024:Int)<((N12:Nat):Int))
 (R (.int .i64 6) h_2)
 (R (.int .i64 0) h_2)))
def VC57 (P:Program) (c:CV) (R:Value->Heap->Prop) (h:Heap):Prop:=
 let h_:Heap:=(h).push (.cells (Value.cells c.v) 29);LdC h_ ⟨h.size,0,none⟩ fun t=>CallsH P 27 #[t.v] h_ fun v h_1=>
 ∃ (t1 t2:Int),v=(.tuple #[.int .i64 t1,.int .i64 t2])/\PIf (t2=0)
 (J57_0 R h h_1)
 (R (.int .i64 t2) h_1)
theorem run57 (c:CV) (R:Value->Heap->Prop) (h:Heap) (hv:VC57 Try.prog c R h):CallsH Try.prog 57 #[c.v] h R:=calls_of_fnC (Checked.mixed Try.checked) Try.func57 comp57 (Nat.le_of_ble_eq_true rfl) (Eq.mp (by kernel_rfl) hv)
def loops44:List (List (Nat×Shp)):=[[(3,.slice),(15,.int .u64)],[(5,.bool),(24,.int .i64)]]
noncomputable def code44:SCode:=((compF Try.prog Try.f44 loops44).elim .skip fun x=>x.2.2)
def ret44:List RV:=[.tmp 2]
theorem comp44:compF Try.prog Try.f44 loops44=some (54,ret44,code44):=by kernel_rfl
def J44_4  (t:Int) (A1:(Option Addr)) (N1:Nat) (ok:Bool) (t1:Int) (next_1:(Bool×Int->Heap->Prop)) (h_3:Heap):Prop:=
 0≤t1/\t1<(N1:Nat)/\AtP A1 fun ad2=>∃ (t2 t3 t4:Int),cellsH h_3 (Addr.add ad2 (Int.toNat t1*3)) 0 [.int .i64 t2,.int .i64 t3,.int .i64 t4]/\let h_4:Heap:=(h_3).push (.cells #[.int .i64 0,.int .i64 0,.int .i64 0] 63);StoreH h_4 ⟨h_3.size,0,none⟩ [.int .i64 t2,.int .i64 t3,.int .i64 t4] fun h_5=>BIf ok (∃ (t5:Int),cellH h_5 (Addr.add ⟨h_3.size,0,none⟩ 2)=some (.int .i64 t5)/\PIf ((1:Int)<t5)
 (next_1 (true,(IntKind.wrap .i64 (t1+1))) h_5)
 (0≤t1/\∃ (t6:Int),cellH h_5 (Addr.add ⟨h_3.size,0,none⟩ 2)=some (.int .i64 t6)/\PIf (((bop .and .u64 (t / 2 ^ min (Int.toNat t1) (IntKind.bits .u64)) 1):Int)=(IntKind.wrap .u64 t6))
 (next_1 (true,(IntKind.wrap .i64 (t1+1))) h_5)
 (next_1 (false,(IntKind.wrap .i64 (t1+1))) h_5))) (next_1 (false,(IntKind.wrap .i64 (t1+1))) h_5)
def J44_2  (t:Int) (next_:((Option Addr×Nat×Nat)×Int->Heap->Prop)) (outA1:Option Addr) (outN1 outC1:Nat) (h_9:Heap):Prop:=
 next_ ((outA1,outN1,outC1),(IntKind.wrap .u64 (t+1))) h_9
def J44_3  (outA:(Option Addr)) (outN outC:Nat) (t:Int) (next_:((Option Addr×Nat×Nat)×Int->Heap->Prop)) (ok1:Bool) (h_6:Heap):Prop:=
 BIf ok1 (let h_7:Heap:=(h_6).push (.cells #[.int .u64 t] 85);∃ ys:List Value,ReadL h_7 (some ⟨h_6.size,0,none⟩) ys/\ys.length=1*1/\AppS h_7 outA outN outC 85 8 1 #[.int .u64 0] ys 1 fun apA apN apC h_8=>J44_2 t next_ (apA) (apN) (apC) h_8) (J44_2 t next_ (outA) (outN) (outC) h_6)
def B44_6 (outA:(Option Addr)) (outN outC:Nat) (t:Int) (next_:((Option Addr×Nat×Nat)×Int->Heap->Prop)) (A1:(Option Addr)) (N1:Nat) (ok:Bool) (t1:Int) (h_2:Heap) (next_1:Bool×Int->Heap->Prop):Prop:=
 PIf (t1<((N1:Nat):Int))
 (J44_4 t A1 N1 ok t1 next_1 h_2)
 (J44_3 outA outN outC t next_ (ok) h_2)
def J44_1  (w:(Option Addr)) (outA:(Option Addr)) (outN outC:Nat) (t:Int) (next_:((Option Addr×Nat×Nat)×Int->Heap->Prop)) (h_1:Heap):Prop:=
 AtP w fun ad1=>∃ (A1:Option Addr) (N1 C1:Nat),cellH h_1 (Addr.add (Addr.add ad1 0) 2)=some (.slice A1 N1 C1)/\LoopT (σ:=Bool×Int) (fun st_ h_st nx_st=>B44_6 outA outN outC t next_ A1 N1 (st_.1) (st_.2) h_st nx_st) (true,0) h_1
def J44_0  (R:Value->Heap->Prop) (outA2:Option Addr) (outN2 outC2:Nat) (h_10:Heap):Prop:=
 R (.slice outA2 outN2 outC2) h_10
def B44_8 (R:Value->Heap->Prop) (w:(Option Addr)) (N:Nat) (outA:Option Addr) (outN outC:Nat) (t:Int) (h_:Heap) (next_:(Option Addr×Nat×Nat)×Int->Heap->Prop):Prop:=
 PIf (t<(IntKind.wrap .u64 (1*2 ^ min (Int.toNat ((N:Nat):Int)) (IntKind.bits .u64))))
 (J44_1 w outA outN outC t next_ h_)
 (J44_0 R (outA) (outN) (outC) h_)
def VC44 (P:Program) (w:Option Addr) (R:Value->Heap->Prop) (h:Heap):Prop:=
 AtP w fun ad=>∃ (A:Option Addr) (N C:Nat),cellH h (Addr.add (Addr.add ad 0) 2)=some (.slice A N C)/\0≤(((N:Nat):Int):Int)/\LoopT (σ:=(Option Addr×Nat×Nat)×Int) (fun st_ h_st nx_st=>B44_8 R w N (st_.1.1) (st_.1.2.1) (st_.1.2.2) (st_.2) h_st nx_st) ((none,0,0),0) h
theorem run44 (w:Option Addr) (R:Value->Heap->Prop) (h:Heap) (hv:VC44 Try.prog w R h):CallsH Try.prog 44 #[.pointer w] h R:=calls_of_fnC (Checked.mixed Try.checked) Try.func44 comp44 (Nat.le_of_ble_eq_true rfl) (Eq.mp (by kernel_rfl) hv)
def loops34:List (List (Nat×Shp)):=[[(27,.int .u64)],[(39,.int .i64)],[(11,.int .u64),(64,.int .i64)]]
noncomputable def code34:SCode:=((compF Try.prog Try.f34 loops34).elim .skip fun x=>x.2.2)
def ret34:List RV:=[.tmp 2,.tmp 3]
theorem comp34:compF Try.prog Try.f34 loops34=some (101,ret34,code34):=by kernel_rfl
def J34_5  (t4:Int) (next_1:(Int->Heap->Prop)) (h_19:Heap):Prop:=
 next_1 (IntKind.wrap .i64 (t4+1)) h_19
def J34_9  (P:Program) (b:Nat) (A38:(Option Addr)) (N38:Nat) (next_2 t8:Int) (next_3:(Int×Int->Heap->Prop)) (h_22:Heap):Prop:=
 0≤t8/\t8<(N38:Nat)/\AtP A38 fun ad=>∃ (t9 t10 t11:Int),cellsH h_22 (Addr.add ad (Int.toNat t8*3)) 0 [.int .i64 t9,.int .i64 t10,.int .i64 t11]/\let h_23:Heap:=(h_22).push (.cells #[.int .i64 0,.int .i64 0,.int .i64 0] 63);StoreH h_23 ⟨h_22.size,0,none⟩ [.int .i64 t9,.int .i64 t10,.int .i64 t11] fun h_24=>∃ (A39:Option Addr) (N39 C39:Nat),cellH h_24 (Addr.mk b 0 none)=some (.slice A39 N39 C39)/\∃ (t12:Int),cellH h_24 (Addr.add ⟨h_22.size,0,none⟩ 1)=some (.int .i64 t12)/\CallsH P 62 #[.slice A39 N39 C39,.int .i64 t12] h_24 fun v5 h_25=>
 ∃ (t13:Bool),v5=(.bool t13)/\BIf t13 (0≤t8/\next_3 ((bop .or .u64 next_2 (IntKind.wrap .u64 (1*2 ^ min (Int.toNat t8) (IntKind.bits .u64)))),(IntKind.wrap .i64 (t8+1))) h_25) (next_3 (next_2,(IntKind.wrap .i64 (t8+1))) h_25)
def J34_8  (h_3:Heap) (t3 t4:Int) (next_1:(Int->Heap->Prop)) (b:Nat) (next_4:Int) (h_26:Heap):Prop:=
 ∃ zn:Zone,Zone.hasL zn h_26 (Addr.add ⟨h_3.size,0,none⟩ 11)/\∃ (t14:Option Nat),cellH h_26 (Addr.add ⟨h_3.size,0,none⟩ 11)=some (.map t14)/\Zone.hasL zn h_26 (Addr.add ⟨h_3.size,0,none⟩ 11)/\∃ (t15:Option Nat),cellH h_26 (Addr.add ⟨h_3.size,0,none⟩ 11)=some (.map t15)/\MapLookW zn (.flat [.int .u64]) (.agg #[.int .u64 t3]) (.slice none 0 0) h_26 t15 (Zone.hasL zn h_26 (Addr.mk b 0 none)/\∃ (A40:Option Addr) (N40 C40:Nat),cellH h_26 (Addr.mk b 0 none)=some (.slice A40 N40 C40)/\let h_27:Heap:=(h_26).push (.cells #[.int .i64 t4,.int .u64 next_4,.slice A40 N40 C40] 132);Zone.r zn h_26 h_27/\∃ ys:List Value,ReadL h_27 (some ⟨h_26.size,0,none⟩) ys/\ys.length=1*3/\AppS h_27 none 0 0 132 40 3 #[.int .i64 0,.int .u64 0,.slice none 0 0] ys 1 fun apA apN apC h_28=>Zone.r zn h_27 h_28/\MapPut (.flat [.int .u64]) (.agg #[.int .u64 t3]) (.slice apA apN apC) h_28 t14 fun h_29=>J34_5 t4 next_1 h_29) fun look=>∃ (A41:Option Addr) (N41 C41:Nat),look (.slice A41 N41 C41)/\Zone.hasL zn h_26 (Addr.mk b 0 none)/\∃ (A42:Option Addr) (N42 C42:Nat),cellH h_26 (Addr.mk b 0 none)=some (.slice A42 N42 C42)/\let h_30:Heap:=(h_26).push (.cells #[.int .i64 t4,.int .u64 next_4,.slice A42 N42 C42] 132);Zone.r zn h_26 h_30/\∃ ys1:List Value,ReadL h_30 (some ⟨h_26.size,0,none⟩) ys1/\ys1.length=1*3/\AppS h_30 A41 N41 C41 132 40 3 #[.int .i64 0,.int .u64 0,.slice none 0 0] ys1 1 fun apA1 apN1 apC1 h_31=>Zone.r zn h_30 h_31/\MapPut (.flat [.int .u64]) (.agg #[.int .u64 t3]) (.slice apA1 apN1 apC1) h_31 t14 fun h_32=>J34_5 t4 next_1 h_32
def B34_11 (P:Program) (h_3:Heap) (t3 t4:Int) (next_1:(Int->Heap->Prop)) (b:Nat) (A38:(Option Addr)) (N38:Nat) (next_2 t8:Int) (h_21:Heap) (next_3:Int×Int->Heap->Prop):Prop:=
 PIf (t8<((N38:Nat):Int))
 (J34_9 P b A38 N38 next_2 t8 next_3 h_21)
 (J34_8 h_3 t3 t4 next_1 b (next_2) h_21)
def J34_7  (P:Program) (h h_3:Heap) (t3 t4:Int) (next_1:(Int->Heap->Prop)) (b:Nat) (h_20:Heap):Prop:=
 ∃ (A38:Option Addr) (N38 C38:Nat),cellH h_20 (Addr.add ⟨h.size,0,none⟩ 2)=some (.slice A38 N38 C38)/\LoopT (σ:=Int×Int) (fun st_ h_st nx_st=>B34_11 P h_3 t3 t4 next_1 b A38 N38 (st_.1) (st_.2) h_st nx_st) (0,0) h_20
def J34_6  (P:Program) (h h_3:Heap) (t3 t4:Int) (next_1:(Int->Heap->Prop)) (b:Nat) (h_17:Heap):Prop:=
 ∃ (A37:Option Addr) (N37 C37:Nat),cellH h_17 (Addr.add ⟨h.size,0,none⟩ 5)=some (.slice A37 N37 C37)/\CallsH P 60 #[.slice A37 N37 C37,(.func (.func 61) #[] #[(.pointer (some (Addr.mk b 0 none)))])] h_17 fun v4 h_18=>
 ∃ (t7:Bool),v4=(.bool t7)/\BIf t7 (J34_5 t4 next_1 h_18) (J34_7 P h h_3 t3 t4 next_1 b h_18)
def J34_4  (P:Program) (R:Value->Heap->Prop) (h h_3:Heap) (t3:Int) (A22:(Option Addr)) (N22 C22:Nat) (t4:Int) (next_1:(Int->Heap->Prop)) (h_9:Heap):Prop:=
 (Addr.block (Addr.add ⟨h.size,0,none⟩ 1))<(h_9).size/\∃ (A24:Option Addr) (N24 C24:Nat),cellH h_9 (Addr.add ⟨h.size,0,none⟩ 1)=some (.slice A24 N24 C24)/\∀ (U:Nat->Prop) (h_10:Heap),GrowH none' h_9 U h_10->CallsH P 58 #[(.int .u64 (IntKind.wrap .u64 t4)),(.int .i64 ((N24:Nat):Int))] h_10 fun v2 h_11=>
 ∃ (A25:Option Addr) (N25 C25:Nat),v2=(.slice A25 N25 C25)/\Keeps (h_9).size U h_10 h_11/\(Addr.block ⟨h.size,0,none⟩)<(h_9).size/\LdC h_11 ⟨h.size,0,none⟩ fun t5=>∀ (U1:Nat->Prop) (h_12:Heap),GrowH U h_11 U1 h_12->CallsH P 59 #[t5.v,.slice A22 N22 C22,.slice A25 N25 C25] h_12 fun v3 h_13=>
 ∃ (A36:Option Addr) (N36 C36:Nat) (t6:Int),v3=(.tuple #[.slice A36 N36 C36,.int .i64 t6])/\Keeps (h_9).size U1 h_12 h_13/\∀ (U2:Nat->Prop) (h_14:Heap) (b:Nat),GrowH U1 h_13 U2 h_14->U2 b->(h_14)[b]?=some (Obj.cells #[.slice none 0 0] 44)->∀ (U3:Nat->Prop) (h_15:Heap),GrowH (minus U2 b) h_14 U3 h_15->StoreH h_15 (Addr.mk b 0 none) [.slice A36 N36 C36] fun h_16=>(h_15).size≤(h_16).size/\PIf (t6=0)
 (J34_6 P h h_3 t3 t4 next_1 b h_16)
 (R (.tuple #[.pointer none,.int .i64 t6]) h_16)
def J34_3  (t3:Int) (next_:(Int->Heap->Prop)) (h_33:Heap):Prop:=
 next_ ((IntKind.wrap .u64 (t3+1))) h_33
def B34_13 (P:Program) (R:Value->Heap->Prop) (h h_3:Heap) (t3:Int) (next_:(Int->Heap->Prop)) (A22:(Option Addr)) (N22 C22 N23:Nat) (t4:Int) (h_8:Heap) (next_1:Int->Heap->Prop):Prop:=
 PIf (t4<(IntKind.wrap .i64 (1*2 ^ min (Int.toNat ((N23:Nat):Int)) (IntKind.bits .i64))))
 (J34_4 P R h h_3 t3 A22 N22 C22 t4 next_1 h_8)
 (J34_3 t3 next_ h_8)
def J34_2  (P:Program) (R:Value->Heap->Prop) (h h_3:Heap) (t3:Int) (next_:(Int->Heap->Prop)) (h_6:Heap):Prop:=
 ∃ (A21:Option Addr) (N21 C21:Nat),cellH h_6 (Addr.add ⟨h.size,0,none⟩ 2)=some (.slice A21 N21 C21)/\CallsH P 58 #[.int .u64 t3,(.int .i64 ((N21:Nat):Int))] h_6 fun v1 h_7=>
 ∃ (A22:Option Addr) (N22 C22:Nat),v1=(.slice A22 N22 C22)/\∃ (A23:Option Addr) (N23 C23:Nat),cellH h_7 (Addr.add ⟨h.size,0,none⟩ 1)=some (.slice A23 N23 C23)/\0≤(((N23:Nat):Int):Int)/\LoopT (σ:=Int) (fun st_ h_st nx_st=>B34_13 P R h h_3 t3 next_ A22 N22 C22 N23 (st_) h_st nx_st) (0) h_7
def J34_1  (R:Value->Heap->Prop) (h_3 h_34:Heap):Prop:=
 R (.tuple #[(.pointer (some ⟨h_3.size,0,none⟩)),.int .i64 0]) h_34
def B34_15 (P:Program) (R:Value->Heap->Prop) (h h_3:Heap) (N20:Nat) (t3:Int) (h_5:Heap) (next_:Int->Heap->Prop):Prop:=
 PIf (t3<(IntKind.wrap .u64 (1*2 ^ min (Int.toNat ((N20:Nat):Int)) (IntKind.bits .u64))))
 (J34_2 P R h h_3 t3 next_ h_5)
 (J34_1 R h_3 h_5)
def J34_0  (P:Program) (R:Value->Heap->Prop) (h h_2:Heap):Prop:=
 LdC h_2 ⟨h.size,0,none⟩ fun t2=>let h_3:Heap:=(h_2).push (.map #[] 0);let h_4:Heap:=(h_3).push (.cells (Value.cells (.agg #[.int .i64 t2.mx,.slice t2.i.a t2.i.n t2.i.c,.slice t2.l.a t2.l.n t2.l.c,.slice t2.o.a t2.o.n t2.o.c,.slice t2.b.a t2.b.n t2.b.c,.slice t2.c.a t2.c.n t2.c.c,.slice t2.j.a t2.j.n t2.j.c,.slice t2.f.a t2.f.n t2.f.c,.slice t2.g.a t2.g.n t2.g.c,.slice t2.s.a t2.s.n t2.s.c,.slice t2.m.a t2.m.n t2.m.c,(.map (some (h_2).size))])) 125);∃ (A20:Option Addr) (N20 C20:Nat),cellH h_4 (Addr.add ⟨h.size,0,none⟩ 2)=some (.slice A20 N20 C20)/\0≤(((N20:Nat):Int):Int)/\LoopT (σ:=Int) (fun st_ h_st nx_st=>B34_15 P R h h_3 N20 (st_) h_st nx_st) (0) h_4
def VC34 (P:Program) (c:CV) (R:Value->Heap->Prop) (h:Heap):Prop:=
 let h_:Heap:=(h).push (.cells (Value.cells c.v) 29);LdC h_ ⟨h.size,0,none⟩ fun t=>CallsH P 57 #[t.v] h_ fun v h_1=>
 ∃ (t1:Int),v=(.int .i64 t1)/\PIf (t1=0)
 (J34_0 P R h h_1)
 (R (.tuple #[.pointer none,.int .i64 t1]) h_1)
theorem run34 (c:CV) (R:Value->Heap->Prop) (h:Heap) (hv:VC34 Try.prog c R h):CallsH Try.prog 34 #[c.v] h R:=calls_of_fnC (Checked.mixed Try.checked) Try.func34 comp34 (Nat.le_of_ble_eq_true rfl) (Eq.mp (by kernel_rfl) hv)
def loops40:List (List (Nat×Shp)):=[[(17,.int .i64)],[(4,.slice)],[(4,.slice),(39,.int .i64)]]
noncomputable def code40:SCode:=((compF Try.prog Try.f40 loops40).elim .skip fun x=>x.2.2)
def ret40:List RV:=[.tmp 2]
theorem comp40:compF Try.prog Try.f40 loops40=some (66,ret40,code40):=by kernel_rfl
def J40_1  (h:Heap) (A:(Option Addr)) (N:Nat) (t:Int) (next_:(Int->Heap->Prop)) (h_3:Heap):Prop:=
 0≤t/\t<(N:Nat)/\AtP A fun ad=>∃ (t1:Int),cellsH h_3 (Addr.add ad (Int.toNat t*1)) 0 [.int .u64 t1]/\let h_4:Heap:=(h_3).push (.cells #[.int .u64 0] 85);StoreH h_4 ⟨h_3.size,0,none⟩ [.int .u64 t1] fun h_5=>∃ (t2:Int),cellsH h_5 ⟨h_3.size,0,none⟩ 0 [.int .u64 t2]/\MapPut (.flat [.int .u64]) (.agg #[.int .u64 t2]) (.int .i64 0) h_5 (some (h).size) fun h_6=>next_ (IntKind.wrap .i64 (t+1)) h_6
def J40_5  (t6:Int) (h_13:Heap):Prop:=
 0≤t6/\t6<(0:Nat)/\False
def B40_7 (next_1:((Option Addr×Nat×Nat)->Heap->Prop)) (workA1:Option Addr) (workN1 workC1:Nat) (t6:Int) (h_12:Heap) (next_2:(Option Addr×Nat×Nat)×Int->Heap->Prop):Prop:=
 PIf (t6<((0:Nat):Int))
 (J40_5 t6 h_12)
 (next_1 ((workA1,workN1,workC1)) h_12)
def J40_8  (h h_9:Heap) (A1:(Option Addr)) (N1:Nat) (workA2:(Option Addr)) (workN2 workC2:Nat) (t7:Int) (next_3:((Option Addr×Nat×Nat)×Int->Heap->Prop)) (h_15:Heap):Prop:=
 0≤t7/\t7<(N1:Nat)/\AtP A1 fun ad3=>∃ (t8 t9:Int) (A2:Option Addr) (N2 C2:Nat),cellsH h_15 (Addr.add ad3 (Int.toNat t7*3)) 0 [.int .i64 t8,.int .u64 t9,.slice A2 N2 C2]/\let h_16:Heap:=(h_15).push (.cells #[.int .i64 0,.int .u64 0,.slice none 0 0] 132);StoreH h_16 ⟨h_15.size,0,none⟩ [.int .i64 t8,.int .u64 t9,.slice A2 N2 C2] fun h_17=>∃ (t10:Int),cellsH h_17 (Addr.add ⟨h_15.size,0,none⟩ 1) 0 [.int .u64 t10]/\MapLook (.flat [.int .u64]) (.agg #[.int .u64 t10]) h_17 (some (h).size) none (∃ (t11:Int),cellsH h_17 (Addr.add ⟨h_15.size,0,none⟩ 1) 0 [.int .u64 t11]/\∃ (t12:Int),cellsH h_17 ⟨h_9.size,0,none⟩ 0 [.int .u64 t12]/\MapLook (.flat [.int .u64]) (.agg #[.int .u64 t12]) h_17 (some (h).size) none (MapPut (.flat [.int .u64]) (.agg #[.int .u64 t11]) (.int .i64 (IntKind.wrap .i64 (0+1))) h_17 (some (h).size) fun h_18=>∃ (t13:Int),cellsH h_18 (Addr.add ⟨h_15.size,0,none⟩ 1) 0 [.int .u64 t13]/\let h_19:Heap:=(h_18).push (.cells #[.int .u64 t13] 85);∃ ys:List Value,ReadL h_19 (some ⟨h_18.size,0,none⟩) ys/\ys.length=1*1/\AppS h_19 workA2 workN2 workC2 85 8 1 #[.int .u64 0] ys 1 fun apA apN apC h_20=>next_3 ((apA,apN,apC),(IntKind.wrap .i64 (t7+1))) h_20) fun u1=>∃ (t14:Int),u1=(.int .i64 t14)/\MapPut (.flat [.int .u64]) (.agg #[.int .u64 t11]) (.int .i64 (IntKind.wrap .i64 (t14+1))) h_17 (some (h).size) fun h_21=>∃ (t15:Int),cellsH h_21 (Addr.add ⟨h_15.size,0,none⟩ 1) 0 [.int .u64 t15]/\let h_22:Heap:=(h_21).push (.cells #[.int .u64 t15] 85);∃ ys1:List Value,ReadL h_22 (some ⟨h_21.size,0,none⟩) ys1/\ys1.length=1*1/\AppS h_22 workA2 workN2 workC2 85 8 1 #[.int .u64 0] ys1 1 fun apA1 apN1 apC1 h_23=>next_3 ((apA1,apN1,apC1),(IntKind.wrap .i64 (t7+1))) h_23) fun u2=>∃ (t16:Int),u2=(.int .i64 t16)/\next_3 ((workA2,workN2,workC2),(IntKind.wrap .i64 (t7+1))) h_17
def B40_10 (h:Heap) (next_1:((Option Addr×Nat×Nat)->Heap->Prop)) (h_9:Heap) (A1:(Option Addr)) (N1:Nat) (workA2:Option Addr) (workN2 workC2:Nat) (t7:Int) (h_14:Heap) (next_3:(Option Addr×Nat×Nat)×Int->Heap->Prop):Prop:=
 PIf (t7<((N1:Nat):Int))
 (J40_8 h h_9 A1 N1 workA2 workN2 workC2 t7 next_3 h_14)
 (next_1 ((workA2,workN2,workC2)) h_14)
def J40_4  (h:Heap) (w:(Option Addr)) (workA:(Option Addr)) (workN workC:Nat) (next_1:((Option Addr×Nat×Nat)->Heap->Prop)) (h_9:Heap):Prop:=
 0≤(0:Int)/\(0:Int)<(workN:Nat)/\AtP workA fun ad1=>∃ (t3:Int),cellsH h_9 (Addr.add ad1 (Int.toNat 0*1)) 0 [.int .u64 t3]/\let h_10:Heap:=(h_9).push (.cells #[.int .u64 0] 85);StoreH h_10 ⟨h_9.size,0,none⟩ [.int .u64 t3] fun h_11=>0≤(1:Int)/\(1:Int)≤((workN:Nat):Int)/\(((workN:Nat):Int):Int)≤(workC:Nat)/\AtP w fun ad2=>∃ (t4:Option Nat),cellH h_11 (Addr.add ad2 11)=some (.map t4)/\∃ (t5:Int),cellsH h_11 ⟨h_9.size,0,none⟩ 0 [.int .u64 t5]/\MapLook (.flat [.int .u64]) (.agg #[.int .u64 t5]) h_11 t4 none (LoopT (σ:=(Option Addr×Nat×Nat)×Int) (fun st_ h_st nx_st=>B40_7 next_1 (st_.1.1) (st_.1.2.1) (st_.1.2.2) (st_.2) h_st nx_st) (((cutA 1 workA workC (Int.toNat 1)),(Int.toNat ((workN:Nat):Int)-Int.toNat 1),(workC-Int.toNat 1)),0) h_11) fun u=>∃ (A1:Option Addr) (N1 C1:Nat),u=(.slice A1 N1 C1)/\LoopT (σ:=(Option Addr×Nat×Nat)×Int) (fun st_ h_st nx_st=>B40_10 h next_1 h_9 A1 N1 (st_.1.1) (st_.1.2.1) (st_.1.2.2) (st_.2) h_st nx_st) (((cutA 1 workA workC (Int.toNat 1)),(Int.toNat ((workN:Nat):Int)-Int.toNat 1),(workC-Int.toNat 1)),0) h_11
def J40_3  (R:Value->Heap->Prop) (h h_24:Heap):Prop:=
 R (.map (some (h).size)) h_24
def B40_11 (R:Value->Heap->Prop) (h:Heap) (w:(Option Addr)) (workA:Option Addr) (workN workC:Nat) (h_8:Heap) (next_1:(Option Addr×Nat×Nat)->Heap->Prop):Prop:=
 PIf ((0:Int)<((workN:Nat):Int))
 (J40_4 h w workA workN workC next_1 h_8)
 (J40_3 R h h_8)
def J40_0  (R:Value->Heap->Prop) (h:Heap) (w:(Option Addr)) (A:(Option Addr)) (N C:Nat) (h_7:Heap):Prop:=
 LoopT (σ:=(Option Addr×Nat×Nat)) (fun st_ h_st nx_st=>B40_11 R h w (st_.1) (st_.2.1) (st_.2.2) h_st nx_st) ((A,N,C)) h_7
def B40_12 (R:Value->Heap->Prop) (h:Heap) (w:(Option Addr)) (A:(Option Addr)) (N C:Nat) (t:Int) (h_2:Heap) (next_:Int->Heap->Prop):Prop:=
 PIf (t<((N:Nat):Int))
 (J40_1 h A N t next_ h_2)
 (J40_0 R h w A N C h_2)
def VC40 (P:Program) (w:Option Addr) (R:Value->Heap->Prop) (h:Heap):Prop:=
 let h_:Heap:=(h).push (.map #[] 0);CallsH P 44 #[.pointer w] h_ fun v h_1=>
 ∃ (A:Option Addr) (N C:Nat),v=(.slice A N C)/\LoopT (σ:=Int) (fun st_ h_st nx_st=>B40_12 R h w A N C (st_) h_st nx_st) (0) h_1
theorem run40 (w:Option Addr) (R:Value->Heap->Prop) (h:Heap) (hv:VC40 Try.prog w R h):CallsH Try.prog 40 #[.pointer w] h R:=calls_of_fnC (Checked.mixed Try.checked) Try.func40 comp40 (Nat.le_of_ble_eq_true rfl) (Eq.mp (by kernel_rfl) hv)
def loops63:List (List (Nat×Shp)):=[]
noncomputable def code63:SCode:=((compF Try.prog Try.f63 loops63).elim .skip fun x=>x.2.2)
def ret63:List RV:=[.tmp 4]
theorem comp63:compF Try.prog Try.f63 loops63=some (9,ret63,code63):=by kernel_rfl
def VC63 (P:Program) (sA:Option Addr) (sN sC:Nat) (f:Value) (R:Value->Heap->Prop) (h:Heap):Prop:=
 CallsH P 92 #[.slice sA sN sC,f] h fun v h_=>
 ∃ (t:Int),v=(.int .i64 t)/\PIf ((0:Int)≤t)
 (R (.bool true) h_)
 (R (.bool false) h_)
theorem run63 (sA:Option Addr) (sN sC:Nat) (f:Value) (R:Value->Heap->Prop) (h:Heap) (hv:VC63 Try.prog sA sN sC f R h):CallsH Try.prog 63 #[.slice sA sN sC,f] h R:=calls_of_fnC (Checked.mixed Try.checked) Try.func63 comp63 (Nat.le_of_ble_eq_true rfl) (Eq.mp (by kernel_rfl) hv)
def loops92:List (List (Nat×Shp)):=[[(8,.int .i64)]]
noncomputable def code92:SCode:=((compF Try.prog Try.f92 loops92).elim .skip fun x=>x.2.2)
def ret92:List RV:=[.tmp 4]
theorem comp92:compF Try.prog Try.f92 loops92=some (19,ret92,code92):=by kernel_rfl
def J92_1  (P:Program) (R:Value->Heap->Prop) (sA:(Option Addr)) (sN:Nat) (f:Value) (t:Int) (next_:(Int->Heap->Prop)) (h_1:Heap):Prop:=
 0≤t/\t<(sN:Nat)/\AtP sA fun ad=>∃ (t1 t2:Int) (A:Option Addr) (N C:Nat),cellsH h_1 (Addr.add ad (Int.toNat t*3)) 0 [.int .i64 t1,.int .u64 t2,.slice A N C]/\CallV P f [(.agg #[.int .i64 t1,.int .u64 t2,.slice A N C])] h_1 fun v h_2=>
 ∃ (t3:Bool),v=(.bool t3)/\BIf t3 (R (.int .i64 t) h_2) (next_ (IntKind.wrap .i64 (t+1)) h_2)
def J92_0  (R:Value->Heap->Prop) (h_3:Heap):Prop:=
 R (.int .i64 (-1)) h_3
def B92_3 (P:Program) (R:Value->Heap->Prop) (sA:(Option Addr)) (sN:Nat) (f:Value) (t:Int) (h_:Heap) (next_:Int->Heap->Prop):Prop:=
 PIf (t<((sN:Nat):Int))
 (J92_1 P R sA sN f t next_ h_)
 (J92_0 R h_)
def VC92 (P:Program) (sA:Option Addr) (sN sC:Nat) (f:Value) (R:Value->Heap->Prop) (h:Heap):Prop:=
 LoopT (σ:=Int) (fun st_ h_st nx_st=>B92_3 P R sA sN f (st_) h_st nx_st) (0) h
theorem run92 (sA:Option Addr) (sN sC:Nat) (f:Value) (R:Value->Heap->Prop) (h:Heap) (hv:VC92 Try.prog sA sN sC f R h):CallsH Try.prog 92 #[.slice sA sN sC,f] h R:=calls_of_fnC (Checked.mixed Try.checked) Try.func92 comp92 (Nat.le_of_ble_eq_true rfl) (Eq.mp (by kernel_rfl) hv)
def loops64:List (List (Nat×Shp)):=[]
noncomputable def code64:SCode:=((compF Try.prog Try.f64 loops64).elim .skip fun x=>x.2.2)
def ret64:List RV:=[.tmp 3]
theorem comp64:compF Try.prog Try.f64 loops64=some (8,ret64,code64):=by kernel_rfl
def VC64 (P:Program) (a a1:Int) (aA:Option Addr) (aN aC:Nat) (t:Option Addr) (R:Value->Heap->Prop) (h:Heap):Prop:=
 let h_:Heap:=(h).push (.cells (Value.cells (.agg #[.int .i64 a,.int .u64 a1,.slice aA aN aC])) 132);∃ (A:Option Addr) (N C:Nat),cellH h_ (Addr.add ⟨h.size,0,none⟩ 2)=some (.slice A N C)/\AtP t fun ad=>∃ (t1:Int),cellH h_ ad=some (.int .i64 t1)/\CallsH P 62 #[.slice A N C,.int .i64 t1] h_ fun v h_1=>
 ∃ (t2:Bool),v=(.bool t2)/\R (.bool t2) h_1
theorem run64 (a a1:Int) (aA:Option Addr) (aN aC:Nat) (t:Option Addr) (R:Value->Heap->Prop) (h:Heap) (hv:VC64 Try.prog a a1 aA aN aC t R h):CallsH Try.prog 64 #[(.agg #[.int .i64 a,.int .u64 a1,.slice aA aN aC]),.pointer t] h R:=calls_of_fnC (Checked.mixed Try.checked) Try.func64 comp64 (Nat.le_of_ble_eq_true rfl) (Eq.mp (by kernel_rfl) hv)
def loops35:List (List (Nat×Shp)):=[[(5,.int .i64)]]
noncomputable def code35:SCode:=((compF Try.prog Try.f35 loops35).elim .skip fun x=>x.2.2)
def ret35:List RV:=[.tmp 4]
theorem comp35:compF Try.prog Try.f35 loops35=some (33,ret35,code35):=by kernel_rfl
def J35_0  (R:Value->Heap->Prop) (least1:Int) (h_4:Heap):Prop:=
 R (.int .i64 least1) h_4
def J35_3  (P:Program) (h:Heap) (w:(Option Addr)) (least:Int) (next_:(Int->Heap->Prop)) (h_6:Heap) (v2:Int) (h_9:Heap):Prop:=
 AtP w fun ad=>∃ (t1:Option Nat),cellH h_9 (Addr.add ad 11)=some (.map t1)/\∃ (t2:Int),cellsH h_9 ⟨h_6.size,0,none⟩ 0 [.int .u64 t2]/\MapLook (.flat [.int .u64]) (.agg #[.int .u64 t2]) h_9 t1 none (CallsH P 63 #[.slice none 0 0,(.func (.func 64) #[] #[(.pointer (some ⟨h.size,0,none⟩))])] h_9 fun v3 h_10=>
 ∃ (t3:Bool),v3=(.bool t3)/\BIf t3 (next_ (v2) h_10) (next_ (least) h_10)) fun u=>∃ (A:Option Addr) (N C:Nat),u=(.slice A N C)/\CallsH P 63 #[.slice A N C,(.func (.func 64) #[] #[(.pointer (some ⟨h.size,0,none⟩))])] h_9 fun v4 h_11=>
 ∃ (t4:Bool),v4=(.bool t4)/\BIf t4 (next_ (v2) h_11) (next_ (least) h_11)
def J35_2  (P:Program) (h:Heap) (w:(Option Addr)) (h_1:Heap) (least:Int) (next_:(Int->Heap->Prop)) (h_6:Heap):Prop:=
 (Addr.off ⟨h_1.size,0,none⟩)=0/\MEntryS h_6 (Addr.block ⟨h_1.size,0,none⟩) fun e1=>∃ (k1:Int),e1.key=(.agg #[.int .u64 k1])/\∃ (v2:Int),e1.val=(.int .i64 v2)/\let h_7:Heap:=(h_6).push (.cells #[.int .u64 0] 85);StoreH h_7 ⟨h_6.size,0,none⟩ [.int .u64 k1] fun h_8=>PIf ((0:Int)≤least)
 (PIf (least≤v2)
 (next_ (least) h_8)
 (J35_3 P h w least next_ h_6 v2 h_8))
 (J35_3 P h w least next_ h_6 v2 h_8)
def B35_4 (P:Program) (R:Value->Heap->Prop) (h:Heap) (w:(Option Addr)) (h_1:Heap) (least:Int) (h_3:Heap) (next_:Int->Heap->Prop):Prop:=
 (Addr.off ⟨h_1.size,0,none⟩)=0/\MNextS h_3 (Addr.block ⟨h_1.size,0,none⟩) (J35_0 R (least) h_3) fun e h_5=>∃ (k:Value),e.key=k/\∃ (v1:Value),e.val=v1/\J35_2 P h w h_1 least next_ h_5
def VC35 (P:Program) (w:Option Addr) (l:Int) (R:Value->Heap->Prop) (h:Heap):Prop:=
 let h_:Heap:=(h).push (.cells #[.int .i64 l] 3);CallsH P 40 #[.pointer w] h_ fun v h_1=>
 ∃ (t:Option Nat),v=(.map t)/\MapRange h_1 t fun h_2=>LoopT (σ:=Int) (fun st_ h_st nx_st=>B35_4 P R h w h_1 (st_) h_st nx_st) ((-1)) h_2
theorem run35 (w:Option Addr) (l:Int) (R:Value->Heap->Prop) (h:Heap) (hv:VC35 Try.prog w l R h):CallsH Try.prog 35 #[.pointer w,.int .i64 l] h R:=calls_of_fnC (Checked.mixed Try.checked) Try.func35 comp35 (Nat.le_of_ble_eq_true rfl) (Eq.mp (by kernel_rfl) hv)
def loops12:List (List (Nat×Shp)):=[]
noncomputable def code12:SCode:=((compF Try.prog Try.f12 loops12).elim .skip fun x=>x.2.2)
def ret12:List RV:=[.tmp 4,.tmp 5]
theorem comp12:compF Try.prog Try.f12 loops12=some (32,ret12,code12):=by kernel_rfl
def J12_1  (P:Program) (R:Value->Heap->Prop) (h:Heap) (i:Int) (t1:(Option Addr)) (h_3:Heap):Prop:=
 ∃ (A11:Option Addr) (N11 C11:Nat),cellH h_3 (Addr.add ⟨h.size,0,none⟩ 4)=some (.slice A11 N11 C11)/\0≤i/\i<(N11:Nat)/\AtP A11 fun ad=>∃ (t3:Int),cellH h_3 (Addr.add ad (Int.toNat i*1))=some (.int .i64 t3)/\CallsH P 35 #[.pointer t1,.int .i64 t3] h_3 fun v1 h_4=>
 ∃ (t4:Int),v1=(.int .i64 t4)/\R (.tuple #[.int .i64 t4,.int .i64 0]) h_4
def J12_0  (P:Program) (R:Value->Heap->Prop) (h:Heap) (i:Int) (t1:(Option Addr)) (h_2:Heap):Prop:=
 PIf (i<0)
 (R (.tuple #[.int .i64 0,.int .i64 5]) h_2)
 (∃ (A10:Option Addr) (N10 C10:Nat),cellH h_2 (Addr.add ⟨h.size,0,none⟩ 4)=some (.slice A10 N10 C10)/\PIf ((((N10:Nat):Int):Int)≤i)
 (R (.tuple #[.int .i64 0,.int .i64 5]) h_2)
 (J12_1 P R h i t1 h_2))
def VC12 (P:Program) (c:CV) (i:Int) (R:Value->Heap->Prop) (h:Heap):Prop:=
 let h_:Heap:=(h).push (.cells (Value.cells c.v) 29);LdC h_ ⟨h.size,0,none⟩ fun t=>CallsH P 34 #[t.v] h_ fun v h_1=>
 ∃ (t1:Option Addr) (t2:Int),v=(.tuple #[.pointer t1,.int .i64 t2])/\PIf (t2=0)
 (J12_0 P R h i t1 h_1)
 (R (.tuple #[.int .i64 0,.int .i64 t2]) h_1)
theorem run12 (c:CV) (i:Int) (R:Value->Heap->Prop) (h:Heap) (hv:VC12 Try.prog c i R h):CallsH Try.prog 12 #[c.v,.int .i64 i] h R:=calls_of_fnC (Checked.mixed Try.checked) Try.func12 comp12 (Nat.le_of_ble_eq_true rfl) (Eq.mp (by kernel_rfl) hv)
end Go.Proofs.Ytdpbdjdgdmheiaa
