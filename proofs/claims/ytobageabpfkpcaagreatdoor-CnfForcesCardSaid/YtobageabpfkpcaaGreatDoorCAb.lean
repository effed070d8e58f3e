/- Words and facts that the claim's proof leans on. No condition. -/
import Derived.Test.YtobageabpfkpcaaGreatDoorHxV
import Derived.Test.YtobageabpfkpcaaGreatDoorChecked
set_option maxRecDepth 100000
set_option linter.unusedVariables false
namespace Go.Proofs.YtobageabpfkpcaaGreatDoor
open Go.Hx
def loops19:List (List (Nat×Shp)):=[[(38,.int .i64)],[(13,.bool)],[(13,.bool),(54,.int .i64)],[(18,.slice)]]
noncomputable def code19:SCode:=((compF Tryz.prog Tryz.f19 loops19).elim .skip fun x=>x.2.2)
def ret19:List RV:=[.tmp 4,.tmp 5,.tmp 6]
theorem comp19:compF Tryz.prog Tryz.f19 loops19=some (84,ret19,code19):=by kernel_rfl
def J19_3  (R:Value->Heap->Prop) (litsA:(Option Addr)) (litsN:Nat) (h_4:Heap) (t5:Int) (next_:(Int->Heap->Prop)) (h_7:Heap):Prop:=
 0≤t5/\t5<(litsN:Nat)/\AtP litsA fun ad=>∃ (t6:Int),cellH h_7 (Addr.add ad (Int.toNat t5*1))=some (.int .i64 t6)/\MapLook (.int .i64) (.int .i64 (IntKind.wrap .i64 (0-t6))) h_7 (some (h_4).size) none (PIf ((0:Int)<0)
 (R (.tuple #[.slice none 0 0,.bool false,.int .i64 0]) h_7)
 (MapPut (.int .i64) (.int .i64 t6) (.int .i64 1) h_7 (some (h_4).size) fun h_8=>next_ (IntKind.wrap .i64 (t5+1)) h_8)) fun u=>∃ (t7:Int),u=(.int .i64 t7)/\PIf ((0:Int)<t7)
 (R (.tuple #[.slice none 0 0,.bool false,.int .i64 0]) h_7)
 (MapPut (.int .i64) (.int .i64 t6) (.int .i64 1) h_7 (some (h_4).size) fun h_9=>next_ (IntKind.wrap .i64 (t5+1)) h_9)
def J19_8  (R:Value->Heap->Prop) (h_4:Heap) (t8:Int) (next_2:(Bool×Int->Heap->Prop)) (t9:Int) (h_16:Heap):Prop:=
 PIf (t9=0)
 (R (.tuple #[.slice none 0 0,.bool false,.int .i64 0]) h_16)
 (MapPut (.int .i64) (.int .i64 t9) (.int .i64 1) h_16 (some (h_4).size) fun h_17=>next_2 (true,(IntKind.wrap .i64 (t8+1))) h_17)
def J19_7  (P:Program) (R:Value->Heap->Prop) (h_4:Heap) (A1:(Option Addr)) (N1:Nat) (again1:Bool) (t8:Int) (next_2:(Bool×Int->Heap->Prop)) (h_14:Heap):Prop:=
 0≤t8/\t8<(N1:Nat)/\AtP A1 fun ad1=>∃ (A2:Option Addr) (N2 C2:Nat),cellH h_14 (Addr.add ad1 (Int.toNat t8*1))=some (.slice A2 N2 C2)/\CallsH P 58 #[.slice A2 N2 C2,(.map (some (h_4).size))] h_14 fun v2 h_15=>
 ∃ (t9:Int) (t10:Bool),v2=(.tuple #[.int .i64 t9,.bool t10])/\BIf (!t10) (next_2 (again1,(IntKind.wrap .i64 (t8+1))) h_15) (J19_8 R h_4 t8 next_2 t9 h_15)
def B19_10 (P:Program) (R:Value->Heap->Prop) (h_4:Heap) (next_1:(Bool->Heap->Prop)) (A1:(Option Addr)) (N1:Nat) (again1:Bool) (t8:Int) (h_13:Heap) (next_2:Bool×Int->Heap->Prop):Prop:=
 PIf (t8<((N1:Nat):Int))
 (J19_7 P R h_4 A1 N1 again1 t8 next_2 h_13)
 (next_1 (again1) h_13)
def J19_6  (P:Program) (R:Value->Heap->Prop) (h h_4:Heap) (next_1:(Bool->Heap->Prop)) (h_12:Heap):Prop:=
 ∃ (A1:Option Addr) (N1 C1:Nat),cellH h_12 (Addr.add ⟨h.size,0,none⟩ 1)=some (.slice A1 N1 C1)/\LoopT (σ:=Bool×Int) (fun st_ h_st nx_st=>B19_10 P R h_4 next_1 A1 N1 (st_.1) (st_.2) h_st nx_st) (false,0) h_12
def J19_11  (P:Program) (R:Value->Heap->Prop) (outA1:Option Addr) (outN1 outC1:Nat) (h_21:Heap):Prop:=
 CallsH P 59 #[.slice outA1 outN1 outC1,(.func (.func 60) #[] #[])] h_21 fun v3 h_22=>
 v3=(.tuple #[])/\R (.tuple #[.slice outA1 outN1 outC1,.bool true,.int .i64 0]) h_22
def J19_13  (h_18:Heap) (outA:(Option Addr)) (outN outC:Nat) (next_3:((Option Addr×Nat×Nat)->Heap->Prop)) (h_24:Heap):Prop:=
 (Addr.off ⟨h_18.size,0,none⟩)=0/\MEntryS h_24 (Addr.block ⟨h_18.size,0,none⟩) fun e1=>∃ (k1:Int),e1.key=(.int .i64 k1)/\∃ (v5:Value),e1.val=v5/\let h_25:Heap:=(h_24).push (.cells #[.int .i64 k1] 3);∃ ys:List Value,ReadL h_25 (some ⟨h_24.size,0,none⟩) ys/\ys.length=1*1/\AppS h_25 outA outN outC 3 8 1 #[.int .i64 0] ys 1 fun apA apN apC h_26=>next_3 ((apA,apN,apC)) h_26
def B19_14 (P:Program) (R:Value->Heap->Prop) (h_18:Heap) (outA:Option Addr) (outN outC:Nat) (h_20:Heap) (next_3:(Option Addr×Nat×Nat)->Heap->Prop):Prop:=
 (Addr.off ⟨h_18.size,0,none⟩)=0/\MNextS h_20 (Addr.block ⟨h_18.size,0,none⟩) (J19_11 P R (outA) (outN) (outC) h_20) fun e h_23=>∃ (k:Value),e.key=k/\∃ (v4:Value),e.val=v4/\J19_13 h_18 outA outN outC next_3 h_23
def J19_5  (P:Program) (R:Value->Heap->Prop) (h_4 h_18:Heap):Prop:=
 MapRange h_18 (some (h_4).size) fun h_19=>LoopT (σ:=(Option Addr×Nat×Nat)) (fun st_ h_st nx_st=>B19_14 P R h_18 (st_.1) (st_.2.1) (st_.2.2) h_st nx_st) ((none,0,0)) h_19
def B19_15 (P:Program) (R:Value->Heap->Prop) (h h_4:Heap) (again:Bool) (h_11:Heap) (next_1:Bool->Heap->Prop):Prop:=
 BIf again (J19_6 P R h h_4 next_1 h_11) (J19_5 P R h_4 h_11)
def J19_2  (P:Program) (R:Value->Heap->Prop) (h h_4 h_10:Heap):Prop:=
 LoopT (σ:=Bool) (fun st_ h_st nx_st=>B19_15 P R h h_4 (st_) h_st nx_st) (true) h_10
def B19_16 (P:Program) (R:Value->Heap->Prop) (h:Heap) (litsA:(Option Addr)) (litsN:Nat) (h_4:Heap) (t5:Int) (h_6:Heap) (next_:Int->Heap->Prop):Prop:=
 PIf (t5<((litsN:Nat):Int))
 (J19_3 R litsA litsN h_4 t5 next_ h_6)
 (J19_2 P R h h_4 h_6)
def J19_1  (P:Program) (R:Value->Heap->Prop) (h:Heap) (litsA:(Option Addr)) (litsN:Nat) (h_4:Heap):Prop:=
 let h_5:Heap:=(h_4).push (.map #[] 0);LoopT (σ:=Int) (fun st_ h_st nx_st=>B19_16 P R h litsA litsN h_4 (st_) h_st nx_st) (0) h_5
def J19_0  (P:Program) (R:Value->Heap->Prop) (h:Heap) (litsA:(Option Addr)) (litsN litsC:Nat) (h_2:Heap):Prop:=
 ∃ (t3:Int),cellH h_2 (Addr.add ⟨h.size,0,none⟩ 0)=some (.int .i64 t3)/\CallsH P 57 #[.slice litsA litsN litsC,.int .i64 t3] h_2 fun v1 h_3=>
 ∃ (t4:Int),v1=(.int .i64 t4)/\PIf (t4=0)
 (J19_1 P R h litsA litsN h_3)
 (R (.tuple #[.slice none 0 0,.bool false,.int .i64 t4]) h_3)
def VC19 (P:Program) (f:Int) (fA:Option Addr) (fN fC:Nat) (litsA:Option Addr) (litsN litsC:Nat) (R:Value->Heap->Prop) (h:Heap):Prop:=
 let h_:Heap:=(h).push (.cells (Value.cells (.agg #[.int .i64 f,.slice fA fN fC])) 24);∃ (t:Int) (A:Option Addr) (N C:Nat),cellsH h_ ⟨h.size,0,none⟩ 0 [.int .i64 t,.slice A N C]/\CallsH P 34 #[(.agg #[.int .i64 t,.slice A N C])] h_ fun v h_1=>
 ∃ (t1 t2:Int),v=(.tuple #[.int .i64 t1,.int .i64 t2])/\PIf (t2=0)
 (J19_0 P R h litsA litsN litsC h_1)
 (R (.tuple #[.slice none 0 0,.bool false,.int .i64 t2]) h_1)
theorem vc19 (P:Program) (f:Int) (fA:Option Addr) (fN fC:Nat) (litsA:Option Addr) (litsN litsC:Nat) (R:Value->Heap->Prop) (h:Heap):fnC P ret19 code19 [(.agg #[.int .i64 f,.slice fA fN fC]),.slice litsA litsN litsC] h R=VC19 P f fA fN fC litsA litsN litsC R h:=by kernel_rfl
theorem run19 (f:Int) (fA:Option Addr) (fN fC:Nat) (litsA:Option Addr) (litsN litsC:Nat) (R:Value->Heap->Prop) (h:Heap) (hv:VC19 Tryz.prog f fA fN fC litsA litsN litsC R h):CallsH Tryz.prog 19 #[(.agg #[.int .i64 f,.slice fA fN fC]),.slice litsA litsN litsC] h R:=calls_of_fnC (Checked.mixed Tryz.checked) Tryz.func19 comp19 (Nat.le_of_ble_eq_true rfl) (by rw [vc19];exact hv)
def loops58:List (List (Nat×Shp)):=[[(6,.int .i64),(11,.int .i64)]]
noncomputable def code58:SCode:=((compF Tryz.prog Tryz.f58 loops58).elim .skip fun x=>x.2.2)
def ret58:List RV:=[.tmp 4,.tmp 5]
theorem comp58:compF Tryz.prog Tryz.f58 loops58=some (37,ret58,code58):=by kernel_rfl
def J58_1  (R:Value->Heap->Prop) (cA:(Option Addr)) (cN:Nat) (is_:(Option Nat)) (left t:Int) (next_:(Int×Int->Heap->Prop)) (h_1:Heap):Prop:=
 0≤t/\t<(cN:Nat)/\AtP cA fun ad=>∃ (t1:Int),cellH h_1 (Addr.add ad (Int.toNat t*1))=some (.int .i64 t1)/\MapLook (.int .i64) (.int .i64 t1) h_1 is_ none (PIf ((0:Int)<0)
 (R (.tuple #[.int .i64 0,.bool false]) h_1)
 (MapLook (.int .i64) (.int .i64 (IntKind.wrap .i64 (0-t1))) h_1 is_ none (PIf ((0:Int)<0)
 (next_ (left,(IntKind.wrap .i64 (t+1))) h_1)
 (PIf (t1=left)
 (next_ (left,(IntKind.wrap .i64 (t+1))) h_1)
 (PIf (left=0)
 (next_ (t1,(IntKind.wrap .i64 (t+1))) h_1)
 (R (.tuple #[.int .i64 0,.bool false]) h_1)))) fun u=>∃ (t2:Int),u=(.int .i64 t2)/\PIf ((0:Int)<t2)
 (next_ (left,(IntKind.wrap .i64 (t+1))) h_1)
 (PIf (t1=left)
 (next_ (left,(IntKind.wrap .i64 (t+1))) h_1)
 (PIf (left=0)
 (next_ (t1,(IntKind.wrap .i64 (t+1))) h_1)
 (R (.tuple #[.int .i64 0,.bool false]) h_1))))) fun u1=>∃ (t3:Int),u1=(.int .i64 t3)/\PIf ((0:Int)<t3)
 (R (.tuple #[.int .i64 0,.bool false]) h_1)
 (MapLook (.int .i64) (.int .i64 (IntKind.wrap .i64 (0-t1))) h_1 is_ none (PIf ((0:Int)<0)
 (next_ (left,(IntKind.wrap .i64 (t+1))) h_1)
 (PIf (t1=left)
 (next_ (left,(IntKind.wrap .i64 (t+1))) h_1)
 (PIf (left=0)
 (next_ (t1,(IntKind.wrap .i64 (t+1))) h_1)
 (R (.tuple #[.int .i64 0,.bool false]) h_1)))) fun u2=>∃ (t4:Int),u2=(.int .i64 t4)/\PIf ((0:Int)<t4)
 (next_ (left,(IntKind.wrap .i64 (t+1))) h_1)
 (PIf (t1=left)
 (next_ (left,(IntKind.wrap .i64 (t+1))) h_1)
 (PIf (left=0)
 (next_ (t1,(IntKind.wrap .i64 (t+1))) h_1)
 (R (.tuple #[.int .i64 0,.bool false]) h_1))))
def J58_0  (R:Value->Heap->Prop) (left1:Int) (h_2:Heap):Prop:=
 R (.tuple #[.int .i64 left1,.bool true]) h_2
def B58_3 (R:Value->Heap->Prop) (cA:(Option Addr)) (cN:Nat) (is_:(Option Nat)) (left t:Int) (h_:Heap) (next_:Int×Int->Heap->Prop):Prop:=
 PIf (t<((cN:Nat):Int))
 (J58_1 R cA cN is_ left t next_ h_)
 (J58_0 R (left) h_)
def VC58 (P:Program) (cA:Option Addr) (cN cC:Nat) (is_:Option Nat) (R:Value->Heap->Prop) (h:Heap):Prop:=
 LoopT (σ:=Int×Int) (fun st_ h_st nx_st=>B58_3 R cA cN is_ (st_.1) (st_.2) h_st nx_st) (0,0) h
theorem vc58 (P:Program) (cA:Option Addr) (cN cC:Nat) (is_:Option Nat) (R:Value->Heap->Prop) (h:Heap):fnC P ret58 code58 [.slice cA cN cC,(.map is_)] h R=VC58 P cA cN cC is_ R h:=by kernel_rfl
theorem run58 (cA:Option Addr) (cN cC:Nat) (is_:Option Nat) (R:Value->Heap->Prop) (h:Heap) (hv:VC58 Tryz.prog cA cN cC is_ R h):CallsH Tryz.prog 58 #[.slice cA cN cC,(.map is_)] h R:=calls_of_fnC (Checked.mixed Tryz.checked) Tryz.func58 comp58 (Nat.le_of_ble_eq_true rfl) (by rw [vc58];exact hv)
def loops60:List (List (Nat×Shp)):=[]
noncomputable def code60:SCode:=((compF Tryz.prog Tryz.f60 loops60).elim .skip fun x=>x.2.2)
def ret60:List RV:=[.tmp 4]
theorem comp60:compF Tryz.prog Tryz.f60 loops60=some (14,ret60,code60):=by kernel_rfl
def VC60 (P:Program) (x y:Int) (R:Value->Heap->Prop) (h:Heap):Prop:=
 R (.int .i64 (IntKind.wrap .i64 ((max (x:Int) (IntKind.wrap .i64 (0-x)))-(max (y:Int) (IntKind.wrap .i64 (0-y)))))) h
theorem vc60 (P:Program) (x y:Int) (R:Value->Heap->Prop) (h:Heap):fnC P ret60 code60 [.int .i64 x,.int .i64 y] h R=VC60 P x y R h:=by kernel_rfl
theorem run60 (x y:Int) (R:Value->Heap->Prop) (h:Heap) (hv:VC60 Tryz.prog x y R h):CallsH Tryz.prog 60 #[.int .i64 x,.int .i64 y] h R:=calls_of_fnC (Checked.mixed Tryz.checked) Tryz.func60 comp60 (Nat.le_of_ble_eq_true rfl) (by rw [vc60];exact hv)
def loops62:List (List (Nat×Shp)):=[[(9,.int .i64)],[(12,.bool)],[(12,.bool),(13,.int .i64)],[(14,.int .i64),(15,.int .i64),(16,.bool),(17,.int .i64)]]
noncomputable def code62:SCode:=((compF Tryz.prog Tryz.f62 loops62).elim .skip fun x=>x.2.2)
def ret62:List RV:=[.tmp 6,.tmp 7]
theorem comp62:compF Tryz.prog Tryz.f62 loops62=some (112,ret62,code62):=by kernel_rfl
def J62_2  (R:Value->Heap->Prop) (h:Heap) (vars i:Int) (next_:(Int->Heap->Prop)) (t1 sign:Int) (h_4:Heap):Prop:=
 0≤t1/\t1<((Int.toNat (IntKind.wrap .i64 (vars+1))):Nat)/\∃ (t3:Int),cellH h_4 (Addr.add ⟨h.size,0,none⟩ (Int.toNat t1*1))=some (.int .i64 t3)/\PIf (t3=(IntKind.wrap .i64 (0-sign)))
 (R (.tuple #[.slice none 0 0,.bool false]) h_4)
 (0≤t1/\t1<((Int.toNat (IntKind.wrap .i64 (vars+1))):Nat)/\StoreH h_4 (Addr.add ⟨h.size,0,none⟩ (Int.toNat t1*1)) [.int .i64 sign] fun h_5=>next_ (IntKind.wrap .i64 (i+1)) h_5)
def J62_1  (P:Program) (R:Value->Heap->Prop) (h:Heap) (vars:Int) (litsA:(Option Addr)) (litsN:Nat) (i:Int) (next_:(Int->Heap->Prop)) (h_2:Heap):Prop:=
 0≤i/\i<(litsN:Nat)/\AtP litsA fun ad=>∃ (t:Int),cellH h_2 (Addr.add ad (Int.toNat i*1))=some (.int .i64 t)/\CallsH P 99 #[.int .i64 t] h_2 fun v h_3=>
 ∃ (t1:Int),v=(.int .i64 t1)/\0≤i/\i<(litsN:Nat)/\AtP litsA fun ad1=>∃ (t2:Int),cellH h_3 (Addr.add ad1 (Int.toNat i*1))=some (.int .i64 t2)/\PIf (t2<0)
 (J62_2 R h vars i next_ t1 ((-1)) h_3)
 (J62_2 R h vars i next_ t1 (1) h_3)
def J62_10  (left many k:Int) (next_3:(Int×Int×Bool×Int->Heap->Prop)) (t4 now:Int) (ok1:Bool) (h_15:Heap):Prop:=
 PIf (now=0)
 (PIf (t4=left)
 (next_3 (left,many,ok1,(IntKind.wrap .i64 (k+1))) h_15)
 (next_3 (t4,(IntKind.wrap .i64 (many+1)),ok1,(IntKind.wrap .i64 (k+1))) h_15))
 (next_3 (left,many,ok1,(IntKind.wrap .i64 (k+1))) h_15)
def J62_9  (left many:Int) (ok:Bool) (k:Int) (next_3:(Int×Int×Bool×Int->Heap->Prop)) (t4 now:Int) (h_14:Heap):Prop:=
 PIf (now=1)
 (J62_10 left many k next_3 t4 now (true) h_14)
 (J62_10 left many k next_3 t4 now (ok) h_14)
def J62_8  (P:Program) (h:Heap) (clausesA:(Option Addr)) (clausesN:Nat) (vars i1 left many:Int) (ok:Bool) (k:Int) (next_3:(Int×Int×Bool×Int->Heap->Prop)) (h_12:Heap):Prop:=
 0≤i1/\i1<(clausesN:Nat)/\AtP clausesA fun ad3=>∃ (A1:Option Addr) (N1 C1:Nat),cellH h_12 (Addr.add ad3 (Int.toNat i1*1))=some (.slice A1 N1 C1)/\0≤k/\k<(N1:Nat)/\AtP A1 fun ad4=>∃ (t4:Int),cellH h_12 (Addr.add ad4 (Int.toNat k*1))=some (.int .i64 t4)/\CallsH P 99 #[.int .i64 t4] h_12 fun v1 h_13=>
 ∃ (t5:Int),v1=(.int .i64 t5)/\0≤t5/\t5<((Int.toNat (IntKind.wrap .i64 (vars+1))):Nat)/\∃ (t6:Int),cellH h_13 (Addr.add ⟨h.size,0,none⟩ (Int.toNat t5*1))=some (.int .i64 t6)/\PIf (t4<0)
 (J62_9 left many ok k next_3 t4 (IntKind.wrap .i64 (0-t6)) h_13)
 (J62_9 left many ok k next_3 t4 (t6) h_13)
def J62_6  (i1:Int) (next_2:(Bool×Int->Heap->Prop)) (again2:Bool) (h_17:Heap):Prop:=
 next_2 (again2,(IntKind.wrap .i64 (i1+1))) h_17
def J62_12  (P:Program) (h:Heap) (vars i1:Int) (next_2:(Bool×Int->Heap->Prop)) (left1:Int) (h_19:Heap):Prop:=
 CallsH P 99 #[.int .i64 left1] h_19 fun v2 h_20=>
 ∃ (t7:Int),v2=(.int .i64 t7)/\0≤t7/\t7<((Int.toNat (IntKind.wrap .i64 (vars+1))):Nat)/\StoreH h_20 (Addr.add ⟨h.size,0,none⟩ (Int.toNat t7*1)) [.int .i64 1] fun h_21=>PIf (left1<0)
 (0≤((IntKind.wrap .i64 (0-left1)):Int)/\((IntKind.wrap .i64 (0-left1)):Int)<((Int.toNat (IntKind.wrap .i64 (vars+1))):Nat)/\StoreH h_21 (Addr.add ⟨h.size,0,none⟩ (Int.toNat (IntKind.wrap .i64 (0-left1))*1)) [(.int .i64 (-1))] fun h_22=>J62_6 i1 next_2 (true) h_22)
 (J62_6 i1 next_2 (true) h_21)
def J62_11  (P:Program) (R:Value->Heap->Prop) (h:Heap) (vars i1:Int) (next_2:(Bool×Int->Heap->Prop)) (left1 many1:Int) (h_18:Heap):Prop:=
 PIf (many1=0)
 (R (.tuple #[.slice none 0 0,.bool false]) h_18)
 (J62_12 P h vars i1 next_2 left1 h_18)
def J62_7  (P:Program) (R:Value->Heap->Prop) (h:Heap) (vars:Int) (again1:Bool) (i1:Int) (next_2:(Bool×Int->Heap->Prop)) (left1 many1:Int) (ok2:Bool) (h_16:Heap):Prop:=
 BIf ok2 (J62_6 i1 next_2 (again1) h_16) (PIf ((1:Int)<many1)
 (J62_6 i1 next_2 (again1) h_16)
 (J62_11 P R h vars i1 next_2 left1 many1 h_16))
def B62_13 (P:Program) (R:Value->Heap->Prop) (h:Heap) (clausesA:(Option Addr)) (clausesN:Nat) (vars:Int) (again1:Bool) (i1:Int) (next_2:(Bool×Int->Heap->Prop)) (left many:Int) (ok:Bool) (k:Int) (h_11:Heap) (next_3:Int×Int×Bool×Int->Heap->Prop):Prop:=
 0≤i1/\i1<(clausesN:Nat)/\AtP clausesA fun ad2=>∃ (A:Option Addr) (N C:Nat),cellH h_11 (Addr.add ad2 (Int.toNat i1*1))=some (.slice A N C)/\PIf (k<((N:Nat):Int))
 (J62_8 P h clausesA clausesN vars i1 left many ok k next_3 h_11)
 (J62_7 P R h vars again1 i1 next_2 (left) (many) (ok) h_11)
def J62_5  (P:Program) (R:Value->Heap->Prop) (h:Heap) (clausesA:(Option Addr)) (clausesN:Nat) (vars:Int) (again1:Bool) (i1:Int) (next_2:(Bool×Int->Heap->Prop)) (h_10:Heap):Prop:=
 LoopT (σ:=Int×Int×Bool×Int) (fun st_ h_st nx_st=>B62_13 P R h clausesA clausesN vars again1 i1 next_2 (st_.1) (st_.2.1) (st_.2.2.1) (st_.2.2.2) h_st nx_st) (0,0,false,0) h_10
def B62_14 (P:Program) (R:Value->Heap->Prop) (h:Heap) (clausesA:(Option Addr)) (clausesN:Nat) (vars:Int) (next_1:(Bool->Heap->Prop)) (again1:Bool) (i1:Int) (h_9:Heap) (next_2:Bool×Int->Heap->Prop):Prop:=
 PIf (i1<((clausesN:Nat):Int))
 (J62_5 P R h clausesA clausesN vars again1 i1 next_2 h_9)
 (next_1 (again1) h_9)
def J62_4  (P:Program) (R:Value->Heap->Prop) (h:Heap) (clausesA:(Option Addr)) (clausesN:Nat) (vars:Int) (next_1:(Bool->Heap->Prop)) (h_8:Heap):Prop:=
 LoopT (σ:=Bool×Int) (fun st_ h_st nx_st=>B62_14 P R h clausesA clausesN vars next_1 (st_.1) (st_.2) h_st nx_st) (false,0) h_8
def J62_3  (R:Value->Heap->Prop) (h:Heap) (vars:Int) (h_23:Heap):Prop:=
 R (.tuple #[(.slice (some ⟨h.size,0,none⟩) (Int.toNat (IntKind.wrap .i64 (vars+1))) (Int.toNat (IntKind.wrap .i64 (vars+1)))),.bool true]) h_23
def B62_15 (P:Program) (R:Value->Heap->Prop) (h:Heap) (clausesA:(Option Addr)) (clausesN:Nat) (vars:Int) (again:Bool) (h_7:Heap) (next_1:Bool->Heap->Prop):Prop:=
 BIf again (J62_4 P R h clausesA clausesN vars next_1 h_7) (J62_3 R h vars h_7)
def J62_0  (P:Program) (R:Value->Heap->Prop) (h:Heap) (clausesA:(Option Addr)) (clausesN:Nat) (vars:Int) (h_6:Heap):Prop:=
 LoopT (σ:=Bool) (fun st_ h_st nx_st=>B62_15 P R h clausesA clausesN vars (st_) h_st nx_st) (true) h_6
def B62_16 (P:Program) (R:Value->Heap->Prop) (h:Heap) (clausesA:(Option Addr)) (clausesN:Nat) (vars:Int) (litsA:(Option Addr)) (litsN:Nat) (i:Int) (h_1:Heap) (next_:Int->Heap->Prop):Prop:=
 PIf (i<((litsN:Nat):Int))
 (J62_1 P R h vars litsA litsN i next_ h_1)
 (J62_0 P R h clausesA clausesN vars h_1)
def VC62 (P:Program) (clausesA:Option Addr) (clausesN clausesC:Nat) (vars:Int) (litsA:Option Addr) (litsN litsC:Nat) (R:Value->Heap->Prop) (h:Heap):Prop:=
 0≤((IntKind.wrap .i64 (vars+1)):Int)/\((IntKind.wrap .i64 (vars+1)):Int)≤(IntKind.wrap .i64 (vars+1))/\(8:Int)*(IntKind.wrap .i64 (vars+1))≤281474976710656/\let h_:Heap:=(h).push (.cells (zeroRow #[.int .i64 0] (Int.toNat (IntKind.wrap .i64 (vars+1))*1)).toArray 3);LoopT (σ:=Int) (fun st_ h_st nx_st=>B62_16 P R h clausesA clausesN vars litsA litsN (st_) h_st nx_st) (0) h_
theorem vc62 (P:Program) (clausesA:Option Addr) (clausesN clausesC:Nat) (vars:Int) (litsA:Option Addr) (litsN litsC:Nat) (R:Value->Heap->Prop) (h:Heap):fnC P ret62 code62 [.slice clausesA clausesN clausesC,.int .i64 vars,.slice litsA litsN litsC] h R=VC62 P clausesA clausesN clausesC vars litsA litsN litsC R h:=by kernel_rfl
theorem run62 (clausesA:Option Addr) (clausesN clausesC:Nat) (vars:Int) (litsA:Option Addr) (litsN litsC:Nat) (R:Value->Heap->Prop) (h:Heap) (hv:VC62 Tryz.prog clausesA clausesN clausesC vars litsA litsN litsC R h):CallsH Tryz.prog 62 #[.slice clausesA clausesN clausesC,.int .i64 vars,.slice litsA litsN litsC] h R:=calls_of_fnC (Checked.mixed Tryz.checked) Tryz.func62 comp62 (Nat.le_of_ble_eq_true rfl) (by rw [vc62];exact hv)
def loops99:List (List (Nat×Shp)):=[]
noncomputable def code99:SCode:=((compF Tryz.prog Tryz.f99 loops99).elim .skip fun x=>x.2.2)
def ret99:List RV:=[.tmp 2]
theorem comp99:compF Tryz.prog Tryz.f99 loops99=some (8,ret99,code99):=by kernel_rfl
def VC99 (P:Program) (x:Int) (R:Value->Heap->Prop) (h:Heap):Prop:=
 PIf (x<0)
 (R (.int .i64 (IntKind.wrap .i64 (0-x))) h)
 (R (.int .i64 x) h)
theorem vc99 (P:Program) (x:Int) (R:Value->Heap->Prop) (h:Heap):fnC P ret99 code99 [.int .i64 x] h R=VC99 P x R h:=by kernel_rfl
theorem run99 (x:Int) (R:Value->Heap->Prop) (h:Heap) (hv:VC99 Tryz.prog x R h):CallsH Tryz.prog 99 #[.int .i64 x] h R:=calls_of_fnC (Checked.mixed Tryz.checked) Tryz.func99 comp99 (Nat.le_of_ble_eq_true rfl) (by rw [vc99];exact hv)
def loops20:List (List (Nat×Shp)):=[[(12,.slice),(13,.int .i64)]]
noncomputable def code20:SCode:=((compF Tryz.prog Tryz.f20 loops20).elim .skip fun x=>x.2.2)
def ret20:List RV:=[.tmp 4,.tmp 5,.tmp 6]
theorem comp20:compF Tryz.prog Tryz.f20 loops20=some (61,ret20,code20):=by kernel_rfl
def J20_4  (A2:(Option Addr)) (N2:Nat) (outA:(Option Addr)) (outN outC:Nat) (v3:Int) (next_:((Option Addr×Nat×Nat)×Int->Heap->Prop)) (h_8:Heap):Prop:=
 0≤v3/\v3<(N2:Nat)/\AtP A2 fun ad=>∃ (t8:Int),cellH h_8 (Addr.add ad (Int.toNat v3*1))=some (.int .i64 t8)/\PIf (t8=0)
 (next_ ((outA,outN,outC),(IntKind.wrap .i64 (v3+1))) h_8)
 (0≤v3/\v3<(N2:Nat)/\AtP A2 fun ad1=>∃ (t9:Int),cellH h_8 (Addr.add ad1 (Int.toNat v3*1))=some (.int .i64 t9)/\let h_9:Heap:=(h_8).push (.cells #[(.int .i64 (IntKind.wrap .i64 (v3*t9)))] 3);∃ ys:List Value,ReadL h_9 (some ⟨h_8.size,0,none⟩) ys/\ys.length=1*1/\AppS h_9 outA outN outC 3 8 1 #[.int .i64 0] ys 1 fun apA apN apC h_10=>next_ ((apA,apN,apC),(IntKind.wrap .i64 (v3+1))) h_10)
def J20_3  (R:Value->Heap->Prop) (outA1:Option Addr) (outN1 outC1:Nat) (h_11:Heap):Prop:=
 R (.tuple #[.slice outA1 outN1 outC1,.bool true,.int .i64 0]) h_11
def B20_5 (R:Value->Heap->Prop) (h:Heap) (A2:(Option Addr)) (N2:Nat) (outA:Option Addr) (outN outC:Nat) (v3:Int) (h_7:Heap) (next_:(Option Addr×Nat×Nat)×Int->Heap->Prop):Prop:=
 ∃ (t7:Int),cellH h_7 (Addr.add ⟨h.size,0,none⟩ 0)=some (.int .i64 t7)/\PIf (v3≤t7)
 (J20_4 A2 N2 outA outN outC v3 next_ h_7)
 (J20_3 R (outA) (outN) (outC) h_7)
def J20_2  (R:Value->Heap->Prop) (h:Heap) (A2:(Option Addr)) (N2:Nat) (h_6:Heap):Prop:=
 LoopT (σ:=(Option Addr×Nat×Nat)×Int) (fun st_ h_st nx_st=>B20_5 R h A2 N2 (st_.1.1) (st_.1.2.1) (st_.1.2.2) (st_.2) h_st nx_st) ((none,0,0),1) h_6
def J20_1  (P:Program) (R:Value->Heap->Prop) (h:Heap) (litsA:(Option Addr)) (litsN litsC:Nat) (h_4:Heap):Prop:=
 ∃ (A1:Option Addr) (N1 C1:Nat),cellH h_4 (Addr.add ⟨h.size,0,none⟩ 1)=some (.slice A1 N1 C1)/\∃ (t5:Int),cellH h_4 (Addr.add ⟨h.size,0,none⟩ 0)=some (.int .i64 t5)/\CallsH P 62 #[.slice A1 N1 C1,.int .i64 t5,.slice litsA litsN litsC] h_4 fun v2 h_5=>
 ∃ (A2:Option Addr) (N2 C2:Nat) (t6:Bool),v2=(.tuple #[.slice A2 N2 C2,.bool t6])/\BIf (!t6) (R (.tuple #[.slice none 0 0,.bool false,.int .i64 0]) h_5) (J20_2 R h A2 N2 h_5)
def J20_0  (P:Program) (R:Value->Heap->Prop) (h:Heap) (litsA:(Option Addr)) (litsN litsC:Nat) (h_2:Heap):Prop:=
 ∃ (t3:Int),cellH h_2 (Addr.add ⟨h.size,0,none⟩ 0)=some (.int .i64 t3)/\CallsH P 61 #[.slice litsA litsN litsC,.int .i64 t3] h_2 fun v1 h_3=>
 ∃ (t4:Int),v1=(.int .i64 t4)/\PIf (t4=0)
 (J20_1 P R h litsA litsN litsC h_3)
 (R (.tuple #[.slice none 0 0,.bool false,.int .i64 t4]) h_3)
def VC20 (P:Program) (f:Int) (fA:Option Addr) (fN fC:Nat) (litsA:Option Addr) (litsN litsC:Nat) (R:Value->Heap->Prop) (h:Heap):Prop:=
 let h_:Heap:=(h).push (.cells (Value.cells (.agg #[.int .i64 f,.slice fA fN fC])) 24);∃ (t:Int) (A:Option Addr) (N C:Nat),cellsH h_ ⟨h.size,0,none⟩ 0 [.int .i64 t,.slice A N C]/\CallsH P 35 #[(.agg #[.int .i64 t,.slice A N C])] h_ fun v h_1=>
 ∃ (t1 t2:Int),v=(.tuple #[.int .i64 t1,.int .i64 t2])/\PIf (t2=0)
 (J20_0 P R h litsA litsN litsC h_1)
 (R (.tuple #[.slice none 0 0,.bool false,.int .i64 t2]) h_1)
theorem vc20 (P:Program) (f:Int) (fA:Option Addr) (fN fC:Nat) (litsA:Option Addr) (litsN litsC:Nat) (R:Value->Heap->Prop) (h:Heap):fnC P ret20 code20 [(.agg #[.int .i64 f,.slice fA fN fC]),.slice litsA litsN litsC] h R=VC20 P f fA fN fC litsA litsN litsC R h:=by kernel_rfl
theorem run20 (f:Int) (fA:Option Addr) (fN fC:Nat) (litsA:Option Addr) (litsN litsC:Nat) (R:Value->Heap->Prop) (h:Heap) (hv:VC20 Tryz.prog f fA fN fC litsA litsN litsC R h):CallsH Tryz.prog 20 #[(.agg #[.int .i64 f,.slice fA fN fC]),.slice litsA litsN litsC] h R:=calls_of_fnC (Checked.mixed Tryz.checked) Tryz.func20 comp20 (Nat.le_of_ble_eq_true rfl) (by rw [vc20];exact hv)
end Go.Proofs.YtobageabpfkpcaaGreatDoor
