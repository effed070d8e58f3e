/- Words and facts that the claim's proof leans on. No condition. -/
import Derived.Test.YtobageabpfkpcaaHxV
import Derived.Test.YtobageabpfkpcaaChecked
set_option maxRecDepth 100000
set_option linter.unusedVariables false
namespace Go.Proofs.Ytobageabpfkpcaa
open Go.Hx
def loops59:List (List (Nat×Shp)):=[[(38,.int .i64)],[(13,.bool)],[(13,.bool),(54,.int .i64)],[(18,.slice)]]
noncomputable def code59:SCode:=((compF Try.prog Try.f59 loops59).elim .skip fun x=>x.2.2)
def ret59:List RV:=[.tmp 4,.tmp 5,.tmp 6]
theorem comp59:compF Try.prog Try.f59 loops59=some (84,ret59,code59):=by kernel_rfl
def J59_3  (R:Value->Heap->Prop) (litsA:(Option Addr)) (litsN:Nat) (h_4:Heap) (t5:Int) (next_:(Int->Heap->Prop)) (h_7:Heap):Prop:=
 0≤t5/\t5<(litsN:Nat)/\AtP litsA fun ad=>∃ (t6:Int),cellH h_7 (Addr.add ad (Int.toNat t5*1))=some (.int .i64 t6)/\MapLook (.int .i64) (.int .i64 (IntKind.wrap .i64 (0-t6))) h_7 (some (h_4).size) none (PIf ((0:Int)<0)
 (R (.tuple #[.slice none 0 0,.bool false,.int .i64 0]) h_7)
 (MapPut (.int .i64) (.int .i64 t6) (.int .i64 1) h_7 (some (h_4).size) fun h_8=>next_ (IntKind.wrap .i64 (t5+1)) h_8)) fun u=>∃ (t7:Int),u=(.int .i64 t7)/\PIf ((0:Int)<t7)
 (R (.tuple #[.slice none 0 0,.bool false,.int .i64 0]) h_7)
 (MapPut (.int .i64) (.int .i64 t6) (.int .i64 1) h_7 (some (h_4).size) fun h_9=>next_ (IntKind.wrap .i64 (t5+1)) h_9)
def J59_8  (R:Value->Heap->Prop) (h_4:Heap) (t8:Int) (next_2:(Bool×Int->Heap->Prop)) (t9:Int) (h_16:Heap):Prop:=
 PIf (t9=0)
 (R (.tuple #[.slice none 0 0,.bool false,.int .i64 0]) h_16)
 (MapPut (.int .i64) (.int .i64 t9) (.int .i64 1) h_16 (some (h_4).size) fun h_17=>next_2 (true,(IntKind.wrap .i64 (t8+1))) h_17)
def J59_7  (P:Program) (R:Value->Heap->Prop) (h_4:Heap) (A1:(Option Addr)) (N1:Nat) (again1:Bool) (t8:Int) (next_2:(Bool×Int->Heap->Prop)) (h_14:Heap):Prop:=
 0≤t8/\t8<(N1:Nat)/\AtP A1 fun ad1=>∃ (A2:Option Addr) (N2 C2:Nat),cellH h_14 (Addr.add ad1 (Int.toNat t8*1))=some (.slice A2 N2 C2)/\CallsH P 70 #[.slice A2 N2 C2,(.map (some (h_4).size))] h_14 fun v2 h_15=>
 ∃ (t9:Int) (t10:Bool),v2=(.tuple #[.int .i64 t9,.bool t10])/\BIf (!t10) (next_2 (again1,(IntKind.wrap .i64 (t8+1))) h_15) (J59_8 R h_4 t8 next_2 t9 h_15)
def B59_10 (P:Program) (R:Value->Heap->Prop) (h_4:Heap) (next_1:(Bool->Heap->Prop)) (A1:(Option Addr)) (N1:Nat) (again1:Bool) (t8:Int) (h_13:Heap) (next_2:Bool×Int->Heap->Prop):Prop:=
 PIf (t8<((N1:Nat):Int))
 (J59_7 P R h_4 A1 N1 again1 t8 next_2 h_13)
 (next_1 (again1) h_13)
def J59_6  (P:Program) (R:Value->Heap->Prop) (h h_4:Heap) (next_1:(Bool->Heap->Prop)) (h_12:Heap):Prop:=
 ∃ (A1:Option Addr) (N1 C1:Nat),cellH h_12 (Addr.add ⟨h.size,0,none⟩ 1)=some (.slice A1 N1 C1)/\LoopT (σ:=Bool×Int) (fun st_ h_st nx_st=>B59_10 P R h_4 next_1 A1 N1 (st_.1) (st_.2) h_st nx_st) (false,0) h_12
def J59_11  (P:Program) (R:Value->Heap->Prop) (outA1:Option Addr) (outN1 outC1:Nat) (h_21:Heap):Prop:=
 CallsH P 71 #[.slice outA1 outN1 outC1,(.func (.func 72) #[] #[])] h_21 fun v3 h_22=>
 v3=(.tuple #[])/\R (.tuple #[.slice outA1 outN1 outC1,.bool true,.int .i64 0]) h_22
def J59_13  (h_18:Heap) (outA:(Option Addr)) (outN outC:Nat) (next_3:((Option Addr×Nat×Nat)->Heap->Prop)) (h_24:Heap):Prop:=
 (Addr.off ⟨h_18.size,0,none⟩)=0/\MEntryS h_24 (Addr.block ⟨h_18.size,0,none⟩) fun e1=>∃ (k1:Int),e1.key=(.int .i64 k1)/\∃ (v5:Value),e1.val=v5/\let h_25:Heap:=(h_24).push (.cells #[.int .i64 k1] 3);∃ ys:List Value,ReadL h_25 (some ⟨h_24.size,0,none⟩) ys/\ys.length=1*1/\AppS h_25 outA outN outC 3 8 1 #[.int .i64 0] ys 1 fun apA apN apC h_26=>next_3 ((apA,apN,apC)) h_26
def B59_14 (P:Program) (R:Value->Heap->Prop) (h_18:Heap) (outA:Option Addr) (outN outC:Nat) (h_20:Heap) (next_3:(Option Addr×Nat×Nat)->Heap->Prop):Prop:=
 (Addr.off ⟨h_18.size,0,none⟩)=0/\MNextS h_20 (Addr.block ⟨h_18.size,0,none⟩) (J59_11 P R (outA) (outN) (outC) h_20) fun e h_23=>∃ (k:Value),e.key=k/\∃ (v4:Value),e.val=v4/\J59_13 h_18 outA outN outC next_3 h_23
def J59_5  (P:Program) (R:Value->Heap->Prop) (h_4 h_18:Heap):Prop:=
 MapRange h_18 (some (h_4).size) fun h_19=>LoopT (σ:=(Option Addr×Nat×Nat)) (fun st_ h_st nx_st=>B59_14 P R h_18 (st_.1) (st_.2.1) (st_.2.2) h_st nx_st) ((none,0,0)) h_19
def B59_15 (P:Program) (R:Value->Heap->Prop) (h h_4:Heap) (again:Bool) (h_11:Heap) (next_1:Bool->Heap->Prop):Prop:=
 BIf again (J59_6 P R h h_4 next_1 h_11) (J59_5 P R h_4 h_11)
def J59_2  (P:Program) (R:Value->Heap->Prop) (h h_4 h_10:Heap):Prop:=
 LoopT (σ:=Bool) (fun st_ h_st nx_st=>B59_15 P R h h_4 (st_) h_st nx_st) (true) h_10
def B59_16 (P:Program) (R:Value->Heap->Prop) (h:Heap) (litsA:(Option Addr)) (litsN:Nat) (h_4:Heap) (t5:Int) (h_6:Heap) (next_:Int->Heap->Prop):Prop:=
 PIf (t5<((litsN:Nat):Int))
 (J59_3 R litsA litsN h_4 t5 next_ h_6)
 (J59_2 P R h h_4 h_6)
def J59_1  (P:Program) (R:Value->Heap->Prop) (h:Heap) (litsA:(Option Addr)) (litsN:Nat) (h_4:Heap):Prop:=
 let h_5:Heap:=(h_4).push (.map #[] 0);LoopT (σ:=Int) (fun st_ h_st nx_st=>B59_16 P R h litsA litsN h_4 (st_) h_st nx_st) (0) h_5
def J59_0  (P:Program) (R:Value->Heap->Prop) (h:Heap) (litsA:(Option Addr)) (litsN litsC:Nat) (h_2:Heap):Prop:=
 ∃ (t3:Int),cellH h_2 (Addr.add ⟨h.size,0,none⟩ 0)=some (.int .i64 t3)/\CallsH P 30 #[.slice litsA litsN litsC,.int .i64 t3] h_2 fun v1 h_3=>
 ∃ (t4:Int),v1=(.int .i64 t4)/\PIf (t4=0)
 (J59_1 P R h litsA litsN h_3)
 (R (.tuple #[.slice none 0 0,.bool false,.int .i64 t4]) h_3)
def VC59 (P:Program) (f:Int) (fA:Option Addr) (fN fC:Nat) (litsA:Option Addr) (litsN litsC:Nat) (R:Value->Heap->Prop) (h:Heap):Prop:=
 let h_:Heap:=(h).push (.cells (Value.cells (.agg #[.int .i64 f,.slice fA fN fC])) 24);∃ (t:Int) (A:Option Addr) (N C:Nat),cellsH h_ ⟨h.size,0,none⟩ 0 [.int .i64 t,.slice A N C]/\CallsH P 17 #[(.agg #[.int .i64 t,.slice A N C])] h_ fun v h_1=>
 ∃ (t1 t2:Int),v=(.tuple #[.int .i64 t1,.int .i64 t2])/\PIf (t2=0)
 (J59_0 P R h litsA litsN litsC h_1)
 (R (.tuple #[.slice none 0 0,.bool false,.int .i64 t2]) h_1)
theorem vc59 (P:Program) (f:Int) (fA:Option Addr) (fN fC:Nat) (litsA:Option Addr) (litsN litsC:Nat) (R:Value->Heap->Prop) (h:Heap):fnC P ret59 code59 [(.agg #[.int .i64 f,.slice fA fN fC]),.slice litsA litsN litsC] h R=VC59 P f fA fN fC litsA litsN litsC R h:=by kernel_rfl
theorem run59 (f:Int) (fA:Option Addr) (fN fC:Nat) (litsA:Option Addr) (litsN litsC:Nat) (R:Value->Heap->Prop) (h:Heap) (hv:VC59 Try.prog f fA fN fC litsA litsN litsC R h):CallsH Try.prog 59 #[(.agg #[.int .i64 f,.slice fA fN fC]),.slice litsA litsN litsC] h R:=calls_of_fnC (Checked.mixed Try.checked) Try.func59 comp59 (Nat.le_of_ble_eq_true rfl) (by rw [vc59];exact hv)
def loops70:List (List (Nat×Shp)):=[[(6,.int .i64),(11,.int .i64)]]
noncomputable def code70:SCode:=((compF Try.prog Try.f70 loops70).elim .skip fun x=>x.2.2)
def ret70:List RV:=[.tmp 4,.tmp 5]
theorem comp70:compF Try.prog Try.f70 loops70=some (37,ret70,code70):=by kernel_rfl
def J70_1  (R:Value->Heap->Prop) (cA:(Option Addr)) (cN:Nat) (is_:(Option Nat)) (left t:Int) (next_:(Int×Int->Heap->Prop)) (h_1:Heap):Prop:=
 0≤t/\t<(cN:Nat)/\AtP cA fun ad=>∃ (t1:Int),cellH h_1 (Addr.add ad (Int.toNat t*1))=some (.int .i64 t1)/\MapLook (.int .i64) (.int .i64 t1) h_1 is_ none (PIf ((0:Int)<0)
 (R (.tuple #[.int .i64 0,.bool false]) h_1)
 (MapLook (.int .i64) (.int .i64 (IntKind.wrap .i64 (0-t1))) h_1 is_ none (PIf ((0:Int)<0)
 (next_ (left,(IntKind.wrap .i64 (t+1))) h_1)
 (PIf (t1=left)
 (next_ (left,(IntKind.wrap .i64 (t+1))) h_1)
 (PIf (left=0)
 (next_ (t1,(IntKind.wrap .i64 (t+1))) h_1)
 (R (.tuple #[.int .i64 0,.bool false]) h_1)))) fun u=>∃ (t2:Int),u=(.int .i64 t2)/\PIf ((0:Int)<t2)
 (next_ (left,(IntKind.wrap .i64 (t+1))) h_1)
 (PIf (t1=left)
 (next_ (left,(IntKind.wrap .i64 (t+1))) h_1)
 (PIf (left=0)
 (next_ (t1,(IntKind.wrap .i64 (t+1))) h_1)
 (R (.tuple #[.int .i64 0,.bool false]) h_1))))) fun u1=>∃ (t3:Int),u1=(.int .i64 t3)/\PIf ((0:Int)<t3)
 (R (.tuple #[.int .i64 0,.bool false]) h_1)
 (MapLook (.int .i64) (.int .i64 (IntKind.wrap .i64 (0-t1))) h_1 is_ none (PIf ((0:Int)<0)
 (next_ (left,(IntKind.wrap .i64 (t+1))) h_1)
 (PIf (t1=left)
 (next_ (left,(IntKind.wrap .i64 (t+1))) h_1)
 (PIf (left=0)
 (next_ (t1,(IntKind.wrap .i64 (t+1))) h_1)
 (R (.tuple #[.int .i64 0,.bool false]) h_1)))) fun u2=>∃ (t4:Int),u2=(.int .i64 t4)/\PIf ((0:Int)<t4)
 (next_ (left,(IntKind.wrap .i64 (t+1))) h_1)
 (PIf (t1=left)
 (next_ (left,(IntKind.wrap .i64 (t+1))) h_1)
 (PIf (left=0)
 (next_ (t1,(IntKind.wrap .i64 (t+1))) h_1)
 (R (.tuple #[.int .i64 0,.bool false]) h_1))))
def J70_0  (R:Value->Heap->Prop) (left1:Int) (h_2:Heap):Prop:=
 R (.tuple #[.int .i64 left1,.bool true]) h_2
def B70_3 (R:Value->Heap->Prop) (cA:(Option Addr)) (cN:Nat) (is_:(Option Nat)) (left t:Int) (h_:Heap) (next_:Int×Int->Heap->Prop):Prop:=
 PIf (t<((cN:Nat):Int))
 (J70_1 R cA cN is_ left t next_ h_)
 (J70_0 R (left) h_)
def VC70 (P:Program) (cA:Option Addr) (cN cC:Nat) (is_:Option Nat) (R:Value->Heap->Prop) (h:Heap):Prop:=
 LoopT (σ:=Int×Int) (fun st_ h_st nx_st=>B70_3 R cA cN is_ (st_.1) (st_.2) h_st nx_st) (0,0) h
theorem vc70 (P:Program) (cA:Option Addr) (cN cC:Nat) (is_:Option Nat) (R:Value->Heap->Prop) (h:Heap):fnC P ret70 code70 [.slice cA cN cC,(.map is_)] h R=VC70 P cA cN cC is_ R h:=by kernel_rfl
theorem run70 (cA:Option Addr) (cN cC:Nat) (is_:Option Nat) (R:Value->Heap->Prop) (h:Heap) (hv:VC70 Try.prog cA cN cC is_ R h):CallsH Try.prog 70 #[.slice cA cN cC,(.map is_)] h R:=calls_of_fnC (Checked.mixed Try.checked) Try.func70 comp70 (Nat.le_of_ble_eq_true rfl) (by rw [vc70];exact hv)
def loops72:List (List (Nat×Shp)):=[]
noncomputable def code72:SCode:=((compF Try.prog Try.f72 loops72).elim .skip fun x=>x.2.2)
def ret72:List RV:=[.tmp 4]
theorem comp72:compF Try.prog Try.f72 loops72=some (14,ret72,code72):=by kernel_rfl
def VC72 (P:Program) (x y:Int) (R:Value->Heap->Prop) (h:Heap):Prop:=
 R (.int .i64 (IntKind.wrap .i64 ((max (x:Int) (IntKind.wrap .i64 (0-x)))-(max (y:Int) (IntKind.wrap .i64 (0-y)))))) h
theorem vc72 (P:Program) (x y:Int) (R:Value->Heap->Prop) (h:Heap):fnC P ret72 code72 [.int .i64 x,.int .i64 y] h R=VC72 P x y R h:=by kernel_rfl
theorem run72 (x y:Int) (R:Value->Heap->Prop) (h:Heap) (hv:VC72 Try.prog x y R h):CallsH Try.prog 72 #[.int .i64 x,.int .i64 y] h R:=calls_of_fnC (Checked.mixed Try.checked) Try.func72 comp72 (Nat.le_of_ble_eq_true rfl) (by rw [vc72];exact hv)
end Go.Proofs.Ytobageabpfkpcaa
