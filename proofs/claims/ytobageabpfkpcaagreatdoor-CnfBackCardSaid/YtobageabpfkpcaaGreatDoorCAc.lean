/- Words and facts that the claim's proof leans on. No condition. -/
import Derived.Test.YtobageabpfkpcaaGreatDoorHxV
import Derived.Test.YtobageabpfkpcaaGreatDoorChecked
set_option maxRecDepth 100000
set_option linter.unusedVariables false
namespace Go.Proofs.YtobageabpfkpcaaGreatDoor
open Go.Hx
def loops27:List (List (Nat×Shp)):=[]
noncomputable def code27:SCode:=((compF Tryz.prog Tryz.f27 loops27).elim .skip fun x=>x.2.2)
def ret27:List RV:=[.tmp 2,.tmp 3]
theorem comp27:compF Tryz.prog Tryz.f27 loops27=some (11,ret27,code27):=by kernel_rfl
def VC27 (P:Program) (f:Int) (fA:Option Addr) (fN fC:Nat) (R:Value->Heap->Prop) (h:Heap):Prop:=
 let h_:Heap:=(h).push (.cells (Value.cells (.agg #[.int .i64 f,.slice fA fN fC])) 24);let h_1:Heap:=(h_).push (.cells #[.int .i64 0] 3);StoreH h_1 ⟨h_.size,0,none⟩ [.int .i64 0] fun h_2=>∃ (t:Int) (A:Option Addr) (N C:Nat),cellsH h_2 ⟨h.size,0,none⟩ 0 [.int .i64 t,.slice A N C]/\CallsH P 65 #[(.agg #[.int .i64 t,.slice A N C]),(.func (.func 66) #[] #[(.pointer (some ⟨h_.size,0,none⟩))])] h_2 fun v h_3=>
 ∃ (t1:Int),v=(.int .i64 t1)/\∃ (t2:Int),cellH h_3 ⟨h_.size,0,none⟩=some (.int .i64 t2)/\R (.tuple #[.int .i64 t2,.int .i64 t1]) h_3
theorem vc27 (P:Program) (f:Int) (fA:Option Addr) (fN fC:Nat) (R:Value->Heap->Prop) (h:Heap):fnC P ret27 code27 [(.agg #[.int .i64 f,.slice fA fN fC])] h R=VC27 P f fA fN fC R h:=by kernel_rfl
theorem run27 (f:Int) (fA:Option Addr) (fN fC:Nat) (R:Value->Heap->Prop) (h:Heap) (hv:VC27 Tryz.prog f fA fN fC R h):CallsH Tryz.prog 27 #[(.agg #[.int .i64 f,.slice fA fN fC])] h R:=calls_of_fnC (Checked.mixed Tryz.checked) Tryz.func27 comp27 (Nat.le_of_ble_eq_true rfl) (by rw [vc27];exact hv)
def loops63:List (List (Nat×Shp)):=[]
noncomputable def code63:SCode:=((compF Tryz.prog Tryz.f63 loops63).elim .skip fun x=>x.2.2)
def ret63:List RV:=[.tmp 4]
theorem comp63:compF Tryz.prog Tryz.f63 loops63=some (9,ret63,code63):=by kernel_rfl
def VC63 (P:Program) (f:Int) (fA:Option Addr) (fN fC:Nat) (modelA:Option Addr) (modelN modelC:Nat) (R:Value->Heap->Prop) (h:Heap):Prop:=
 let h_:Heap:=(h).push (.cells (Value.cells (.agg #[.int .i64 f,.slice fA fN fC])) 24);let h_1:Heap:=(h_).push (.cells #[.slice modelA modelN modelC] 42);∃ (A:Option Addr) (N C:Nat),cellH h_1 (Addr.add ⟨h.size,0,none⟩ 1)=some (.slice A N C)/\CallsH P 100 #[.slice A N C,(.func (.func 101) #[] #[(.pointer (some ⟨h_.size,0,none⟩))])] h_1 fun v h_2=>
 ∃ (t:Int),v=(.int .i64 t)/\R (.int .i64 t) h_2
theorem vc63 (P:Program) (f:Int) (fA:Option Addr) (fN fC:Nat) (modelA:Option Addr) (modelN modelC:Nat) (R:Value->Heap->Prop) (h:Heap):fnC P ret63 code63 [(.agg #[.int .i64 f,.slice fA fN fC]),.slice modelA modelN modelC] h R=VC63 P f fA fN fC modelA modelN modelC R h:=by kernel_rfl
theorem run63 (f:Int) (fA:Option Addr) (fN fC:Nat) (modelA:Option Addr) (modelN modelC:Nat) (R:Value->Heap->Prop) (h:Heap) (hv:VC63 Tryz.prog f fA fN fC modelA modelN modelC R h):CallsH Tryz.prog 63 #[(.agg #[.int .i64 f,.slice fA fN fC]),.slice modelA modelN modelC] h R:=calls_of_fnC (Checked.mixed Tryz.checked) Tryz.func63 comp63 (Nat.le_of_ble_eq_true rfl) (by rw [vc63];exact hv)
def loops65:List (List (Nat×Shp)):=[[(27,.int .i64)],[(32,.int .i64)]]
noncomputable def code65:SCode:=((compF Tryz.prog Tryz.f65 loops65).elim .skip fun x=>x.2.2)
def ret65:List RV:=[.tmp 4]
theorem comp65:compF Tryz.prog Tryz.f65 loops65=some (59,ret65,code65):=by kernel_rfl
def J65_6  (h h_3:Heap) (t4 t6 t7:Int) (next_1:(Int->Heap->Prop)) (h_8:Heap):Prop:=
 ∃ (t8:Int),cellH h_8 (Addr.add ⟨h.size,0,none⟩ 0)=some (.int .i64 t8)/\0≤((IntKind.wrap .i64 ((IntKind.wrap .i64 (t8-1))-t7)):Int)/\PIf (((bop .and .i64 (t6 / 2 ^ min (Int.toNat (IntKind.wrap .i64 ((IntKind.wrap .i64 (t8-1))-t7))) (IntKind.bits .i64)) 1):Int)=1)
 (0≤t7/\t7<((Int.toNat t4):Nat)/\StoreH h_8 (Addr.add ⟨h_3.size,0,none⟩ (Int.toNat t7*1)) [.bool true] fun h_9=>next_1 (IntKind.wrap .i64 (t7+1)) h_9)
 (0≤t7/\t7<((Int.toNat t4):Nat)/\StoreH h_8 (Addr.add ⟨h_3.size,0,none⟩ (Int.toNat t7*1)) [.bool false] fun h_10=>next_1 (IntKind.wrap .i64 (t7+1)) h_10)
def J65_2  (R:Value->Heap->Prop) (h_14:Heap):Prop:=
 R (.int .i64 0) h_14
def J65_4  (t6:Int) (next_:(Int->Heap->Prop)) (h_15:Heap):Prop:=
 next_ (IntKind.wrap .i64 (t6+1)) h_15
def J65_5  (P:Program) (R:Value->Heap->Prop) (h:Heap) (do_:Value) (h_3:Heap) (t4 t6:Int) (next_:(Int->Heap->Prop)) (h_11:Heap):Prop:=
 ∃ (t9:Int) (A1:Option Addr) (N1 C1:Nat),cellsH h_11 ⟨h.size,0,none⟩ 0 [.int .i64 t9,.slice A1 N1 C1]/\CallsH P 63 #[(.agg #[.int .i64 t9,.slice A1 N1 C1]),(.slice (some ⟨h_3.size,0,none⟩) (Int.toNat t4) (Int.toNat t4))] h_11 fun v1 h_12=>
 ∃ (t10:Int),v1=(.int .i64 t10)/\PIf (t10<0)
 (CallV P do_ [(.slice (some ⟨h_3.size,0,none⟩) (Int.toNat t4) (Int.toNat t4))] h_12 fun v2 h_13=>
 ∃ (t11:Bool),v2=(.bool t11)/\BIf (!t11) (J65_2 R h_13) (J65_4 t6 next_ h_13))
 (J65_4 t6 next_ h_12)
def B65_8 (P:Program) (R:Value->Heap->Prop) (h:Heap) (do_:Value) (h_3:Heap) (t4 t6:Int) (next_:(Int->Heap->Prop)) (t7:Int) (h_7:Heap) (next_1:Int->Heap->Prop):Prop:=
 PIf (t7<(((Int.toNat t4):Nat):Int))
 (J65_6 h h_3 t4 t6 t7 next_1 h_7)
 (J65_5 P R h do_ h_3 t4 t6 next_ h_7)
def J65_3  (P:Program) (R:Value->Heap->Prop) (h:Heap) (do_:Value) (h_3:Heap) (t4 t6:Int) (next_:(Int->Heap->Prop)) (h_6:Heap):Prop:=
 LoopT (σ:=Int) (fun st_ h_st nx_st=>B65_8 P R h do_ h_3 t4 t6 next_ (st_) h_st nx_st) (0) h_6
def B65_10 (P:Program) (R:Value->Heap->Prop) (h:Heap) (do_:Value) (h_3:Heap) (t4 t5 t6:Int) (h_5:Heap) (next_:Int->Heap->Prop):Prop:=
 PIf (t6<(IntKind.wrap .i64 (1*2 ^ min (Int.toNat t5) (IntKind.bits .i64))))
 (J65_3 P R h do_ h_3 t4 t6 next_ h_5)
 (J65_2 R h_5)
def J65_1  (P:Program) (R:Value->Heap->Prop) (h:Heap) (do_:Value) (h_3:Heap):Prop:=
 ∃ (t4:Int),cellH h_3 (Addr.add ⟨h.size,0,none⟩ 0)=some (.int .i64 t4)/\0≤t4/\t4≤t4/\(1:Int)*t4≤281474976710656/\let h_4:Heap:=(h_3).push (.cells (zeroRow #[.bool false] (Int.toNat t4*1)).toArray 4);∃ (t5:Int),cellH h_4 (Addr.add ⟨h.size,0,none⟩ 0)=some (.int .i64 t5)/\0≤t5/\LoopT (σ:=Int) (fun st_ h_st nx_st=>B65_10 P R h do_ h_3 t4 t5 (st_) h_st nx_st) (0) h_4
def J65_0  (P:Program) (R:Value->Heap->Prop) (h:Heap) (do_:Value) (h_2:Heap):Prop:=
 ∃ (t3:Int),cellH h_2 (Addr.add ⟨h.size,0,none⟩ 0)=some (.int .i64 t3)/\PIf ((16:Int)<t3)
 (R (.int .i64 6) h_2)
 (J65_1 P R h do_ h_2)
def VC65 (P:Program) (f:Int) (fA:Option Addr) (fN fC:Nat) (do_:Value) (R:Value->Heap->Prop) (h:Heap):Prop:=
 let h_:Heap:=(h).push (.cells (Value.cells (.agg #[.int .i64 f,.slice fA fN fC])) 24);∃ (t:Int) (A:Option Addr) (N C:Nat),cellsH h_ ⟨h.size,0,none⟩ 0 [.int .i64 t,.slice A N C]/\CallsH P 34 #[(.agg #[.int .i64 t,.slice A N C])] h_ fun v h_1=>
 ∃ (t1 t2:Int),v=(.tuple #[.int .i64 t1,.int .i64 t2])/\PIf (t2=0)
 (J65_0 P R h do_ h_1)
 (R (.int .i64 t2) h_1)
theorem vc65 (P:Program) (f:Int) (fA:Option Addr) (fN fC:Nat) (do_:Value) (R:Value->Heap->Prop) (h:Heap):fnC P ret65 code65 [(.agg #[.int .i64 f,.slice fA fN fC]),do_] h R=VC65 P f fA fN fC do_ R h:=by kernel_rfl
theorem run65 (f:Int) (fA:Option Addr) (fN fC:Nat) (do_:Value) (R:Value->Heap->Prop) (h:Heap) (hv:VC65 Tryz.prog f fA fN fC do_ R h):CallsH Tryz.prog 65 #[(.agg #[.int .i64 f,.slice fA fN fC]),do_] h R:=calls_of_fnC (Checked.mixed Tryz.checked) Tryz.func65 comp65 (Nat.le_of_ble_eq_true rfl) (by rw [vc65];exact hv)
def loops66:List (List (Nat×Shp)):=[]
noncomputable def code66:SCode:=((compF Tryz.prog Tryz.f66 loops66).elim .skip fun x=>x.2.2)
def ret66:List RV:=[.tmp 3]
theorem comp66:compF Tryz.prog Tryz.f66 loops66=some (6,ret66,code66):=by kernel_rfl
def VC66 (P:Program) (A:Option Addr) (N C:Nat) (t:Option Addr) (R:Value->Heap->Prop) (h:Heap):Prop:=
 AtP t fun ad=>∃ (t1:Int),cellH h ad=some (.int .i64 t1)/\AtP t fun ad1=>StoreH h ad1 [(.int .i64 (IntKind.wrap .i64 (t1+1)))] fun h_=>R (.bool true) h_
theorem vc66 (P:Program) (A:Option Addr) (N C:Nat) (t:Option Addr) (R:Value->Heap->Prop) (h:Heap):fnC P ret66 code66 [.slice A N C,.pointer t] h R=VC66 P A N C t R h:=by kernel_rfl
theorem run66 (A:Option Addr) (N C:Nat) (t:Option Addr) (R:Value->Heap->Prop) (h:Heap) (hv:VC66 Tryz.prog A N C t R h):CallsH Tryz.prog 66 #[.slice A N C,.pointer t] h R:=calls_of_fnC (Checked.mixed Tryz.checked) Tryz.func66 comp66 (Nat.le_of_ble_eq_true rfl) (by rw [vc66];exact hv)
def loops100:List (List (Nat×Shp)):=[[(8,.int .i64)]]
noncomputable def code100:SCode:=((compF Tryz.prog Tryz.f100 loops100).elim .skip fun x=>x.2.2)
def ret100:List RV:=[.tmp 4]
theorem comp100:compF Tryz.prog Tryz.f100 loops100=some (19,ret100,code100):=by kernel_rfl
def J100_1  (P:Program) (R:Value->Heap->Prop) (sA:(Option Addr)) (sN:Nat) (f:Value) (t:Int) (next_:(Int->Heap->Prop)) (h_1:Heap):Prop:=
 0≤t/\t<(sN:Nat)/\AtP sA fun ad=>∃ (A:Option Addr) (N C:Nat),cellH h_1 (Addr.add ad (Int.toNat t*1))=some (.slice A N C)/\CallV P f [.slice A N C] h_1 fun v h_2=>
 ∃ (t1:Bool),v=(.bool t1)/\BIf t1 (R (.int .i64 t) h_2) (next_ (IntKind.wrap .i64 (t+1)) h_2)
def J100_0  (R:Value->Heap->Prop) (h_3:Heap):Prop:=
 R (.int .i64 (-1)) h_3
def B100_3 (P:Program) (R:Value->Heap->Prop) (sA:(Option Addr)) (sN:Nat) (f:Value) (t:Int) (h_:Heap) (next_:Int->Heap->Prop):Prop:=
 PIf (t<((sN:Nat):Int))
 (J100_1 P R sA sN f t next_ h_)
 (J100_0 R h_)
def VC100 (P:Program) (sA:Option Addr) (sN sC:Nat) (f:Value) (R:Value->Heap->Prop) (h:Heap):Prop:=
 LoopT (σ:=Int) (fun st_ h_st nx_st=>B100_3 P R sA sN f (st_) h_st nx_st) (0) h
theorem vc100 (P:Program) (sA:Option Addr) (sN sC:Nat) (f:Value) (R:Value->Heap->Prop) (h:Heap):fnC P ret100 code100 [.slice sA sN sC,f] h R=VC100 P sA sN sC f R h:=by kernel_rfl
theorem run100 (sA:Option Addr) (sN sC:Nat) (f:Value) (R:Value->Heap->Prop) (h:Heap) (hv:VC100 Tryz.prog sA sN sC f R h):CallsH Tryz.prog 100 #[.slice sA sN sC,f] h R:=calls_of_fnC (Checked.mixed Tryz.checked) Tryz.func100 comp100 (Nat.le_of_ble_eq_true rfl) (by rw [vc100];exact hv)
def loops101:List (List (Nat×Shp)):=[]
noncomputable def code101:SCode:=((compF Tryz.prog Tryz.f101 loops101).elim .skip fun x=>x.2.2)
def ret101:List RV:=[.tmp 3]
theorem comp101:compF Tryz.prog Tryz.f101 loops101=some (8,ret101,code101):=by kernel_rfl
def VC101 (P:Program) (cA:Option Addr) (cN cC:Nat) (t:Option Addr) (R:Value->Heap->Prop) (h:Heap):Prop:=
 AtP t fun ad=>∃ (A:Option Addr) (N C:Nat),cellH h ad=some (.slice A N C)/\CallsH P 102 #[.slice cA cN cC,.slice A N C] h fun v h_=>
 ∃ (t1:Bool),v=(.bool t1)/\R (.bool (!t1)) h_
theorem vc101 (P:Program) (cA:Option Addr) (cN cC:Nat) (t:Option Addr) (R:Value->Heap->Prop) (h:Heap):fnC P ret101 code101 [.slice cA cN cC,.pointer t] h R=VC101 P cA cN cC t R h:=by kernel_rfl
theorem run101 (cA:Option Addr) (cN cC:Nat) (t:Option Addr) (R:Value->Heap->Prop) (h:Heap) (hv:VC101 Tryz.prog cA cN cC t R h):CallsH Tryz.prog 101 #[.slice cA cN cC,.pointer t] h R:=calls_of_fnC (Checked.mixed Tryz.checked) Tryz.func101 comp101 (Nat.le_of_ble_eq_true rfl) (by rw [vc101];exact hv)
def loops102:List (List (Nat×Shp)):=[]
noncomputable def code102:SCode:=((compF Tryz.prog Tryz.f102 loops102).elim .skip fun x=>x.2.2)
def ret102:List RV:=[.tmp 4]
theorem comp102:compF Tryz.prog Tryz.f102 loops102=some (8,ret102,code102):=by kernel_rfl
def VC102 (P:Program) (cA:Option Addr) (cN cC:Nat) (modelA:Option Addr) (modelN modelC:Nat) (R:Value->Heap->Prop) (h:Heap):Prop:=
 let h_:Heap:=(h).push (.cells #[.slice modelA modelN modelC] 42);CallsH P 132 #[.slice cA cN cC,(.func (.func 133) #[] #[(.pointer (some ⟨h.size,0,none⟩))])] h_ fun v h_1=>
 ∃ (t:Bool),v=(.bool t)/\R (.bool t) h_1
theorem vc102 (P:Program) (cA:Option Addr) (cN cC:Nat) (modelA:Option Addr) (modelN modelC:Nat) (R:Value->Heap->Prop) (h:Heap):fnC P ret102 code102 [.slice cA cN cC,.slice modelA modelN modelC] h R=VC102 P cA cN cC modelA modelN modelC R h:=by kernel_rfl
theorem run102 (cA:Option Addr) (cN cC:Nat) (modelA:Option Addr) (modelN modelC:Nat) (R:Value->Heap->Prop) (h:Heap) (hv:VC102 Tryz.prog cA cN cC modelA modelN modelC R h):CallsH Tryz.prog 102 #[.slice cA cN cC,.slice modelA modelN modelC] h R:=calls_of_fnC (Checked.mixed Tryz.checked) Tryz.func102 comp102 (Nat.le_of_ble_eq_true rfl) (by rw [vc102];exact hv)
def loops132:List (List (Nat×Shp)):=[]
noncomputable def code132:SCode:=((compF Tryz.prog Tryz.f132 loops132).elim .skip fun x=>x.2.2)
def ret132:List RV:=[.tmp 4]
theorem comp132:compF Tryz.prog Tryz.f132 loops132=some (9,ret132,code132):=by kernel_rfl
def VC132 (P:Program) (sA:Option Addr) (sN sC:Nat) (f:Value) (R:Value->Heap->Prop) (h:Heap):Prop:=
 CallsH P 156 #[.slice sA sN sC,f] h fun v h_=>
 ∃ (t:Int),v=(.int .i64 t)/\PIf ((0:Int)≤t)
 (R (.bool true) h_)
 (R (.bool false) h_)
theorem vc132 (P:Program) (sA:Option Addr) (sN sC:Nat) (f:Value) (R:Value->Heap->Prop) (h:Heap):fnC P ret132 code132 [.slice sA sN sC,f] h R=VC132 P sA sN sC f R h:=by kernel_rfl
theorem run132 (sA:Option Addr) (sN sC:Nat) (f:Value) (R:Value->Heap->Prop) (h:Heap) (hv:VC132 Tryz.prog sA sN sC f R h):CallsH Tryz.prog 132 #[.slice sA sN sC,f] h R:=calls_of_fnC (Checked.mixed Tryz.checked) Tryz.func132 comp132 (Nat.le_of_ble_eq_true rfl) (by rw [vc132];exact hv)
def loops133:List (List (Nat×Shp)):=[]
noncomputable def code133:SCode:=((compF Tryz.prog Tryz.f133 loops133).elim .skip fun x=>x.2.2)
def ret133:List RV:=[.tmp 3]
theorem comp133:compF Tryz.prog Tryz.f133 loops133=some (18,ret133,code133):=by kernel_rfl
def J133_0  (R:Value->Heap->Prop) (x:Int) (t:(Option Addr)) (h_:Heap):Prop:=
 AtP t fun ad2=>∃ (A1:Option Addr) (N1 C1:Nat),cellH h_ ad2=some (.slice A1 N1 C1)/\0≤((IntKind.wrap .i64 (x-1)):Int)/\((IntKind.wrap .i64 (x-1)):Int)<(N1:Nat)/\AtP A1 fun ad3=>∃ (t2:Bool),cellH h_ (Addr.add ad3 (Int.toNat (IntKind.wrap .i64 (x-1))*1))=some (.bool t2)/\R (.bool t2) h_
def VC133 (P:Program) (x:Int) (t:Option Addr) (R:Value->Heap->Prop) (h:Heap):Prop:=
 PIf (x<0)
 (AtP t fun ad=>∃ (A:Option Addr) (N C:Nat),cellH h ad=some (.slice A N C)/\0≤((IntKind.wrap .i64 ((IntKind.wrap .i64 (0-x))-1)):Int)/\((IntKind.wrap .i64 ((IntKind.wrap .i64 (0-x))-1)):Int)<(N:Nat)/\AtP A fun ad1=>∃ (t1:Bool),cellH h (Addr.add ad1 (Int.toNat (IntKind.wrap .i64 ((IntKind.wrap .i64 (0-x))-1))*1))=some (.bool t1)/\R (.bool (!t1)) h)
 (J133_0 R x t h)
theorem vc133 (P:Program) (x:Int) (t:Option Addr) (R:Value->Heap->Prop) (h:Heap):fnC P ret133 code133 [.int .i64 x,.pointer t] h R=VC133 P x t R h:=by kernel_rfl
theorem run133 (x:Int) (t:Option Addr) (R:Value->Heap->Prop) (h:Heap) (hv:VC133 Tryz.prog x t R h):CallsH Tryz.prog 133 #[.int .i64 x,.pointer t] h R:=calls_of_fnC (Checked.mixed Tryz.checked) Tryz.func133 comp133 (Nat.le_of_ble_eq_true rfl) (by rw [vc133];exact hv)
def loops156:List (List (Nat×Shp)):=[[(8,.int .i64)]]
noncomputable def code156:SCode:=((compF Tryz.prog Tryz.f156 loops156).elim .skip fun x=>x.2.2)
def ret156:List RV:=[.tmp 4]
theorem comp156:compF Tryz.prog Tryz.f156 loops156=some (19,ret156,code156):=by kernel_rfl
def J156_1  (P:Program) (R:Value->Heap->Prop) (sA:(Option Addr)) (sN:Nat) (f:Value) (t:Int) (next_:(Int->Heap->Prop)) (h_1:Heap):Prop:=
 0≤t/\t<(sN:Nat)/\AtP sA fun ad=>∃ (t1:Int),cellH h_1 (Addr.add ad (Int.toNat t*1))=some (.int .i64 t1)/\CallV P f [.int .i64 t1] h_1 fun v h_2=>
 ∃ (t2:Bool),v=(.bool t2)/\BIf t2 (R (.int .i64 t) h_2) (next_ (IntKind.wrap .i64 (t+1)) h_2)
def J156_0  (R:Value->Heap->Prop) (h_3:Heap):Prop:=
 R (.int .i64 (-1)) h_3
def B156_3 (P:Program) (R:Value->Heap->Prop) (sA:(Option Addr)) (sN:Nat) (f:Value) (t:Int) (h_:Heap) (next_:Int->Heap->Prop):Prop:=
 PIf (t<((sN:Nat):Int))
 (J156_1 P R sA sN f t next_ h_)
 (J156_0 R h_)
def VC156 (P:Program) (sA:Option Addr) (sN sC:Nat) (f:Value) (R:Value->Heap->Prop) (h:Heap):Prop:=
 LoopT (σ:=Int) (fun st_ h_st nx_st=>B156_3 P R sA sN f (st_) h_st nx_st) (0) h
theorem vc156 (P:Program) (sA:Option Addr) (sN sC:Nat) (f:Value) (R:Value->Heap->Prop) (h:Heap):fnC P ret156 code156 [.slice sA sN sC,f] h R=VC156 P sA sN sC f R h:=by kernel_rfl
theorem run156 (sA:Option Addr) (sN sC:Nat) (f:Value) (R:Value->Heap->Prop) (h:Heap) (hv:VC156 Tryz.prog sA sN sC f R h):CallsH Tryz.prog 156 #[.slice sA sN sC,f] h R:=calls_of_fnC (Checked.mixed Tryz.checked) Tryz.func156 comp156 (Nat.le_of_ble_eq_true rfl) (by rw [vc156];exact hv)
end Go.Proofs.YtobageabpfkpcaaGreatDoor
