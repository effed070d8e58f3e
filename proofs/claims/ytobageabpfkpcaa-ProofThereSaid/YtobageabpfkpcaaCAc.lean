/- Words and facts that the claim's proof leans on. No condition. -/
import Derived.Test.YtobageabpfkpcaaHxV
import Derived.Test.YtobageabpfkpcaaChecked
set_option maxRecDepth 100000
set_option linter.unusedVariables false
namespace Go.Proofs.Ytobageabpfkpcaa
open Go.Hx
def loops13:List (List (Nat×Shp)):=[]
noncomputable def code13:SCode:=((compF Try.prog Try.f13 loops13).elim .skip fun x=>x.2.2)
def ret13:List RV:=[.tmp 2,.tmp 3]
theorem comp13:compF Try.prog Try.f13 loops13=some (11,ret13,code13):=by kernel_rfl
def VC13 (P:Program) (f:Int) (fA:Option Addr) (fN fC:Nat) (R:Value->Heap->Prop) (h:Heap):Prop:=
 let h_:Heap:=(h).push (.cells (Value.cells (.agg #[.int .i64 f,.slice fA fN fC])) 24);let h_1:Heap:=(h_).push (.cells #[.int .i64 0] 3);StoreH h_1 ⟨h_.size,0,none⟩ [.int .i64 0] fun h_2=>∃ (t:Int) (A:Option Addr) (N C:Nat),cellsH h_2 ⟨h.size,0,none⟩ 0 [.int .i64 t,.slice A N C]/\CallsH P 25 #[(.agg #[.int .i64 t,.slice A N C]),(.func (.func 26) #[] #[(.pointer (some ⟨h_.size,0,none⟩))])] h_2 fun v h_3=>
 ∃ (t1:Int),v=(.int .i64 t1)/\∃ (t2:Int),cellH h_3 ⟨h_.size,0,none⟩=some (.int .i64 t2)/\R (.tuple #[.int .i64 t2,.int .i64 t1]) h_3
theorem vc13 (P:Program) (f:Int) (fA:Option Addr) (fN fC:Nat) (R:Value->Heap->Prop) (h:Heap):fnC P ret13 code13 [(.agg #[.int .i64 f,.slice fA fN fC])] h R=VC13 P f fA fN fC R h:=by kernel_rfl
theorem run13 (f:Int) (fA:Option Addr) (fN fC:Nat) (R:Value->Heap->Prop) (h:Heap) (hv:VC13 Try.prog f fA fN fC R h):CallsH Try.prog 13 #[(.agg #[.int .i64 f,.slice fA fN fC])] h R:=calls_of_fnC (Checked.mixed Try.checked) Try.func13 comp13 (Nat.le_of_ble_eq_true rfl) (by rw [vc13];exact hv)
def loops36:List (List (Nat×Shp)):=[]
noncomputable def code36:SCode:=((compF Try.prog Try.f36 loops36).elim .skip fun x=>x.2.2)
def ret36:List RV:=[.tmp 4]
theorem comp36:compF Try.prog Try.f36 loops36=some (9,ret36,code36):=by kernel_rfl
def VC36 (P:Program) (f:Int) (fA:Option Addr) (fN fC:Nat) (modelA:Option Addr) (modelN modelC:Nat) (R:Value->Heap->Prop) (h:Heap):Prop:=
 let h_:Heap:=(h).push (.cells (Value.cells (.agg #[.int .i64 f,.slice fA fN fC])) 24);let h_1:Heap:=(h_).push (.cells #[.slice modelA modelN modelC] 54);∃ (A:Option Addr) (N C:Nat),cellH h_1 (Addr.add ⟨h.size,0,none⟩ 1)=some (.slice A N C)/\CallsH P 53 #[.slice A N C,(.func (.func 54) #[] #[(.pointer (some ⟨h_.size,0,none⟩))])] h_1 fun v h_2=>
 ∃ (t:Int),v=(.int .i64 t)/\R (.int .i64 t) h_2
theorem vc36 (P:Program) (f:Int) (fA:Option Addr) (fN fC:Nat) (modelA:Option Addr) (modelN modelC:Nat) (R:Value->Heap->Prop) (h:Heap):fnC P ret36 code36 [(.agg #[.int .i64 f,.slice fA fN fC]),.slice modelA modelN modelC] h R=VC36 P f fA fN fC modelA modelN modelC R h:=by kernel_rfl
theorem run36 (f:Int) (fA:Option Addr) (fN fC:Nat) (modelA:Option Addr) (modelN modelC:Nat) (R:Value->Heap->Prop) (h:Heap) (hv:VC36 Try.prog f fA fN fC modelA modelN modelC R h):CallsH Try.prog 36 #[(.agg #[.int .i64 f,.slice fA fN fC]),.slice modelA modelN modelC] h R:=calls_of_fnC (Checked.mixed Try.checked) Try.func36 comp36 (Nat.le_of_ble_eq_true rfl) (by rw [vc36];exact hv)
def loops25:List (List (Nat×Shp)):=[[(27,.int .i64)],[(32,.int .i64)]]
noncomputable def code25:SCode:=((compF Try.prog Try.f25 loops25).elim .skip fun x=>x.2.2)
def ret25:List RV:=[.tmp 4]
theorem comp25:compF Try.prog Try.f25 loops25=some (59,ret25,code25):=by kernel_rfl
def J25_6  (h h_3:Heap) (t4 t6 t7:Int) (next_1:(Int->Heap->Prop)) (h_8:Heap):Prop:=
 ∃ (t8:Int),cellH h_8 (Addr.add ⟨h.size,0,none⟩ 0)=some (.int .i64 t8)/\0≤((IntKind.wrap .i64 ((IntKind.wrap .i64 (t8-1))-t7)):Int)/\PIf (((bop .and .i64 (t6 / 2 ^ min (Int.toNat (IntKind.wrap .i64 ((IntKind.wrap .i64 (t8-1))-t7))) (IntKind.bits .i64)) 1):Int)=1)
 (0≤t7/\t7<((Int.toNat t4):Nat)/\StoreH h_8 (Addr.add ⟨h_3.size,0,none⟩ (Int.toNat t7*1)) [.bool true] fun h_9=>next_1 (IntKind.wrap .i64 (t7+1)) h_9)
 (0≤t7/\t7<((Int.toNat t4):Nat)/\StoreH h_8 (Addr.add ⟨h_3.size,0,none⟩ (Int.toNat t7*1)) [.bool false] fun h_10=>next_1 (IntKind.wrap .i64 (t7+1)) h_10)
def J25_2  (R:Value->Heap->Prop) (h_14:Heap):Prop:=
 R (.int .i64 0) h_14
def J25_4  (t6:Int) (next_:(Int->Heap->Prop)) (h_15:Heap):Prop:=
 next_ (IntKind.wrap .i64 (t6+1)) h_15
def J25_5  (P:Program) (R:Value->Heap->Prop) (h:Heap) (do_:Value) (h_3:Heap) (t4 t6:Int) (next_:(Int->Heap->Prop)) (h_11:Heap):Prop:=
 ∃ (t9:Int) (A1:Option Addr) (N1 C1:Nat),cellsH h_11 ⟨h.size,0,none⟩ 0 [.int .i64 t9,.slice A1 N1 C1]/\CallsH P 36 #[(.agg #[.int .i64 t9,.slice A1 N1 C1]),(.slice (some ⟨h_3.size,0,none⟩) (Int.toNat t4) (Int.toNat t4))] h_11 fun v1 h_12=>
 ∃ (t10:Int),v1=(.int .i64 t10)/\PIf (t10<0)
 (CallV P do_ [(.slice (some ⟨h_3.size,0,none⟩) (Int.toNat t4) (Int.toNat t4))] h_12 fun v2 h_13=>
 ∃ (t11:Bool),v2=(.bool t11)/\BIf (!t11) (J25_2 R h_13) (J25_4 t6 next_ h_13))
 (J25_4 t6 next_ h_12)
def B25_8 (P:Program) (R:Value->Heap->Prop) (h:Heap) (do_:Value) (h_3:Heap) (t4 t6:Int) (next_:(Int->Heap->Prop)) (t7:Int) (h_7:Heap) (next_1:Int->Heap->Prop):Prop:=
 PIf (t7<(((Int.toNat t4):Nat):Int))
 (J25_6 h h_3 t4 t6 t7 next_1 h_7)
 (J25_5 P R h do_ h_3 t4 t6 next_ h_7)
def J25_3  (P:Program) (R:Value->Heap->Prop) (h:Heap) (do_:Value) (h_3:Heap) (t4 t6:Int) (next_:(Int->Heap->Prop)) (h_6:Heap):Prop:=
 LoopT (σ:=Int) (fun st_ h_st nx_st=>B25_8 P R h do_ h_3 t4 t6 next_ (st_) h_st nx_st) (0) h_6
def B25_10 (P:Program) (R:Value->Heap->Prop) (h:Heap) (do_:Value) (h_3:Heap) (t4 t5 t6:Int) (h_5:Heap) (next_:Int->Heap->Prop):Prop:=
 PIf (t6<(IntKind.wrap .i64 (1*2 ^ min (Int.toNat t5) (IntKind.bits .i64))))
 (J25_3 P R h do_ h_3 t4 t6 next_ h_5)
 (J25_2 R h_5)
def J25_1  (P:Program) (R:Value->Heap->Prop) (h:Heap) (do_:Value) (h_3:Heap):Prop:=
 ∃ (t4:Int),cellH h_3 (Addr.add ⟨h.size,0,none⟩ 0)=some (.int .i64 t4)/\0≤t4/\t4≤t4/\(1:Int)*t4≤281474976710656/\let h_4:Heap:=(h_3).push (.cells (zeroRow #[.bool false] (Int.toNat t4*1)).toArray 4);∃ (t5:Int),cellH h_4 (Addr.add ⟨h.size,0,none⟩ 0)=some (.int .i64 t5)/\0≤t5/\LoopT (σ:=Int) (fun st_ h_st nx_st=>B25_10 P R h do_ h_3 t4 t5 (st_) h_st nx_st) (0) h_4
def J25_0  (P:Program) (R:Value->Heap->Prop) (h:Heap) (do_:Value) (h_2:Heap):Prop:=
 ∃ (t3:Int),cellH h_2 (Addr.add ⟨h.size,0,none⟩ 0)=some (.int .i64 t3)/\PIf ((16:Int)<t3)
 (R (.int .i64 6) h_2)
 (J25_1 P R h do_ h_2)
def VC25 (P:Program) (f:Int) (fA:Option Addr) (fN fC:Nat) (do_:Value) (R:Value->Heap->Prop) (h:Heap):Prop:=
 let h_:Heap:=(h).push (.cells (Value.cells (.agg #[.int .i64 f,.slice fA fN fC])) 24);∃ (t:Int) (A:Option Addr) (N C:Nat),cellsH h_ ⟨h.size,0,none⟩ 0 [.int .i64 t,.slice A N C]/\CallsH P 17 #[(.agg #[.int .i64 t,.slice A N C])] h_ fun v h_1=>
 ∃ (t1 t2:Int),v=(.tuple #[.int .i64 t1,.int .i64 t2])/\PIf (t2=0)
 (J25_0 P R h do_ h_1)
 (R (.int .i64 t2) h_1)
theorem vc25 (P:Program) (f:Int) (fA:Option Addr) (fN fC:Nat) (do_:Value) (R:Value->Heap->Prop) (h:Heap):fnC P ret25 code25 [(.agg #[.int .i64 f,.slice fA fN fC]),do_] h R=VC25 P f fA fN fC do_ R h:=by kernel_rfl
theorem run25 (f:Int) (fA:Option Addr) (fN fC:Nat) (do_:Value) (R:Value->Heap->Prop) (h:Heap) (hv:VC25 Try.prog f fA fN fC do_ R h):CallsH Try.prog 25 #[(.agg #[.int .i64 f,.slice fA fN fC]),do_] h R:=calls_of_fnC (Checked.mixed Try.checked) Try.func25 comp25 (Nat.le_of_ble_eq_true rfl) (by rw [vc25];exact hv)
def loops26:List (List (Nat×Shp)):=[]
noncomputable def code26:SCode:=((compF Try.prog Try.f26 loops26).elim .skip fun x=>x.2.2)
def ret26:List RV:=[.tmp 3]
theorem comp26:compF Try.prog Try.f26 loops26=some (6,ret26,code26):=by kernel_rfl
def VC26 (P:Program) (A:Option Addr) (N C:Nat) (t:Option Addr) (R:Value->Heap->Prop) (h:Heap):Prop:=
 AtP t fun ad=>∃ (t1:Int),cellH h ad=some (.int .i64 t1)/\AtP t fun ad1=>StoreH h ad1 [(.int .i64 (IntKind.wrap .i64 (t1+1)))] fun h_=>R (.bool true) h_
theorem vc26 (P:Program) (A:Option Addr) (N C:Nat) (t:Option Addr) (R:Value->Heap->Prop) (h:Heap):fnC P ret26 code26 [.slice A N C,.pointer t] h R=VC26 P A N C t R h:=by kernel_rfl
theorem run26 (A:Option Addr) (N C:Nat) (t:Option Addr) (R:Value->Heap->Prop) (h:Heap) (hv:VC26 Try.prog A N C t R h):CallsH Try.prog 26 #[.slice A N C,.pointer t] h R:=calls_of_fnC (Checked.mixed Try.checked) Try.func26 comp26 (Nat.le_of_ble_eq_true rfl) (by rw [vc26];exact hv)
def loops53:List (List (Nat×Shp)):=[[(8,.int .i64)]]
noncomputable def code53:SCode:=((compF Try.prog Try.f53 loops53).elim .skip fun x=>x.2.2)
def ret53:List RV:=[.tmp 4]
theorem comp53:compF Try.prog Try.f53 loops53=some (19,ret53,code53):=by kernel_rfl
def J53_1  (P:Program) (R:Value->Heap->Prop) (sA:(Option Addr)) (sN:Nat) (f:Value) (t:Int) (next_:(Int->Heap->Prop)) (h_1:Heap):Prop:=
 0≤t/\t<(sN:Nat)/\AtP sA fun ad=>∃ (A:Option Addr) (N C:Nat),cellH h_1 (Addr.add ad (Int.toNat t*1))=some (.slice A N C)/\CallV P f [.slice A N C] h_1 fun v h_2=>
 ∃ (t1:Bool),v=(.bool t1)/\BIf t1 (R (.int .i64 t) h_2) (next_ (IntKind.wrap .i64 (t+1)) h_2)
def J53_0  (R:Value->Heap->Prop) (h_3:Heap):Prop:=
 R (.int .i64 (-1)) h_3
def B53_3 (P:Program) (R:Value->Heap->Prop) (sA:(Option Addr)) (sN:Nat) (f:Value) (t:Int) (h_:Heap) (next_:Int->Heap->Prop):Prop:=
 PIf (t<((sN:Nat):Int))
 (J53_1 P R sA sN f t next_ h_)
 (J53_0 R h_)
def VC53 (P:Program) (sA:Option Addr) (sN sC:Nat) (f:Value) (R:Value->Heap->Prop) (h:Heap):Prop:=
 LoopT (σ:=Int) (fun st_ h_st nx_st=>B53_3 P R sA sN f (st_) h_st nx_st) (0) h
theorem vc53 (P:Program) (sA:Option Addr) (sN sC:Nat) (f:Value) (R:Value->Heap->Prop) (h:Heap):fnC P ret53 code53 [.slice sA sN sC,f] h R=VC53 P sA sN sC f R h:=by kernel_rfl
theorem run53 (sA:Option Addr) (sN sC:Nat) (f:Value) (R:Value->Heap->Prop) (h:Heap) (hv:VC53 Try.prog sA sN sC f R h):CallsH Try.prog 53 #[.slice sA sN sC,f] h R:=calls_of_fnC (Checked.mixed Try.checked) Try.func53 comp53 (Nat.le_of_ble_eq_true rfl) (by rw [vc53];exact hv)
def loops54:List (List (Nat×Shp)):=[]
noncomputable def code54:SCode:=((compF Try.prog Try.f54 loops54).elim .skip fun x=>x.2.2)
def ret54:List RV:=[.tmp 3]
theorem comp54:compF Try.prog Try.f54 loops54=some (8,ret54,code54):=by kernel_rfl
def VC54 (P:Program) (cA:Option Addr) (cN cC:Nat) (t:Option Addr) (R:Value->Heap->Prop) (h:Heap):Prop:=
 AtP t fun ad=>∃ (A:Option Addr) (N C:Nat),cellH h ad=some (.slice A N C)/\CallsH P 55 #[.slice cA cN cC,.slice A N C] h fun v h_=>
 ∃ (t1:Bool),v=(.bool t1)/\R (.bool (!t1)) h_
theorem vc54 (P:Program) (cA:Option Addr) (cN cC:Nat) (t:Option Addr) (R:Value->Heap->Prop) (h:Heap):fnC P ret54 code54 [.slice cA cN cC,.pointer t] h R=VC54 P cA cN cC t R h:=by kernel_rfl
theorem run54 (cA:Option Addr) (cN cC:Nat) (t:Option Addr) (R:Value->Heap->Prop) (h:Heap) (hv:VC54 Try.prog cA cN cC t R h):CallsH Try.prog 54 #[.slice cA cN cC,.pointer t] h R:=calls_of_fnC (Checked.mixed Try.checked) Try.func54 comp54 (Nat.le_of_ble_eq_true rfl) (by rw [vc54];exact hv)
def loops55:List (List (Nat×Shp)):=[]
noncomputable def code55:SCode:=((compF Try.prog Try.f55 loops55).elim .skip fun x=>x.2.2)
def ret55:List RV:=[.tmp 4]
theorem comp55:compF Try.prog Try.f55 loops55=some (8,ret55,code55):=by kernel_rfl
def VC55 (P:Program) (cA:Option Addr) (cN cC:Nat) (modelA:Option Addr) (modelN modelC:Nat) (R:Value->Heap->Prop) (h:Heap):Prop:=
 let h_:Heap:=(h).push (.cells #[.slice modelA modelN modelC] 54);CallsH P 64 #[.slice cA cN cC,(.func (.func 65) #[] #[(.pointer (some ⟨h.size,0,none⟩))])] h_ fun v h_1=>
 ∃ (t:Bool),v=(.bool t)/\R (.bool t) h_1
theorem vc55 (P:Program) (cA:Option Addr) (cN cC:Nat) (modelA:Option Addr) (modelN modelC:Nat) (R:Value->Heap->Prop) (h:Heap):fnC P ret55 code55 [.slice cA cN cC,.slice modelA modelN modelC] h R=VC55 P cA cN cC modelA modelN modelC R h:=by kernel_rfl
theorem run55 (cA:Option Addr) (cN cC:Nat) (modelA:Option Addr) (modelN modelC:Nat) (R:Value->Heap->Prop) (h:Heap) (hv:VC55 Try.prog cA cN cC modelA modelN modelC R h):CallsH Try.prog 55 #[.slice cA cN cC,.slice modelA modelN modelC] h R:=calls_of_fnC (Checked.mixed Try.checked) Try.func55 comp55 (Nat.le_of_ble_eq_true rfl) (by rw [vc55];exact hv)
def loops64:List (List (Nat×Shp)):=[]
noncomputable def code64:SCode:=((compF Try.prog Try.f64 loops64).elim .skip fun x=>x.2.2)
def ret64:List RV:=[.tmp 4]
theorem comp64:compF Try.prog Try.f64 loops64=some (9,ret64,code64):=by kernel_rfl
def VC64 (P:Program) (sA:Option Addr) (sN sC:Nat) (f:Value) (R:Value->Heap->Prop) (h:Heap):Prop:=
 CallsH P 61 #[.slice sA sN sC,f] h fun v h_=>
 ∃ (t:Int),v=(.int .i64 t)/\PIf ((0:Int)≤t)
 (R (.bool true) h_)
 (R (.bool false) h_)
theorem vc64 (P:Program) (sA:Option Addr) (sN sC:Nat) (f:Value) (R:Value->Heap->Prop) (h:Heap):fnC P ret64 code64 [.slice sA sN sC,f] h R=VC64 P sA sN sC f R h:=by kernel_rfl
theorem run64 (sA:Option Addr) (sN sC:Nat) (f:Value) (R:Value->Heap->Prop) (h:Heap) (hv:VC64 Try.prog sA sN sC f R h):CallsH Try.prog 64 #[.slice sA sN sC,f] h R:=calls_of_fnC (Checked.mixed Try.checked) Try.func64 comp64 (Nat.le_of_ble_eq_true rfl) (by rw [vc64];exact hv)
def loops65:List (List (Nat×Shp)):=[]
noncomputable def code65:SCode:=((compF Try.prog Try.f65 loops65).elim .skip fun x=>x.2.2)
def ret65:List RV:=[.tmp 3]
theorem comp65:compF Try.prog Try.f65 loops65=some (18,ret65,code65):=by kernel_rfl
def J65_0  (R:Value->Heap->Prop) (x:Int) (t:(Option Addr)) (h_:Heap):Prop:=
 AtP t fun ad2=>∃ (A1:Option Addr) (N1 C1:Nat),cellH h_ ad2=some (.slice A1 N1 C1)/\0≤((IntKind.wrap .i64 (x-1)):Int)/\((IntKind.wrap .i64 (x-1)):Int)<(N1:Nat)/\AtP A1 fun ad3=>∃ (t2:Bool),cellH h_ (Addr.add ad3 (Int.toNat (IntKind.wrap .i64 (x-1))*1))=some (.bool t2)/\R (.bool t2) h_
def VC65 (P:Program) (x:Int) (t:Option Addr) (R:Value->Heap->Prop) (h:Heap):Prop:=
 PIf (x<0)
 (AtP t fun ad=>∃ (A:Option Addr) (N C:Nat),cellH h ad=some (.slice A N C)/\0≤((IntKind.wrap .i64 ((IntKind.wrap .i64 (0-x))-1)):Int)/\((IntKind.wrap .i64 ((IntKind.wrap .i64 (0-x))-1)):Int)<(N:Nat)/\AtP A fun ad1=>∃ (t1:Bool),cellH h (Addr.add ad1 (Int.toNat (IntKind.wrap .i64 ((IntKind.wrap .i64 (0-x))-1))*1))=some (.bool t1)/\R (.bool (!t1)) h)
 (J65_0 R x t h)
theorem vc65 (P:Program) (x:Int) (t:Option Addr) (R:Value->Heap->Prop) (h:Heap):fnC P ret65 code65 [.int .i64 x,.pointer t] h R=VC65 P x t R h:=by kernel_rfl
theorem run65 (x:Int) (t:Option Addr) (R:Value->Heap->Prop) (h:Heap) (hv:VC65 Try.prog x t R h):CallsH Try.prog 65 #[.int .i64 x,.pointer t] h R:=calls_of_fnC (Checked.mixed Try.checked) Try.func65 comp65 (Nat.le_of_ble_eq_true rfl) (by rw [vc65];exact hv)
def loops61:List (List (Nat×Shp)):=[[(8,.int .i64)]]
noncomputable def code61:SCode:=((compF Try.prog Try.f61 loops61).elim .skip fun x=>x.2.2)
def ret61:List RV:=[.tmp 4]
theorem comp61:compF Try.prog Try.f61 loops61=some (19,ret61,code61):=by kernel_rfl
def J61_1  (P:Program) (R:Value->Heap->Prop) (sA:(Option Addr)) (sN:Nat) (f:Value) (t:Int) (next_:(Int->Heap->Prop)) (h_1:Heap):Prop:=
 0≤t/\t<(sN:Nat)/\AtP sA fun ad=>∃ (t1:Int),cellH h_1 (Addr.add ad (Int.toNat t*1))=some (.int .i64 t1)/\CallV P f [.int .i64 t1] h_1 fun v h_2=>
 ∃ (t2:Bool),v=(.bool t2)/\BIf t2 (R (.int .i64 t) h_2) (next_ (IntKind.wrap .i64 (t+1)) h_2)
def J61_0  (R:Value->Heap->Prop) (h_3:Heap):Prop:=
 R (.int .i64 (-1)) h_3
def B61_3 (P:Program) (R:Value->Heap->Prop) (sA:(Option Addr)) (sN:Nat) (f:Value) (t:Int) (h_:Heap) (next_:Int->Heap->Prop):Prop:=
 PIf (t<((sN:Nat):Int))
 (J61_1 P R sA sN f t next_ h_)
 (J61_0 R h_)
def VC61 (P:Program) (sA:Option Addr) (sN sC:Nat) (f:Value) (R:Value->Heap->Prop) (h:Heap):Prop:=
 LoopT (σ:=Int) (fun st_ h_st nx_st=>B61_3 P R sA sN f (st_) h_st nx_st) (0) h
theorem vc61 (P:Program) (sA:Option Addr) (sN sC:Nat) (f:Value) (R:Value->Heap->Prop) (h:Heap):fnC P ret61 code61 [.slice sA sN sC,f] h R=VC61 P sA sN sC f R h:=by kernel_rfl
theorem run61 (sA:Option Addr) (sN sC:Nat) (f:Value) (R:Value->Heap->Prop) (h:Heap) (hv:VC61 Try.prog sA sN sC f R h):CallsH Try.prog 61 #[.slice sA sN sC,f] h R:=calls_of_fnC (Checked.mixed Try.checked) Try.func61 comp61 (Nat.le_of_ble_eq_true rfl) (by rw [vc61];exact hv)
end Go.Proofs.Ytobageabpfkpcaa
