/- Words and facts that the claim's proof leans on. No condition. -/
import Derived.Test.YtobageabpfkpcaaHxV
import Derived.Test.YtobageabpfkpcaaChecked
set_option maxRecDepth 100000
set_option linter.unusedVariables false
namespace Go.Proofs.Ytobageabpfkpcaa
open Go.Hx
def loops76:List (List (Nat×Shp)):=[[(1,.int .i64),(2,.int .i64),(3,.int .i64),(8,.bool),(9,.bool)]]
noncomputable def code76:SCode:=((compF Try.prog Try.f76 loops76).elim .skip fun x=>x.2.2)
def ret76:List RV:=[]
theorem comp76:compF Try.prog Try.f76 loops76=some (134,ret76,code76):=by kernel_rfl
def J76_5  (P:Program) (dataA:(Option Addr)) (dataN dataC:Nat) (a1 b1:Int) (next_:(Int×Int×Int×Bool×Bool->Heap->Prop)) (limit2 pivot a2:Int) (h_14:Heap):Prop:=
 CallsH P 95 #[.slice dataA dataN dataC,.int .i64 a2,.int .i64 b1,.int .i64 pivot] h_14 fun v8 h_15=>
 ∃ (t7:Int) (t8:Bool),v8=(.tuple #[.int .i64 t7,.bool t8])/\PIf (((IntKind.wrap .i64 (t7-a2)):Int)<(IntKind.wrap .i64 (b1-t7)))
 (PIf (((IntKind.wrap .i64 (Int.tdiv (IntKind.wrap .i64 (b1-a1)) 8)):Int)≤(IntKind.wrap .i64 (t7-a2)))
 (CallsH P 76 #[.slice dataA dataN dataC,.int .i64 a2,.int .i64 t7,.int .i64 limit2] h_15 fun v9 h_16=>
 v9=(.tuple #[])/\next_ ((IntKind.wrap .i64 (t7+1)),b1,limit2,true,t8) h_16)
 (CallsH P 76 #[.slice dataA dataN dataC,.int .i64 a2,.int .i64 t7,.int .i64 limit2] h_15 fun v10 h_17=>
 v10=(.tuple #[])/\next_ ((IntKind.wrap .i64 (t7+1)),b1,limit2,false,t8) h_17))
 (PIf (((IntKind.wrap .i64 (Int.tdiv (IntKind.wrap .i64 (b1-a1)) 8)):Int)≤(IntKind.wrap .i64 (b1-t7)))
 (CallsH P 76 #[.slice dataA dataN dataC,(.int .i64 (IntKind.wrap .i64 (t7+1))),.int .i64 b1,.int .i64 limit2] h_15 fun v11 h_18=>
 v11=(.tuple #[])/\next_ (a2,t7,limit2,true,t8) h_18)
 (CallsH P 76 #[.slice dataA dataN dataC,(.int .i64 (IntKind.wrap .i64 (t7+1))),.int .i64 b1,.int .i64 limit2] h_15 fun v12 h_19=>
 v12=(.tuple #[])/\next_ (a2,t7,limit2,false,t8) h_19))
def J76_4  (P:Program) (dataA:(Option Addr)) (dataN dataC:Nat) (a1 b1:Int) (wasBalanced wasPartitioned:Bool) (next_:(Int×Int×Int×Bool×Bool->Heap->Prop)) (limit2 pivot:Int) (h_11:Heap):Prop:=
 PIf ((0:Int)<a1)
 (0≤((IntKind.wrap .i64 (a1-1)):Int)/\((IntKind.wrap .i64 (a1-1)):Int)<(dataN:Nat)/\AtP dataA fun ad=>∃ (t3:Int),cellH h_11 (Addr.add ad (Int.toNat (IntKind.wrap .i64 (a1-1))*1))=some (.int .i64 t3)/\0≤pivot/\pivot<(dataN:Nat)/\AtP dataA fun ad1=>∃ (t4:Int),cellH h_11 (Addr.add ad1 (Int.toNat pivot*1))=some (.int .i64 t4)/\CallsH P 93 #[.int .i64 t3,.int .i64 t4] h_11 fun v6 h_12=>
 ∃ (t5:Bool),v6=(.bool t5)/\BIf (!t5) (CallsH P 94 #[.slice dataA dataN dataC,.int .i64 a1,.int .i64 b1,.int .i64 pivot] h_12 fun v7 h_13=>
 ∃ (t6:Int),v7=(.int .i64 t6)/\next_ (t6,b1,limit2,wasBalanced,wasPartitioned) h_13) (J76_5 P dataA dataN dataC a1 b1 next_ limit2 pivot (a1) h_12))
 (J76_5 P dataA dataN dataC a1 b1 next_ limit2 pivot (a1) h_11)
def J76_3  (P:Program) (R:Value->Heap->Prop) (dataA:(Option Addr)) (dataN dataC:Nat) (a1 b1:Int) (wasBalanced wasPartitioned:Bool) (next_:(Int×Int×Int×Bool×Bool->Heap->Prop)) (limit2 pivot hint:Int) (h_9:Heap):Prop:=
 BIf wasBalanced (BIf wasPartitioned (PIf (hint=1)
 (CallsH P 92 #[.slice dataA dataN dataC,.int .i64 a1,.int .i64 b1] h_9 fun v5 h_10=>
 ∃ (t2:Bool),v5=(.bool t2)/\BIf t2 (R (.tuple #[]) h_10) (J76_4 P dataA dataN dataC a1 b1 wasBalanced wasPartitioned next_ limit2 pivot h_10))
 (J76_4 P dataA dataN dataC a1 b1 wasBalanced wasPartitioned next_ limit2 pivot h_9)) (J76_4 P dataA dataN dataC a1 b1 wasBalanced wasPartitioned next_ limit2 pivot h_9)) (J76_4 P dataA dataN dataC a1 b1 wasBalanced wasPartitioned next_ limit2 pivot h_9)
def J76_2  (P:Program) (R:Value->Heap->Prop) (dataA:(Option Addr)) (dataN dataC:Nat) (a1 b1:Int) (wasBalanced wasPartitioned:Bool) (next_:(Int×Int×Int×Bool×Bool->Heap->Prop)) (limit2:Int) (h_6:Heap):Prop:=
 CallsH P 90 #[.slice dataA dataN dataC,.int .i64 a1,.int .i64 b1] h_6 fun v3 h_7=>
 ∃ (t t1:Int),v3=(.tuple #[.int .i64 t,.int .i64 t1])/\PIf (t1=2)
 (CallsH P 91 #[.slice dataA dataN dataC,.int .i64 a1,.int .i64 b1] h_7 fun v4 h_8=>
 v4=(.tuple #[])/\J76_3 P R dataA dataN dataC a1 b1 wasBalanced wasPartitioned next_ limit2 ((IntKind.wrap .i64 ((IntKind.wrap .i64 (b1-1))-(IntKind.wrap .i64 (t-a1))))) (1) h_8)
 (J76_3 P R dataA dataN dataC a1 b1 wasBalanced wasPartitioned next_ limit2 (t) (t1) h_7)
def J76_1  (P:Program) (R:Value->Heap->Prop) (dataA:(Option Addr)) (dataN dataC:Nat) (a1 b1 limit1:Int) (wasBalanced wasPartitioned:Bool) (next_:(Int×Int×Int×Bool×Bool->Heap->Prop)) (h_4:Heap):Prop:=
 BIf (!wasBalanced) (CallsH P 89 #[.slice dataA dataN dataC,.int .i64 a1,.int .i64 b1] h_4 fun v2 h_5=>
 v2=(.tuple #[])/\J76_2 P R dataA dataN dataC a1 b1 wasBalanced wasPartitioned next_ (IntKind.wrap .i64 (limit1-1)) h_5) (J76_2 P R dataA dataN dataC a1 b1 wasBalanced wasPartitioned next_ (limit1) h_4)
def J76_0  (P:Program) (R:Value->Heap->Prop) (dataA:(Option Addr)) (dataN dataC:Nat) (a1 b1 limit1:Int) (wasBalanced wasPartitioned:Bool) (next_:(Int×Int×Int×Bool×Bool->Heap->Prop)) (h_2:Heap):Prop:=
 PIf (limit1=0)
 (CallsH P 88 #[.slice dataA dataN dataC,.int .i64 a1,.int .i64 b1] h_2 fun v1 h_3=>
 v1=(.tuple #[])/\R (.tuple #[]) h_3)
 (J76_1 P R dataA dataN dataC a1 b1 limit1 wasBalanced wasPartitioned next_ h_2)
def B76_6 (P:Program) (R:Value->Heap->Prop) (dataA:(Option Addr)) (dataN dataC:Nat) (a1 b1 limit1:Int) (wasBalanced wasPartitioned:Bool) (h_:Heap) (next_:Int×Int×Int×Bool×Bool->Heap->Prop):Prop:=
 PIf (((IntKind.wrap .i64 (b1-a1)):Int)≤12)
 (CallsH P 87 #[.slice dataA dataN dataC,.int .i64 a1,.int .i64 b1] h_ fun v h_1=>
 v=(.tuple #[])/\R (.tuple #[]) h_1)
 (J76_0 P R dataA dataN dataC a1 b1 limit1 wasBalanced wasPartitioned next_ h_)
def VC76 (P:Program) (dataA:Option Addr) (dataN dataC:Nat) (a b limit:Int) (R:Value->Heap->Prop) (h:Heap):Prop:=
 LoopT (σ:=Int×Int×Int×Bool×Bool) (fun st_ h_st nx_st=>B76_6 P R dataA dataN dataC (st_.1) (st_.2.1) (st_.2.2.1) (st_.2.2.2.1) (st_.2.2.2.2) h_st nx_st) (a,b,limit,true,true) h
theorem vc76 (P:Program) (dataA:Option Addr) (dataN dataC:Nat) (a b limit:Int) (R:Value->Heap->Prop) (h:Heap):fnC P ret76 code76 [.slice dataA dataN dataC,.int .i64 a,.int .i64 b,.int .i64 limit] h R=VC76 P dataA dataN dataC a b limit R h:=by kernel_rfl
theorem run76 (dataA:Option Addr) (dataN dataC:Nat) (a b limit:Int) (R:Value->Heap->Prop) (h:Heap) (hv:VC76 Try.prog dataA dataN dataC a b limit R h):CallsH Try.prog 76 #[.slice dataA dataN dataC,.int .i64 a,.int .i64 b,.int .i64 limit] h R:=calls_of_fnC (Checked.mixed Try.checked) Try.func76 comp76 (Nat.le_of_ble_eq_true rfl) (by rw [vc76];exact hv)
def loops87:List (List (Nat×Shp)):=[[(6,.int .i64)],[(7,.int .i64)]]
noncomputable def code87:SCode:=((compF Try.prog Try.f87 loops87).elim .skip fun x=>x.2.2)
def ret87:List RV:=[]
theorem comp87:compF Try.prog Try.f87 loops87=some (49,ret87,code87):=by kernel_rfl
def J87_2  (dataA:(Option Addr)) (dataN:Nat) (j:Int) (next_1:(Int->Heap->Prop)) (h_4:Heap):Prop:=
 0≤((IntKind.wrap .i64 (j-1)):Int)/\((IntKind.wrap .i64 (j-1)):Int)<(dataN:Nat)/\AtP dataA fun ad2=>∃ (t3:Int),cellH h_4 (Addr.add ad2 (Int.toNat (IntKind.wrap .i64 (j-1))*1))=some (.int .i64 t3)/\0≤j/\j<(dataN:Nat)/\AtP dataA fun ad3=>∃ (t4:Int),cellH h_4 (Addr.add ad3 (Int.toNat j*1))=some (.int .i64 t4)/\0≤j/\j<(dataN:Nat)/\AtP dataA fun ad4=>StoreH h_4 (Addr.add ad4 (Int.toNat j*1)) [.int .i64 t3] fun h_5=>0≤((IntKind.wrap .i64 (j-1)):Int)/\((IntKind.wrap .i64 (j-1)):Int)<(dataN:Nat)/\AtP dataA fun ad5=>StoreH h_5 (Addr.add ad5 (Int.toNat (IntKind.wrap .i64 (j-1))*1)) [.int .i64 t4] fun h_6=>next_1 (IntKind.wrap .i64 (j-1)) h_6
def J87_1  (i:Int) (next_:(Int->Heap->Prop)) (h_7:Heap):Prop:=
 next_ (IntKind.wrap .i64 (i+1)) h_7
def B87_3 (P:Program) (dataA:(Option Addr)) (dataN:Nat) (a i:Int) (next_:(Int->Heap->Prop)) (j:Int) (h_2:Heap) (next_1:Int->Heap->Prop):Prop:=
 PIf (a<j)
 (0≤j/\j<(dataN:Nat)/\AtP dataA fun ad=>∃ (t:Int),cellH h_2 (Addr.add ad (Int.toNat j*1))=some (.int .i64 t)/\0≤((IntKind.wrap .i64 (j-1)):Int)/\((IntKind.wrap .i64 (j-1)):Int)<(dataN:Nat)/\AtP dataA fun ad1=>∃ (t1:Int),cellH h_2 (Addr.add ad1 (Int.toNat (IntKind.wrap .i64 (j-1))*1))=some (.int .i64 t1)/\CallsH P 93 #[.int .i64 t,.int .i64 t1] h_2 fun v h_3=>
 ∃ (t2:Bool),v=(.bool t2)/\BIf t2 (J87_2 dataA dataN j next_1 h_3) (J87_1 i next_ h_3))
 (J87_1 i next_ h_2)
def J87_0  (P:Program) (dataA:(Option Addr)) (dataN:Nat) (a i:Int) (next_:(Int->Heap->Prop)) (h_1:Heap):Prop:=
 LoopT (σ:=Int) (fun st_ h_st nx_st=>B87_3 P dataA dataN a i next_ (st_) h_st nx_st) (i) h_1
def B87_4 (P:Program) (R:Value->Heap->Prop) (dataA:(Option Addr)) (dataN:Nat) (a b i:Int) (h_:Heap) (next_:Int->Heap->Prop):Prop:=
 PIf (i<b)
 (J87_0 P dataA dataN a i next_ h_)
 (R (.tuple #[]) h_)
def VC87 (P:Program) (dataA:Option Addr) (dataN dataC:Nat) (a b:Int) (R:Value->Heap->Prop) (h:Heap):Prop:=
 LoopT (σ:=Int) (fun st_ h_st nx_st=>B87_4 P R dataA dataN a b (st_) h_st nx_st) (IntKind.wrap .i64 (a+1)) h
theorem vc87 (P:Program) (dataA:Option Addr) (dataN dataC:Nat) (a b:Int) (R:Value->Heap->Prop) (h:Heap):fnC P ret87 code87 [.slice dataA dataN dataC,.int .i64 a,.int .i64 b] h R=VC87 P dataA dataN dataC a b R h:=by kernel_rfl
theorem run87 (dataA:Option Addr) (dataN dataC:Nat) (a b:Int) (R:Value->Heap->Prop) (h:Heap) (hv:VC87 Try.prog dataA dataN dataC a b R h):CallsH Try.prog 87 #[.slice dataA dataN dataC,.int .i64 a,.int .i64 b] h R:=calls_of_fnC (Checked.mixed Try.checked) Try.func87 comp87 (Nat.le_of_ble_eq_true rfl) (by rw [vc87];exact hv)
end Go.Proofs.Ytobageabpfkpcaa
