/- Words and facts that the claim's proof leans on. No condition. -/
import Derived.Test.YtobageabpfkpcaaHxV
import Derived.Test.YtobageabpfkpcaaChecked
set_option maxRecDepth 100000
set_option linter.unusedVariables false
namespace Go.Proofs.Ytobageabpfkpcaa
open Go.Hx
def loops4:List (List (Nat×Shp)):=[[(5,.slice),(6,.int .i64)],[(5,.slice),(7,.int .i64)],[(8,.slice),(9,.int .i64)]]
noncomputable def code4:SCode:=((compF Try.prog Try.f4 loops4).elim .skip fun x=>x.2.2)
def ret4:List RV:=[.tmp 2]
theorem comp4:compF Try.prog Try.f4 loops4=some (92,ret4,code4):=by kernel_rfl
def J4_9  (i:Int) (cA:(Option Addr)) (cN cC:Nat) (v2:Int) (next_2:((Option Addr×Nat×Nat)×Int->Heap->Prop)) (h_11:Heap):Prop:=
 0≤v2/\PIf (((bop .and .i64 (i / 2 ^ min (Int.toNat v2) (IntKind.bits .i64)) 1):Int)=1)
 (let h_12:Heap:=(h_11).push (.cells #[(.int .i64 (IntKind.wrap .i64 (v2+1)))] 3);∃ ys:List Value,ReadL h_12 (some ⟨h_11.size,0,none⟩) ys/\ys.length=1*1/\AppS h_12 cA cN cC 3 8 1 #[.int .i64 0] ys 1 fun apA apN apC h_13=>next_2 ((apA,apN,apC),(IntKind.wrap .i64 (v2+1))) h_13)
 (let h_14:Heap:=(h_11).push (.cells #[(.int .i64 (IntKind.wrap .i64 ((IntKind.wrap .i64 (0-v2))-1)))] 3);∃ ys1:List Value,ReadL h_14 (some ⟨h_11.size,0,none⟩) ys1/\ys1.length=1*1/\AppS h_14 cA cN cC 3 8 1 #[.int .i64 0] ys1 1 fun apA1 apN1 apC1 h_15=>next_2 ((apA1,apN1,apC1),(IntKind.wrap .i64 (v2+1))) h_15)
def J4_7  (i:Int) (next_1:((Option Addr×Nat×Nat)×Int->Heap->Prop)) (lA2:Option Addr) (lN2 lC2:Nat) (h_19:Heap):Prop:=
 next_1 ((lA2,lN2,lC2),(IntKind.wrap .i64 (i+1))) h_19
def J4_8  (lA1:(Option Addr)) (lN1 lC1:Nat) (i:Int) (next_1:((Option Addr×Nat×Nat)×Int->Heap->Prop)) (cA1:Option Addr) (cN1 cC1:Nat) (h_16:Heap):Prop:=
 let h_17:Heap:=(h_16).push (.cells #[.bool false,.slice cA1 cN1 cC1] 39);∃ ys2:List Value,ReadL h_17 (some ⟨h_16.size,0,none⟩) ys2/\ys2.length=1*2/\AppS h_17 lA1 lN1 lC1 39 32 2 #[.bool false,.slice none 0 0] ys2 1 fun apA2 apN2 apC2 h_18=>J4_7 i next_1 (apA2) (apN2) (apC2) h_18
def B4_10 (k:Int) (lA1:(Option Addr)) (lN1 lC1:Nat) (i:Int) (next_1:((Option Addr×Nat×Nat)×Int->Heap->Prop)) (cA:Option Addr) (cN cC:Nat) (v2:Int) (h_10:Heap) (next_2:(Option Addr×Nat×Nat)×Int->Heap->Prop):Prop:=
 PIf (v2<k)
 (J4_9 i cA cN cC v2 next_2 h_10)
 (J4_8 lA1 lN1 lC1 i next_1 (cA) (cN) (cC) h_10)
def J4_6  (k:Int) (lA1:(Option Addr)) (lN1 lC1:Nat) (i:Int) (next_1:((Option Addr×Nat×Nat)×Int->Heap->Prop)) (h_9:Heap):Prop:=
 LoopT (σ:=(Option Addr×Nat×Nat)×Int) (fun st_ h_st nx_st=>B4_10 k lA1 lN1 lC1 i next_1 (st_.1.1) (st_.1.2.1) (st_.1.2.2) (st_.2) h_st nx_st) ((none,0,0),0) h_9
def J4_5  (k:Int) (next_:((Option Addr×Nat×Nat)×Int->Heap->Prop)) (lA3:Option Addr) (lN3 lC3:Nat) (h_20:Heap):Prop:=
 next_ ((lA3,lN3,lC3),(IntKind.wrap .i64 (k-1))) h_20
def B4_11 (k:Int) (next_:((Option Addr×Nat×Nat)×Int->Heap->Prop)) (lA1:Option Addr) (lN1 lC1:Nat) (i:Int) (h_8:Heap) (next_1:(Option Addr×Nat×Nat)×Int->Heap->Prop):Prop:=
 0≤k/\PIf (i<(IntKind.wrap .i64 (1*2 ^ min (Int.toNat k) (IntKind.bits .i64))))
 (J4_6 k lA1 lN1 lC1 i next_1 h_8)
 (J4_5 k next_ (lA1) (lN1) (lC1) h_8)
def J4_4  (lA:(Option Addr)) (lN lC:Nat) (k:Int) (next_:((Option Addr×Nat×Nat)×Int->Heap->Prop)) (h_7:Heap):Prop:=
 LoopT (σ:=(Option Addr×Nat×Nat)×Int) (fun st_ h_st nx_st=>B4_11 k next_ (st_.1.1) (st_.1.2.1) (st_.1.2.2) (st_.2) h_st nx_st) ((lA,lN,lC),0) h_7
def J4_3  (P:Program) (R:Value->Heap->Prop) (h:Heap) (lA4:Option Addr) (lN4 lC4:Nat) (h_21:Heap):Prop:=
 ∃ (t6:Int) (A1:Option Addr) (N1 C1:Nat),cellsH h_21 ⟨h.size,0,none⟩ 0 [.int .i64 t6,.slice A1 N1 C1]/\CallsH P 14 #[(.agg #[.int .i64 t6,.slice A1 N1 C1]),.slice lA4 lN4 lC4] h_21 fun v3 h_22=>
 ∃ (t7:Bool) (t8 t9:Int),v3=(.tuple #[.bool t7,.int .i64 t8,.int .i64 t9])/\PIf (t9=0)
 (BIf t7 (PIf (t8=(IntKind.wrap .i64 (((lN4:Nat):Int)-1)))
 (R (.bool true) h_22)
 (R (.bool false) h_22)) (R (.bool false) h_22))
 (R (.bool false) h_22)
def B4_12 (P:Program) (R:Value->Heap->Prop) (h:Heap) (lA:Option Addr) (lN lC:Nat) (k:Int) (h_6:Heap) (next_:(Option Addr×Nat×Nat)×Int->Heap->Prop):Prop:=
 PIf ((0:Int)≤k)
 (J4_4 lA lN lC k next_ h_6)
 (J4_3 P R h (lA) (lN) (lC) h_6)
def J4_2  (P:Program) (R:Value->Heap->Prop) (h h_5:Heap):Prop:=
 ∃ (t5:Int),cellH h_5 (Addr.add ⟨h.size,0,none⟩ 0)=some (.int .i64 t5)/\LoopT (σ:=(Option Addr×Nat×Nat)×Int) (fun st_ h_st nx_st=>B4_12 P R h (st_.1.1) (st_.1.2.1) (st_.1.2.2) (st_.2) h_st nx_st) ((none,0,0),t5) h_5
def J4_1  (P:Program) (R:Value->Heap->Prop) (h h_3:Heap):Prop:=
 ∃ (t2:Int) (A:Option Addr) (N C:Nat),cellsH h_3 ⟨h.size,0,none⟩ 0 [.int .i64 t2,.slice A N C]/\CallsH P 13 #[(.agg #[.int .i64 t2,.slice A N C])] h_3 fun v1 h_4=>
 ∃ (t3 t4:Int),v1=(.tuple #[.int .i64 t3,.int .i64 t4])/\PIf (t4=0)
 (PIf ((0:Int)<t3)
 (PIf (t4=0)
 (R (.bool true) h_4)
 (PIf (t3=0)
 (R (.bool true) h_4)
 (R (.bool false) h_4)))
 (J4_2 P R h h_4))
 (PIf (t4=0)
 (R (.bool true) h_4)
 (PIf (t3=0)
 (R (.bool true) h_4)
 (R (.bool false) h_4)))
def J4_0  (P:Program) (R:Value->Heap->Prop) (h h_2:Heap):Prop:=
 ∃ (t1:Int),cellH h_2 (Addr.add ⟨h.size,0,none⟩ 0)=some (.int .i64 t1)/\PIf ((6:Int)<t1)
 (R (.bool true) h_2)
 (J4_1 P R h h_2)
def VC4 (P:Program) (f:Int) (fA:Option Addr) (fN fC:Nat) (R:Value->Heap->Prop) (h:Heap):Prop:=
 let h_:Heap:=(h).push (.cells (Value.cells (.agg #[.int .i64 f,.slice fA fN fC])) 24);CallsH P 12 #[] h_ fun v h_1=>
 ∃ (t:Bool),v=(.bool t)/\BIf (!t) (R (.bool false) h_1) (J4_0 P R h h_1)
theorem vc4 (P:Program) (f:Int) (fA:Option Addr) (fN fC:Nat) (R:Value->Heap->Prop) (h:Heap):fnC P ret4 code4 [(.agg #[.int .i64 f,.slice fA fN fC])] h R=VC4 P f fA fN fC R h:=by kernel_rfl
theorem run4 (f:Int) (fA:Option Addr) (fN fC:Nat) (R:Value->Heap->Prop) (h:Heap) (hv:VC4 Try.prog f fA fN fC R h):CallsH Try.prog 4 #[(.agg #[.int .i64 f,.slice fA fN fC])] h R:=calls_of_fnC (Checked.mixed Try.checked) Try.func4 comp4 (Nat.le_of_ble_eq_true rfl) (by rw [vc4];exact hv)
end Go.Proofs.Ytobageabpfkpcaa
