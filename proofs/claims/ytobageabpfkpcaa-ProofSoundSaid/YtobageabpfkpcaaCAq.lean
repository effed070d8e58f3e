/- Words and facts that the claim's proof leans on. No condition. -/
import Derived.Test.YtobageabpfkpcaaHxV
import Derived.Test.YtobageabpfkpcaaChecked
set_option maxRecDepth 100000
set_option linter.unusedVariables false
namespace Go.Proofs.Ytobageabpfkpcaa
open Go.Hx
def loops5:List (List (Nat×Shp)):=[[(13,.int .i64),(81,.int .i64)]]
noncomputable def code5:SCode:=((compF Try.prog Try.f5 loops5).elim .skip fun x=>x.2.2)
def ret5:List RV:=[.tmp 6]
theorem comp5:compF Try.prog Try.f5 loops5=some (144,ret5,code5):=by kernel_rfl
def J5_6  (cA:(Option Addr)) (cN:Nat) (vars t13:Int) (next_:(Int×Int->Heap->Prop)) (h_11:Heap):Prop:=
 0≤t13/\t13<(cN:Nat)/\AtP cA fun ad=>∃ (t14:Int),cellH h_11 (Addr.add ad (Int.toNat t13*1))=some (.int .i64 t14)/\next_ ((max ((max (vars:Int) t14):Int) (IntKind.wrap .i64 (0-t14))),(IntKind.wrap .i64 (t13+1))) h_11
def J5_9  (R:Value->Heap->Prop) (t10 t19 t22:Int) (h_22:Heap):Prop:=
 PIf (t10=1)
 (PIf (t19=t22)
 (R (.bool true) h_22)
 (PIf (t10=2)
 (PIf ((0:Int)<t19)
 (PIf ((0:Int)<t22)
 (PIf ((true:Bool)=true)
 (R (.bool true) h_22)
 (R (.bool false) h_22))
 (PIf ((true:Bool)=false)
 (R (.bool true) h_22)
 (R (.bool false) h_22)))
 (PIf ((0:Int)<t22)
 (PIf ((false:Bool)=true)
 (R (.bool true) h_22)
 (R (.bool false) h_22))
 (PIf ((false:Bool)=false)
 (R (.bool true) h_22)
 (R (.bool false) h_22))))
 (R (.bool false) h_22)))
 (PIf (t10=2)
 (PIf ((0:Int)<t19)
 (PIf ((0:Int)<t22)
 (PIf ((true:Bool)=true)
 (R (.bool true) h_22)
 (R (.bool false) h_22))
 (PIf ((true:Bool)=false)
 (R (.bool true) h_22)
 (R (.bool false) h_22)))
 (PIf ((0:Int)<t22)
 (PIf ((false:Bool)=true)
 (R (.bool true) h_22)
 (R (.bool false) h_22))
 (PIf ((false:Bool)=false)
 (R (.bool true) h_22)
 (R (.bool false) h_22))))
 (R (.bool false) h_22))
def J5_8  (P:Program) (R:Value->Heap->Prop) (h:Heap) (cA:(Option Addr)) (cN cC:Nat) (t10 vars1:Int) (h_13:Heap):Prop:=
 ∃ (A4:Option Addr) (N4 C4:Nat),cellH h_13 (Addr.add ⟨h.size,0,none⟩ 1)=some (.slice A4 N4 C4)/\let h_14:Heap:=(h_13).push (.cells #[.int .i64 0,.slice none 0 0] 24);StoreH h_14 ⟨h_13.size,0,none⟩ [.int .i64 vars1,.slice A4 N4 C4] fun h_15=>∃ (t15:Int) (A5:Option Addr) (N5 C5:Nat),cellsH h_15 ⟨h_13.size,0,none⟩ 0 [.int .i64 t15,.slice A5 N5 C5]/\let h_16:Heap:=(h_15).push (.cells #[.slice cA cN cC] 26);CallsH P 15 #[(.agg #[.int .i64 t15,.slice A5 N5 C5]),(.agg #[.int .i64 vars1,(.slice (some ⟨h_15.size,0,none⟩) 1 1)])] h_16 fun v4 h_17=>
 ∃ (t16:Int) (A6:Option Addr) (N6 C6:Nat) (t17:Int),v4=(.tuple #[(.agg #[.int .i64 t16,.slice A6 N6 C6]),.int .i64 t17])/\let h_18:Heap:=(h_17).push (.cells #[.int .i64 0,.slice none 0 0] 24);StoreH h_18 ⟨h_17.size,0,none⟩ [.int .i64 t16,.slice A6 N6 C6] fun h_19=>∃ (t18:Int) (A7:Option Addr) (N7 C7:Nat),cellsH h_19 ⟨h_13.size,0,none⟩ 0 [.int .i64 t18,.slice A7 N7 C7]/\CallsH P 13 #[(.agg #[.int .i64 t18,.slice A7 N7 C7])] h_19 fun v5 h_20=>
 ∃ (t19 t20:Int),v5=(.tuple #[.int .i64 t19,.int .i64 t20])/\∃ (t21:Int) (A8:Option Addr) (N8 C8:Nat),cellsH h_20 ⟨h_17.size,0,none⟩ 0 [.int .i64 t21,.slice A8 N8 C8]/\CallsH P 13 #[(.agg #[.int .i64 t21,.slice A8 N8 C8])] h_20 fun v6 h_21=>
 ∃ (t22 t23:Int),v6=(.tuple #[.int .i64 t22,.int .i64 t23])/\PIf (t17=0)
 (PIf (t20=0)
 (PIf (t23=0)
 (J5_9 R t10 t19 t22 h_21)
 (R (.bool false) h_21))
 (R (.bool false) h_21))
 (R (.bool false) h_21)
def J5_5  (P:Program) (R:Value->Heap->Prop) (h:Heap) (cA:(Option Addr)) (cN cC:Nat) (t10 vars1:Int) (h_12:Heap):Prop:=
 PIf ((12:Int)<vars1)
 (R (.bool true) h_12)
 (J5_8 P R h cA cN cC t10 vars1 h_12)
def B5_10 (P:Program) (R:Value->Heap->Prop) (h:Heap) (cA:(Option Addr)) (cN cC:Nat) (t10 vars t13:Int) (h_10:Heap) (next_:Int×Int->Heap->Prop):Prop:=
 PIf (t13<((cN:Nat):Int))
 (J5_6 cA cN vars t13 next_ h_10)
 (J5_5 P R h cA cN cC t10 (vars) h_10)
def J5_4  (P:Program) (R:Value->Heap->Prop) (h:Heap) (cA:(Option Addr)) (cN cC:Nat) (t10:Int) (h_9:Heap):Prop:=
 ∃ (t12:Int),cellH h_9 (Addr.add ⟨h.size,0,none⟩ 0)=some (.int .i64 t12)/\LoopT (σ:=Int×Int) (fun st_ h_st nx_st=>B5_10 P R h cA cN cC t10 (st_.1) (st_.2) h_st nx_st) (t12,0) h_9
def J5_3  (P:Program) (R:Value->Heap->Prop) (h:Heap) (cA:(Option Addr)) (cN cC:Nat) (h_7:Heap):Prop:=
 ∃ (t9:Int) (A3:Option Addr) (N3 C3:Nat),cellsH h_7 ⟨h.size,0,none⟩ 0 [.int .i64 t9,.slice A3 N3 C3]/\CallsH P 8 #[(.agg #[.int .i64 t9,.slice A3 N3 C3]),.slice cA cN cC] h_7 fun v3 h_8=>
 ∃ (t10 t11:Int),v3=(.tuple #[.int .i64 t10,.int .i64 t11])/\PIf (t11=0)
 (PIf (t10=0)
 (PIf (t10=0)
 (R (.bool true) h_8)
 (R (.bool false) h_8))
 (J5_4 P R h cA cN cC t10 h_8))
 (PIf (t10=0)
 (R (.bool true) h_8)
 (R (.bool false) h_8))
def J5_2  (P:Program) (R:Value->Heap->Prop) (h:Heap) (cA:(Option Addr)) (cN cC:Nat) (t3:Bool) (t5 t7:Int) (h_6:Heap):Prop:=
 PIf (t5=0)
 (BIf t3 (PIf ((0:Int)<t7)
 (R (.bool false) h_6)
 (J5_3 P R h cA cN cC h_6)) (J5_3 P R h cA cN cC h_6))
 (J5_3 P R h cA cN cC h_6)
def J5_1  (P:Program) (R:Value->Heap->Prop) (h:Heap) (lA:(Option Addr)) (lN lC:Nat) (cA:(Option Addr)) (cN cC:Nat) (h_3:Heap):Prop:=
 ∃ (t2:Int) (A1:Option Addr) (N1 C1:Nat),cellsH h_3 ⟨h.size,0,none⟩ 0 [.int .i64 t2,.slice A1 N1 C1]/\CallsH P 14 #[(.agg #[.int .i64 t2,.slice A1 N1 C1]),.slice lA lN lC] h_3 fun v1 h_4=>
 ∃ (t3:Bool) (t4 t5:Int),v1=(.tuple #[.bool t3,.int .i64 t4,.int .i64 t5])/\∃ (t6:Int) (A2:Option Addr) (N2 C2:Nat),cellsH h_4 ⟨h.size,0,none⟩ 0 [.int .i64 t6,.slice A2 N2 C2]/\CallsH P 13 #[(.agg #[.int .i64 t6,.slice A2 N2 C2])] h_4 fun v2 h_5=>
 ∃ (t7 t8:Int),v2=(.tuple #[.int .i64 t7,.int .i64 t8])/\PIf (t8=0)
 (J5_2 P R h cA cN cC t3 t5 t7 h_5)
 (PIf (t5=0)
 (R (.bool false) h_5)
 (R (.bool (!t3)) h_5))
def J5_0  (P:Program) (R:Value->Heap->Prop) (h:Heap) (lA:(Option Addr)) (lN lC:Nat) (cA:(Option Addr)) (cN cC:Nat) (h_2:Heap):Prop:=
 ∃ (t1:Int),cellH h_2 (Addr.add ⟨h.size,0,none⟩ 0)=some (.int .i64 t1)/\PIf ((10:Int)<t1)
 (R (.bool true) h_2)
 (∃ (A:Option Addr) (N C:Nat),cellH h_2 (Addr.add ⟨h.size,0,none⟩ 1)=some (.slice A N C)/\PIf ((1000:Int)<((N:Nat):Int))
 (R (.bool true) h_2)
 (J5_1 P R h lA lN lC cA cN cC h_2))
def VC5 (P:Program) (f:Int) (fA:Option Addr) (fN fC:Nat) (lA:Option Addr) (lN lC:Nat) (cA:Option Addr) (cN cC:Nat) (R:Value->Heap->Prop) (h:Heap):Prop:=
 let h_:Heap:=(h).push (.cells (Value.cells (.agg #[.int .i64 f,.slice fA fN fC])) 24);CallsH P 12 #[] h_ fun v h_1=>
 ∃ (t:Bool),v=(.bool t)/\BIf (!t) (R (.bool false) h_1) (J5_0 P R h lA lN lC cA cN cC h_1)
theorem vc5 (P:Program) (f:Int) (fA:Option Addr) (fN fC:Nat) (lA:Option Addr) (lN lC:Nat) (cA:Option Addr) (cN cC:Nat) (R:Value->Heap->Prop) (h:Heap):fnC P ret5 code5 [(.agg #[.int .i64 f,.slice fA fN fC]),.slice lA lN lC,.slice cA cN cC] h R=VC5 P f fA fN fC lA lN lC cA cN cC R h:=by kernel_rfl
theorem run5 (f:Int) (fA:Option Addr) (fN fC:Nat) (lA:Option Addr) (lN lC:Nat) (cA:Option Addr) (cN cC:Nat) (R:Value->Heap->Prop) (h:Heap) (hv:VC5 Try.prog f fA fN fC lA lN lC cA cN cC R h):CallsH Try.prog 5 #[(.agg #[.int .i64 f,.slice fA fN fC]),.slice lA lN lC,.slice cA cN cC] h R:=calls_of_fnC (Checked.mixed Try.checked) Try.func5 comp5 (Nat.le_of_ble_eq_true rfl) (by rw [vc5];exact hv)
def loops8:List (List (Nat×Shp)):=[]
noncomputable def code8:SCode:=((compF Try.prog Try.f8 loops8).elim .skip fun x=>x.2.2)
def ret8:List RV:=[.tmp 4,.tmp 5]
theorem comp8:compF Try.prog Try.f8 loops8=some (27,ret8,code8):=by kernel_rfl
def J8_1  (P:Program) (R:Value->Heap->Prop) (h:Heap) (cA:(Option Addr)) (cN cC:Nat) (h_4:Heap):Prop:=
 ∃ (t4:Int) (A1:Option Addr) (N1 C1:Nat),cellsH h_4 ⟨h.size,0,none⟩ 0 [.int .i64 t4,.slice A1 N1 C1]/\let h_5:Heap:=(h_4).push (.cells (Value.cells (.agg #[.int .i64 t4,.slice A1 N1 C1])) 49);CallsH P 19 #[(.pointer (some ⟨h_4.size,0,none⟩)),.slice cA cN cC] h_5 fun v2 h_6=>
 ∃ (t5:Int),v2=(.int .i64 t5)/\R (.tuple #[.int .i64 t5,.int .i64 0]) h_6
def J8_0  (P:Program) (R:Value->Heap->Prop) (h:Heap) (cA:(Option Addr)) (cN cC:Nat) (h_2:Heap):Prop:=
 CallsH P 18 #[.slice cA cN cC] h_2 fun v1 h_3=>
 ∃ (t3:Int),v1=(.int .i64 t3)/\PIf (t3=0)
 (J8_1 P R h cA cN cC h_3)
 (R (.tuple #[.int .i64 0,.int .i64 t3]) h_3)
def VC8 (P:Program) (f:Int) (fA:Option Addr) (fN fC:Nat) (cA:Option Addr) (cN cC:Nat) (R:Value->Heap->Prop) (h:Heap):Prop:=
 let h_:Heap:=(h).push (.cells (Value.cells (.agg #[.int .i64 f,.slice fA fN fC])) 24);∃ (t:Int) (A:Option Addr) (N C:Nat),cellsH h_ ⟨h.size,0,none⟩ 0 [.int .i64 t,.slice A N C]/\CallsH P 17 #[(.agg #[.int .i64 t,.slice A N C])] h_ fun v h_1=>
 ∃ (t1 t2:Int),v=(.tuple #[.int .i64 t1,.int .i64 t2])/\PIf (t2=0)
 (J8_0 P R h cA cN cC h_1)
 (R (.tuple #[.int .i64 0,.int .i64 t2]) h_1)
theorem vc8 (P:Program) (f:Int) (fA:Option Addr) (fN fC:Nat) (cA:Option Addr) (cN cC:Nat) (R:Value->Heap->Prop) (h:Heap):fnC P ret8 code8 [(.agg #[.int .i64 f,.slice fA fN fC]),.slice cA cN cC] h R=VC8 P f fA fN fC cA cN cC R h:=by kernel_rfl
theorem run8 (f:Int) (fA:Option Addr) (fN fC:Nat) (cA:Option Addr) (cN cC:Nat) (R:Value->Heap->Prop) (h:Heap) (hv:VC8 Try.prog f fA fN fC cA cN cC R h):CallsH Try.prog 8 #[(.agg #[.int .i64 f,.slice fA fN fC]),.slice cA cN cC] h R:=calls_of_fnC (Checked.mixed Try.checked) Try.func8 comp8 (Nat.le_of_ble_eq_true rfl) (by rw [vc8];exact hv)
end Go.Proofs.Ytobageabpfkpcaa
