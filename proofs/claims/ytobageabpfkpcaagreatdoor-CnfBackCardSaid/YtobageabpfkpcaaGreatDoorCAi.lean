/- Words and facts that the claim's proof leans on. No condition. -/
import Derived.Test.YtobageabpfkpcaaGreatDoorHxV
import Derived.Test.YtobageabpfkpcaaGreatDoorChecked
set_option maxRecDepth 100000
set_option linter.unusedVariables false
namespace Go.Proofs.YtobageabpfkpcaaGreatDoor
open Go.Hx
def loops36:List (List (Nat×Shp)):=[[(6,.slice),(39,.int .i64)],[(6,.slice),(45,.int .i64)]]
noncomputable def code36:SCode:=((compF Tryz.prog Tryz.f36 loops36).elim .skip fun x=>x.2.2)
def ret36:List RV:=[.tmp 2,.tmp 3]
theorem comp36:compF Tryz.prog Tryz.f36 loops36=some (64,ret36,code36):=by kernel_rfl
def J36_5  (P:Program) (A5:(Option Addr)) (N5:Nat) (bA1:(Option Addr)) (bN1 bC1:Nat) (t5:Int) (next_1:((Option Addr×Nat×Nat)×Int->Heap->Prop)) (h_14:Heap):Prop:=
 0≤t5/\t5<(N5:Nat)/\AtP A5 fun ad1=>∃ (t6:Int),cellH h_14 (Addr.add ad1 (Int.toNat t5*1))=some (.int .i64 t6)/\CallsH P 70 #[.slice bA1 bN1 bC1,.int .i64 t6,.int .i64 10] h_14 fun v3 h_15=>
 ∃ (A6:Option Addr) (N6 C6:Nat),v3=(.slice A6 N6 C6)/\let h_16:Heap:=(h_15).push (.cells #[.int .u8 32] 5);∃ ys2:List Value,ReadL h_16 (some ⟨h_15.size,0,none⟩) ys2/\ys2.length=1*1/\AppS h_16 A6 N6 C6 5 1 1 #[.int .u8 0] ys2 1 fun apA2 apN2 apC2 h_17=>next_1 ((apA2,apN2,apC2),(IntKind.wrap .i64 (t5+1))) h_17
def J36_3  (t4:Int) (next_:((Option Addr×Nat×Nat)×Int->Heap->Prop)) (bA3:Option Addr) (bN3 bC3:Nat) (h_20:Heap):Prop:=
 next_ ((bA3,bN3,bC3),(IntKind.wrap .i64 (t4+1))) h_20
def J36_4  (R:Value->Heap->Prop) (t4:Int) (next_:((Option Addr×Nat×Nat)×Int->Heap->Prop)) (bA2:Option Addr) (bN2 bC2:Nat) (h_18:Heap):Prop:=
 AppS h_18 bA2 bN2 bC2 5 1 1 #[.int .u8 0] (bytesV (ByteArray.mk #[48,10])) (ByteArray.mk #[48,10]).size fun apA3 apN3 apC3 h_19=>PIf ((262144:Int)<((apN3:Nat):Int))
 (R (.tuple #[(.string (ByteArray.mk #[])),.int .i64 2]) h_19)
 (J36_3 t4 next_ (apA3) (apN3) (apC3) h_19)
def B36_7 (P:Program) (R:Value->Heap->Prop) (t4:Int) (next_:((Option Addr×Nat×Nat)×Int->Heap->Prop)) (A5:(Option Addr)) (N5:Nat) (bA1:Option Addr) (bN1 bC1:Nat) (t5:Int) (h_13:Heap) (next_1:(Option Addr×Nat×Nat)×Int->Heap->Prop):Prop:=
 PIf (t5<((N5:Nat):Int))
 (J36_5 P A5 N5 bA1 bN1 bC1 t5 next_1 h_13)
 (J36_4 R t4 next_ (bA1) (bN1) (bC1) h_13)
def J36_2  (P:Program) (R:Value->Heap->Prop) (A4:(Option Addr)) (N4:Nat) (bA:(Option Addr)) (bN bC:Nat) (t4:Int) (next_:((Option Addr×Nat×Nat)×Int->Heap->Prop)) (h_12:Heap):Prop:=
 0≤t4/\t4<(N4:Nat)/\AtP A4 fun ad=>∃ (A5:Option Addr) (N5 C5:Nat),cellH h_12 (Addr.add ad (Int.toNat t4*1))=some (.slice A5 N5 C5)/\LoopT (σ:=(Option Addr×Nat×Nat)×Int) (fun st_ h_st nx_st=>B36_7 P R t4 next_ A5 N5 (st_.1.1) (st_.1.2.1) (st_.1.2.2) (st_.2) h_st nx_st) ((bA,bN,bC),0) h_12
def J36_1  (R:Value->Heap->Prop) (bA4:Option Addr) (bN4 bC4:Nat) (h_21:Heap):Prop:=
 ∃ b:ByteArray,b.size=bN4/\ReadL h_21 bA4 (bytesV b)/\R (.tuple #[.string b,.int .i64 0]) h_21
def B36_9 (P:Program) (R:Value->Heap->Prop) (A4:(Option Addr)) (N4:Nat) (bA:Option Addr) (bN bC:Nat) (t4:Int) (h_11:Heap) (next_:(Option Addr×Nat×Nat)×Int->Heap->Prop):Prop:=
 PIf (t4<((N4:Nat):Int))
 (J36_2 P R A4 N4 bA bN bC t4 next_ h_11)
 (J36_1 R (bA) (bN) (bC) h_11)
def J36_0  (P:Program) (R:Value->Heap->Prop) (h h_2:Heap):Prop:=
 let h_3:Heap:=(h_2).push (.cells #[.int .u8 112,.int .u8 32,.int .u8 99,.int .u8 110,.int .u8 102,.int .u8 32] 5);StampH h_3 (some ⟨h_2.size,0,none⟩) fun h_4=>∃ (t3:Int),cellH h_4 (Addr.add ⟨h.size,0,none⟩ 0)=some (.int .i64 t3)/\CallsH P 70 #[(.slice (some ⟨h_2.size,0,none⟩) 6 6),.int .i64 t3,.int .i64 10] h_4 fun v1 h_5=>
 ∃ (A1:Option Addr) (N1 C1:Nat),v1=(.slice A1 N1 C1)/\let h_6:Heap:=(h_5).push (.cells #[.int .u8 32] 5);∃ ys:List Value,ReadL h_6 (some ⟨h_5.size,0,none⟩) ys/\ys.length=1*1/\AppS h_6 A1 N1 C1 5 1 1 #[.int .u8 0] ys 1 fun apA apN apC h_7=>∃ (A2:Option Addr) (N2 C2:Nat),cellH h_7 (Addr.add ⟨h.size,0,none⟩ 1)=some (.slice A2 N2 C2)/\CallsH P 70 #[.slice apA apN apC,(.int .i64 ((N2:Nat):Int)),.int .i64 10] h_7 fun v2 h_8=>
 ∃ (A3:Option Addr) (N3 C3:Nat),v2=(.slice A3 N3 C3)/\let h_9:Heap:=(h_8).push (.cells #[.int .u8 10] 5);∃ ys1:List Value,ReadL h_9 (some ⟨h_8.size,0,none⟩) ys1/\ys1.length=1*1/\AppS h_9 A3 N3 C3 5 1 1 #[.int .u8 0] ys1 1 fun apA1 apN1 apC1 h_10=>∃ (A4:Option Addr) (N4 C4:Nat),cellH h_10 (Addr.add ⟨h.size,0,none⟩ 1)=some (.slice A4 N4 C4)/\LoopT (σ:=(Option Addr×Nat×Nat)×Int) (fun st_ h_st nx_st=>B36_9 P R A4 N4 (st_.1.1) (st_.1.2.1) (st_.1.2.2) (st_.2) h_st nx_st) ((apA1,apN1,apC1),0) h_10
def VC36 (P:Program) (f:Int) (fA:Option Addr) (fN fC:Nat) (R:Value->Heap->Prop) (h:Heap):Prop:=
 let h_:Heap:=(h).push (.cells (Value.cells (.agg #[.int .i64 f,.slice fA fN fC])) 24);∃ (t:Int) (A:Option Addr) (N C:Nat),cellsH h_ ⟨h.size,0,none⟩ 0 [.int .i64 t,.slice A N C]/\CallsH P 34 #[(.agg #[.int .i64 t,.slice A N C])] h_ fun v h_1=>
 ∃ (t1 t2:Int),v=(.tuple #[.int .i64 t1,.int .i64 t2])/\PIf (t2=0)
 (J36_0 P R h h_1)
 (R (.tuple #[(.string (ByteArray.mk #[])),.int .i64 t2]) h_1)
theorem vc36 (P:Program) (f:Int) (fA:Option Addr) (fN fC:Nat) (R:Value->Heap->Prop) (h:Heap):fnC P ret36 code36 [(.agg #[.int .i64 f,.slice fA fN fC])] h R=VC36 P f fA fN fC R h:=by kernel_rfl
theorem run36 (f:Int) (fA:Option Addr) (fN fC:Nat) (R:Value->Heap->Prop) (h:Heap) (hv:VC36 Tryz.prog f fA fN fC R h):CallsH Tryz.prog 36 #[(.agg #[.int .i64 f,.slice fA fN fC])] h R:=calls_of_fnC (Checked.mixed Tryz.checked) Tryz.func36 comp36 (Nat.le_of_ble_eq_true rfl) (by rw [vc36];exact hv)
def loops9:List (List (Nat×Shp)):=[]
noncomputable def code9:SCode:=((compF Tryz.prog Tryz.f9 loops9).elim .skip fun x=>x.2.2)
def ret9:List RV:=[.tmp 2]
theorem comp9:compF Tryz.prog Tryz.f9 loops9=some (51,ret9,code9):=by kernel_rfl
def J9_1  (P:Program) (R:Value->Heap->Prop) (h:Heap) (t2:ByteArray) (h_5:Heap):Prop:=
 CallsH P 12 #[.string t2] h_5 fun v3 h_6=>
 ∃ (t7:Int) (A2:Option Addr) (N2 C2:Nat) (t8 t9:Int),v3=(.tuple #[(.agg #[.int .i64 t7,.slice A2 N2 C2]),(.agg #[.int .i64 t8,.int .i64 t9])])/\let h_7:Heap:=(h_6).push (.cells #[.int .i64 0,.slice none 0 0] 24);let h_8:Heap:=(h_7).push (.cells #[.int .i64 0,.int .i64 0] 27);StoreH h_8 ⟨h_6.size,0,none⟩ [.int .i64 t7,.slice A2 N2 C2] fun h_9=>StoreH h_9 ⟨h_7.size,0,none⟩ [.int .i64 t8,.int .i64 t9] fun h_10=>∃ (t10 t11:Int),cellsH h_10 ⟨h_7.size,0,none⟩ 0 [.int .i64 t10,.int .i64 t11]/\PIf ((#[.int .i64 t10,.int .i64 t11]:Array Value)=#[.int .i64 0,.int .i64 0])
 (∃ (t12:Int) (A3:Option Addr) (N3 C3:Nat),cellsH h_10 ⟨h.size,0,none⟩ 0 [.int .i64 t12,.slice A3 N3 C3]/\∃ (t13:Int) (A4:Option Addr) (N4 C4:Nat),cellsH h_10 ⟨h_6.size,0,none⟩ 0 [.int .i64 t13,.slice A4 N4 C4]/\CallsH P 39 #[(.agg #[.int .i64 t12,.slice A3 N3 C3]),(.agg #[.int .i64 t13,.slice A4 N4 C4])] h_10 fun v4 h_11=>
 ∃ (t14:Bool),v4=(.bool t14)/\R (.bool t14) h_11)
 (R (.bool false) h_10)
def J9_0  (P:Program) (R:Value->Heap->Prop) (h h_2:Heap):Prop:=
 ∃ (t1:Int) (A:Option Addr) (N C:Nat),cellsH h_2 ⟨h.size,0,none⟩ 0 [.int .i64 t1,.slice A N C]/\CallsH P 36 #[(.agg #[.int .i64 t1,.slice A N C])] h_2 fun v1 h_3=>
 ∃ (t2:ByteArray) (t3:Int),v1=(.tuple #[.string t2,.int .i64 t3])/\PIf (t3=0)
 (J9_1 P R h t2 h_3)
 (∃ (t4:Int) (A1:Option Addr) (N1 C1:Nat),cellsH h_3 ⟨h.size,0,none⟩ 0 [.int .i64 t4,.slice A1 N1 C1]/\CallsH P 34 #[(.agg #[.int .i64 t4,.slice A1 N1 C1])] h_3 fun v2 h_4=>
 ∃ (t5 t6:Int),v2=(.tuple #[.int .i64 t5,.int .i64 t6])/\PIf ((t2:ByteArray)=(ByteArray.mk #[]))
 (PIf (t6=t3)
 (R (.bool true) h_4)
 (PIf (t6=0)
 (PIf (t3=2)
 (R (.bool true) h_4)
 (R (.bool false) h_4))
 (R (.bool false) h_4)))
 (R (.bool false) h_4))
def VC9 (P:Program) (f:Int) (fA:Option Addr) (fN fC:Nat) (R:Value->Heap->Prop) (h:Heap):Prop:=
 let h_:Heap:=(h).push (.cells (Value.cells (.agg #[.int .i64 f,.slice fA fN fC])) 24);CallsH P 16 #[] h_ fun v h_1=>
 ∃ (t:Bool),v=(.bool t)/\BIf (!t) (R (.bool false) h_1) (J9_0 P R h h_1)
theorem vc9 (P:Program) (f:Int) (fA:Option Addr) (fN fC:Nat) (R:Value->Heap->Prop) (h:Heap):fnC P ret9 code9 [(.agg #[.int .i64 f,.slice fA fN fC])] h R=VC9 P f fA fN fC R h:=by kernel_rfl
theorem run9 (f:Int) (fA:Option Addr) (fN fC:Nat) (R:Value->Heap->Prop) (h:Heap) (hv:VC9 Tryz.prog f fA fN fC R h):CallsH Tryz.prog 9 #[(.agg #[.int .i64 f,.slice fA fN fC])] h R:=calls_of_fnC (Checked.mixed Tryz.checked) Tryz.func9 comp9 (Nat.le_of_ble_eq_true rfl) (by rw [vc9];exact hv)
end Go.Proofs.YtobageabpfkpcaaGreatDoor
