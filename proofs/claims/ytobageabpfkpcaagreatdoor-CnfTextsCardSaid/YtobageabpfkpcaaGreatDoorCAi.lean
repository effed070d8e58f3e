/- Words and facts that the claim's proof leans on. No condition. -/
import Derived.Test.YtobageabpfkpcaaGreatDoorHxV
import Derived.Test.YtobageabpfkpcaaGreatDoorChecked
set_option maxRecDepth 100000
set_option linter.unusedVariables false
namespace Go.Proofs.YtobageabpfkpcaaGreatDoor
open Go.Hx
def loops36:List (List (Nat×Shp)):=[[(6,.slice),(39,.int .i64)],[(6,.slice),(45,.int .i64)]]
noncomputable def code36:SCode:=((compF Tryz.prog Tryz.f36 loops36).elim .skip fun x=>x.2.2)
def ret36:List RV:=[.tmp 2,.tmp 3]
theorem comp36:compF Tryz.prog Tryz.f36 loops36=some (64,ret36,code36):=by kernel_rfl
def J36_5  (P:Program) (A5:(Option Addr)) (N5:Nat) (bA1:(Option Addr)) (bN1 bC1:Nat) (t5:Int) (next_1:((Option Addr×Nat×Nat)×Int->Heap->Prop)) (h_14:Heap):Prop:=
 0≤t5/\t5<(N5:Nat)/\AtP A5 fun ad1=>∃ (t6:Int),cellH h_14 (Addr.add ad1 (Int.toNat t5*1))=some (.int .i64 t6)/\CallsH P 70 #[.slice bA1 bN1 bC1,.int .i64 t6,.int .i64 10] h_14 fun v3 h_15=>
 ∃ (A6:Option Addr) (N6 C6:Nat),v3=(.slice A6 N6 C6)/\let h_16:Heap:=(h_15).push (.cells #[.int .u8 32] 5);∃ ys2:List Value,ReadL h_16 (some ⟨h_15.size,0,none⟩) ys2/\ys2.length=1*1/\AppS h_16 A6 N6 C6 5 1 1 #[.int .u8 0] ys2 1 fun apA2 apN2 apC2 h_17=>next_1 ((apA2,apN2,apC2),(IntKind.wrap .i64 (t5+1))) h_17
def J36_3  (t4:Int) (next_:((Option Addr×Nat×Nat)×Int->Heap->Prop)) (bA3:Option Addr) (bN3 bC3:Nat) (h_20:Heap):Prop:=
 next_ ((bA3,bN3,bC3),(IntKind.wrap .i64 (t4+1))) h_20
def J36_4  (R:Value->Heap->Prop) (t4:Int) (next_:((Option Addr×Nat×Nat)×Int->Heap->Prop)) (bA2:Option Addr) (bN2 bC2:Nat) (h_18:Heap):Prop:=
 AppS h_18 bA2 bN2 bC2 5 1 1 #[.int .u8 0] (bytesV (ByteArray.mk #[48,10])) (ByteArray.mk #[48,10]).size fun apA3 apN3 apC3 h_19=>PIf ((262144:Int)<((apN3:Nat):Int))
 (R (.tuple #[(.string (ByteArray.mk #[])),.int .i64 2]) h_19)
 (J36_3 t4 next_ (apA3) (apN3) (apC3) h_19)
def B36_7 (P:Program) (R:Value->Heap->Prop) (t4:Int) (next_:((Option Addr×Nat×Nat)×Int->Heap->Prop)) (A5:(Option Addr)) (N5:Nat) (bA1:Option Addr) (bN1 bC1:Nat) (t5:Int) (h_13:Heap) (next_1:(Option Addr×Nat×Nat)×Int->Heap->Prop):Prop:=
 PIf (t5<((N5:Nat):Int))
 (J36_5 P A5 N5 bA1 bN1 bC1 t5 next_1 h_13)
 (J36_4 R t4 next_ (bA1) (bN1) (bC1) h_13)
def J36_2  (P:Program) (R:Value->Heap->Prop) (A4:(Option Addr)) (N4:Nat) (bA:(Option Addr)) (bN bC:Nat) (t4:Int) (next_:((Option Addr×Nat×Nat)×Int->Heap->Prop)) (h_12:Heap):Prop:=
 0≤t4/\t4<(N4:Nat)/\AtP A4 fun ad=>∃ (A5:Option Addr) (N5 C5:Nat),cellH h_12 (Addr.add ad (Int.toNat t4*1))=some (.slice A5 N5 C5)/\LoopT (σ:=(Option Addr×Nat×Nat)×Int) (fun st_ h_st nx_st=>B36_7 P R t4 next_ A5 N5 (st_.1.1) (st_.1.2.1) (st_.1.2.2) (st_.2) h_st nx_st) ((bA,bN,bC),0) h_12
def J36_1  (R:Value->Heap->Prop) (bA4:Option Addr) (bN4 bC4:Nat) (h_21:Heap):Prop:=
 ∃ b:ByteArray,b.size=bN4/\ReadL h_21 bA4 (bytesV b)/\R (.tuple #[.string b,.int .i64 0]) h_21
def B36_9 (P:Program) (R:Value->Heap->Prop) (A4:(Option Addr)) (N4:Nat) (bA:Option Addr) (bN bC:Nat) (t4:Int) (h_11:Heap) (next_:(Option Addr×Nat×Nat)×Int->Heap->Prop):Prop:=
 PIf (t4<((N4:Nat):Int))
 (J36_2 P R A4 N4 bA bN bC t4 next_ h_11)
 (J36_1 R (bA) (bN) (bC) h_11)
def J36_0  (P:Program) (R:Value->Heap->Prop) (h h_2:Heap):Prop:=
 let h_3:Heap:=(h_2).push (.cells #[.int .u8 112,.int .u8 32,.int .u8 99,.int .u8 110,.int .u8 102,.int .u8 32] 5);StampH h_3 (some ⟨h_2.size,0,none⟩) fun h_4=>∃ (t3:Int),cellH h_4 (Addr.add ⟨h.size,0,none⟩ 0)=some (.int .i64 t3)/\CallsH P 70 #[(.slice (some ⟨h_2.size,0,none⟩) 6 6),.int .i64 t3,.int .i64 10] h_4 fun v1 h_5=>
 ∃ (A1:Option Addr) (N1 C1:Nat),v1=(.slice A1 N1 C1)/\let h_6:Heap:=(h_5).push (.cells #[.int .u8 32] 5);∃ ys:List Value,ReadL h_6 (some ⟨h_5.size,0,none⟩) ys/\ys.length=1*1/\AppS h_6 A1 N1 C1 5 1 1 #[.int .u8 0] ys 1 fun apA apN apC h_7=>∃ (A2:Option Addr) (N2 C2:Nat),cellH h_7 (Addr.add ⟨h.size,0,none⟩ 1)=some (.slice A2 N2 C2)/\CallsH P 70 #[.slice apA apN apC,(.int .i64 ((N2:Nat):Int)),.int .i64 10] h_7 fun v2 h_8=>
 ∃ (A3:Option Addr) (N3 C3:Nat),v2=(.slice A3 N3 C3)/\let h_9:Heap:=(h_8).push (.cells #[.int .u8 10] 5);∃ ys1:List Value,ReadL h_9 (some ⟨h_8.size,0,none⟩) ys1/\ys1.length=1*1/\AppS h_9 A3 N3 C3 5 1 1 #[.int .u8 0] ys1 1 fun apA1 apN1 apC1 h_10=>∃ (A4:Option Addr) (N4 C4:Nat),cellH h_10 (Addr.add ⟨h.size,0,none⟩ 1)=some (.slice A4 N4 C4)/\LoopT (σ:=(Option Addr×Nat×Nat)×Int) (fun st_ h_st nx_st=>B36_9 P R A4 N4 (st_.1.1) (st_.1.2.1) (st_.1.2.2) (st_.2) h_st nx_st) ((apA1,apN1,apC1),0) h_10
def VC36 (P:Program) (f:Int) (fA:Option Addr) (fN fC:Nat) (R:Value->Heap->Prop) (h:Heap):Prop:=
 let h_:Heap:=(h).push (.cells (Value.cells (.agg #[.int .i64 f,.slice fA fN fC])) 24);∃ (t:Int) (A:Option Addr) (N C:Nat),cellsH h_ ⟨h.size,0,none⟩ 0 [.int .i64 t,.slice A N C]/\CallsH P 34 #[(.agg #[.int .i64 t,.slice A N C])] h_ fun v h_1=>
 ∃ (t1 t2:Int),v=(.tuple #[.int .i64 t1,.int .i64 t2])/\PIf (t2=0)
 (J36_0 P R h h_1)
 (R (.tuple #[(.string (ByteArray.mk #[])),.int .i64 t2]) h_1)
theorem vc36 (P:Program) (f:Int) (fA:Option Addr) (fN fC:Nat) (R:Value->Heap->Prop) (h:Heap):fnC P ret36 code36 [(.agg #[.int .i64 f,.slice fA fN fC])] h R=VC36 P f fA fN fC R h:=by kernel_rfl
theorem run36 (f:Int) (fA:Option Addr) (fN fC:Nat) (R:Value->Heap->Prop) (h:Heap) (hv:VC36 Tryz.prog f fA fN fC R h):CallsH Tryz.prog 36 #[(.agg #[.int .i64 f,.slice fA fN fC])] h R:=calls_of_fnC (Checked.mixed Tryz.checked) Tryz.func36 comp36 (Nat.le_of_ble_eq_true rfl) (by rw [vc36];exact hv)
def loops37:List (List (Nat×Shp)):=[[(6,.slice),(7,.int .i64)],[(6,.slice),(8,.int .i64)]]
noncomputable def code37:SCode:=((compF Tryz.prog Tryz.f37 loops37).elim .skip fun x=>x.2.2)
def ret37:List RV:=[.tmp 2,.tmp 3]
theorem comp37:compF Tryz.prog Tryz.f37 loops37=some (65,ret37,code37):=by kernel_rfl
def J37_5  (P:Program) (h:Heap) (i:Int) (bA1:(Option Addr)) (bN1 bC1:Nat) (k:Int) (next_1:((Option Addr×Nat×Nat)×Int->Heap->Prop)) (h_9:Heap):Prop:=
 ∃ (A5:Option Addr) (N5 C5:Nat),cellH h_9 (Addr.add ⟨h.size,0,none⟩ 1)=some (.slice A5 N5 C5)/\0≤i/\i<(N5:Nat)/\AtP A5 fun ad1=>∃ (A6:Option Addr) (N6 C6:Nat),cellH h_9 (Addr.add ad1 (Int.toNat i*1))=some (.slice A6 N6 C6)/\0≤k/\k<(N6:Nat)/\AtP A6 fun ad2=>∃ (t6:Int),cellH h_9 (Addr.add ad2 (Int.toNat k*1))=some (.int .i64 t6)/\CallsH P 71 #[.int .i64 t6] h_9 fun v3 h_10=>
 ∃ (t7:ByteArray),v3=(.string t7)/\t7.size+(ByteArray.mk #[32]).size≤9223372036854775807/\AppS h_10 bA1 bN1 bC1 5 1 1 #[.int .u8 0] (bytesV (t7++(ByteArray.mk #[32]))) (t7++(ByteArray.mk #[32])).size fun apA apN apC h_11=>next_1 ((apA,apN,apC),(IntKind.wrap .i64 (k+1))) h_11
def J37_3  (i:Int) (next_:((Option Addr×Nat×Nat)×Int->Heap->Prop)) (bA3:Option Addr) (bN3 bC3:Nat) (h_14:Heap):Prop:=
 next_ ((bA3,bN3,bC3),(IntKind.wrap .i64 (i+1))) h_14
def J37_4  (R:Value->Heap->Prop) (i:Int) (next_:((Option Addr×Nat×Nat)×Int->Heap->Prop)) (bA2:Option Addr) (bN2 bC2:Nat) (h_12:Heap):Prop:=
 AppS h_12 bA2 bN2 bC2 5 1 1 #[.int .u8 0] (bytesV (ByteArray.mk #[48,10])) (ByteArray.mk #[48,10]).size fun apA1 apN1 apC1 h_13=>PIf ((262144:Int)<((apN1:Nat):Int))
 (R (.tuple #[(.string (ByteArray.mk #[])),.int .i64 2]) h_13)
 (J37_3 i next_ (apA1) (apN1) (apC1) h_13)
def B37_6 (P:Program) (R:Value->Heap->Prop) (h:Heap) (i:Int) (next_:((Option Addr×Nat×Nat)×Int->Heap->Prop)) (bA1:Option Addr) (bN1 bC1:Nat) (k:Int) (h_8:Heap) (next_1:(Option Addr×Nat×Nat)×Int->Heap->Prop):Prop:=
 ∃ (A3:Option Addr) (N3 C3:Nat),cellH h_8 (Addr.add ⟨h.size,0,none⟩ 1)=some (.slice A3 N3 C3)/\0≤i/\i<(N3:Nat)/\AtP A3 fun ad=>∃ (A4:Option Addr) (N4 C4:Nat),cellH h_8 (Addr.add ad (Int.toNat i*1))=some (.slice A4 N4 C4)/\PIf (k<((N4:Nat):Int))
 (J37_5 P h i bA1 bN1 bC1 k next_1 h_8)
 (J37_4 R i next_ (bA1) (bN1) (bC1) h_8)
def J37_2  (P:Program) (R:Value->Heap->Prop) (h:Heap) (bA:(Option Addr)) (bN bC:Nat) (i:Int) (next_:((Option Addr×Nat×Nat)×Int->Heap->Prop)) (h_7:Heap):Prop:=
 LoopT (σ:=(Option Addr×Nat×Nat)×Int) (fun st_ h_st nx_st=>B37_6 P R h i next_ (st_.1.1) (st_.1.2.1) (st_.1.2.2) (st_.2) h_st nx_st) ((bA,bN,bC),0) h_7
def J37_1  (R:Value->Heap->Prop) (bA4:Option Addr) (bN4 bC4:Nat) (h_15:Heap):Prop:=
 ∃ b:ByteArray,b.size=bN4/\ReadL h_15 bA4 (bytesV b)/\R (.tuple #[.string b,.int .i64 0]) h_15
def B37_7 (P:Program) (R:Value->Heap->Prop) (h:Heap) (bA:Option Addr) (bN bC:Nat) (i:Int) (h_6:Heap) (next_:(Option Addr×Nat×Nat)×Int->Heap->Prop):Prop:=
 ∃ (A2:Option Addr) (N2 C2:Nat),cellH h_6 (Addr.add ⟨h.size,0,none⟩ 1)=some (.slice A2 N2 C2)/\PIf (i<((N2:Nat):Int))
 (J37_2 P R h bA bN bC i next_ h_6)
 (J37_1 R (bA) (bN) (bC) h_6)
def J37_0  (P:Program) (R:Value->Heap->Prop) (h h_2:Heap):Prop:=
 (Addr.block (Addr.add ⟨h.size,0,none⟩ 0))<(h_2).size/\∃ (t3:Int),cellH h_2 (Addr.add ⟨h.size,0,none⟩ 0)=some (.int .i64 t3)/\CallsH P 71 #[.int .i64 t3] h_2 fun v1 h_3=>
 ∃ (t4:ByteArray),v1=(.string t4)/\AgreeH (h_2).size h_2 h_3/\(ByteArray.mk #[112,32,99,110,102,32]).size+t4.size≤9223372036854775807/\((ByteArray.mk #[112,32,99,110,102,32])++t4).size+(ByteArray.mk #[32]).size≤9223372036854775807/\(Addr.block (Addr.add ⟨h.size,0,none⟩ 1))<(h_2).size/\∃ (A1:Option Addr) (N1 C1:Nat),cellH h_3 (Addr.add ⟨h.size,0,none⟩ 1)=some (.slice A1 N1 C1)/\CallsH P 71 #[(.int .i64 ((N1:Nat):Int))] h_3 fun v2 h_4=>
 ∃ (t5:ByteArray),v2=(.string t5)/\AgreeH (h_2).size h_3 h_4/\(((ByteArray.mk #[112,32,99,110,102,32])++t4)++(ByteArray.mk #[32])).size+t5.size≤9223372036854775807/\((((ByteArray.mk #[112,32,99,110,102,32])++t4)++(ByteArray.mk #[32]))++t5).size+(ByteArray.mk #[10]).size≤9223372036854775807/\∀ cap:Nat,(((((ByteArray.mk #[112,32,99,110,102,32])++t4)++(ByteArray.mk #[32]))++t5)++(ByteArray.mk #[10])).size≤cap->let h_5:Heap:=(h_4).push (.cells (bytesV (((((ByteArray.mk #[112,32,99,110,102,32])++t4)++(ByteArray.mk #[32]))++t5)++(ByteArray.mk #[10]))++List.replicate (cap-(((((ByteArray.mk #[112,32,99,110,102,32])++t4)++(ByteArray.mk #[32]))++t5)++(ByteArray.mk #[10])).size) (Value.int .u8 0)).toArray 5 (cap,cap+1));AgreeH (h_2).size h_4 h_5/\LoopT (σ:=(Option Addr×Nat×Nat)×Int) (fun st_ h_st nx_st=>B37_7 P R h (st_.1.1) (st_.1.2.1) (st_.1.2.2) (st_.2) h_st nx_st) (((some ⟨h_4.size,0,none⟩),(((((ByteArray.mk #[112,32,99,110,102,32])++t4)++(ByteArray.mk #[32]))++t5)++(ByteArray.mk #[10])).size,cap),0) h_5
def VC37 (P:Program) (f:Int) (fA:Option Addr) (fN fC:Nat) (R:Value->Heap->Prop) (h:Heap):Prop:=
 let h_:Heap:=(h).push (.cells (Value.cells (.agg #[.int .i64 f,.slice fA fN fC])) 24);∃ (t:Int) (A:Option Addr) (N C:Nat),cellsH h_ ⟨h.size,0,none⟩ 0 [.int .i64 t,.slice A N C]/\CallsH P 35 #[(.agg #[.int .i64 t,.slice A N C])] h_ fun v h_1=>
 ∃ (t1 t2:Int),v=(.tuple #[.int .i64 t1,.int .i64 t2])/\PIf (t2=0)
 (J37_0 P R h h_1)
 (R (.tuple #[(.string (ByteArray.mk #[])),.int .i64 t2]) h_1)
theorem vc37 (P:Program) (f:Int) (fA:Option Addr) (fN fC:Nat) (R:Value->Heap->Prop) (h:Heap):fnC P ret37 code37 [(.agg #[.int .i64 f,.slice fA fN fC])] h R=VC37 P f fA fN fC R h:=by kernel_rfl
theorem run37 (f:Int) (fA:Option Addr) (fN fC:Nat) (R:Value->Heap->Prop) (h:Heap) (hv:VC37 Tryz.prog f fA fN fC R h):CallsH Tryz.prog 37 #[(.agg #[.int .i64 f,.slice fA fN fC])] h R:=calls_of_fnC (Checked.mixed Tryz.checked) Tryz.func37 comp37 (Nat.le_of_ble_eq_true rfl) (by rw [vc37];exact hv)
def loops7:List (List (Nat×Shp)):=[]
noncomputable def code7:SCode:=((compF Tryz.prog Tryz.f7 loops7).elim .skip fun x=>x.2.2)
def ret7:List RV:=[.tmp 2]
theorem comp7:compF Tryz.prog Tryz.f7 loops7=some (62,ret7,code7):=by kernel_rfl
def J7_0  (P:Program) (R:Value->Heap->Prop) (h h_2:Heap):Prop:=
 ∃ (t1:Int) (A:Option Addr) (N C:Nat),cellsH h_2 ⟨h.size,0,none⟩ 0 [.int .i64 t1,.slice A N C]/\CallsH P 17 #[(.agg #[.int .i64 t1,.slice A N C])] h_2 fun v1 h_3=>
 ∃ (t2:Int) (A1:Option Addr) (N1 C1:Nat),v1=(.agg #[.int .i64 t2,.slice A1 N1 C1])/\let h_4:Heap:=(h_3).push (.cells #[.int .i64 0,.slice none 0 0] 24);StoreH h_4 ⟨h_3.size,0,none⟩ [.int .i64 t2,.slice A1 N1 C1] fun h_5=>∃ (t3:Int) (A2:Option Addr) (N2 C2:Nat),cellsH h_5 ⟨h_3.size,0,none⟩ 0 [.int .i64 t3,.slice A2 N2 C2]/\CallsH P 34 #[(.agg #[.int .i64 t3,.slice A2 N2 C2])] h_5 fun v2 h_6=>
 ∃ (t4 t5:Int),v2=(.tuple #[.int .i64 t4,.int .i64 t5])/\∃ (t6:Int) (A3:Option Addr) (N3 C3:Nat),cellsH h_6 ⟨h.size,0,none⟩ 0 [.int .i64 t6,.slice A3 N3 C3]/\CallsH P 35 #[(.agg #[.int .i64 t6,.slice A3 N3 C3])] h_6 fun v3 h_7=>
 ∃ (t7 t8:Int),v3=(.tuple #[.int .i64 t7,.int .i64 t8])/\∃ (t9:Int) (A4:Option Addr) (N4 C4:Nat),cellsH h_7 ⟨h_3.size,0,none⟩ 0 [.int .i64 t9,.slice A4 N4 C4]/\CallsH P 36 #[(.agg #[.int .i64 t9,.slice A4 N4 C4])] h_7 fun v4 h_8=>
 ∃ (t10:ByteArray) (t11:Int),v4=(.tuple #[.string t10,.int .i64 t11])/\∃ (t12:Int) (A5:Option Addr) (N5 C5:Nat),cellsH h_8 ⟨h.size,0,none⟩ 0 [.int .i64 t12,.slice A5 N5 C5]/\CallsH P 37 #[(.agg #[.int .i64 t12,.slice A5 N5 C5])] h_8 fun v5 h_9=>
 ∃ (t13:ByteArray) (t14:Int),v5=(.tuple #[.string t13,.int .i64 t14])/\PIf (t4=t7)
 (PIf (t5=t8)
 (PIf ((t10:ByteArray)=t13)
 (PIf (t11=t14)
 (∃ (t15:Int) (A6:Option Addr) (N6 C6:Nat),cellsH h_9 ⟨h_3.size,0,none⟩ 0 [.int .i64 t15,.slice A6 N6 C6]/\∃ (t16:Int) (A7:Option Addr) (N7 C7:Nat),cellsH h_9 ⟨h.size,0,none⟩ 0 [.int .i64 t16,.slice A7 N7 C7]/\CallsH P 23 #[(.agg #[.int .i64 t15,.slice A6 N6 C6]),(.agg #[.int .i64 t16,.slice A7 N7 C7])] h_9 fun v6 h_10=>
 ∃ (t17:Bool),v6=(.bool t17)/\BIf t17 (CallsH P 16 #[] h_10 fun v7 h_11=>
 ∃ (t18:Bool),v7=(.bool t18)/\R (.bool t18) h_11) (R (.bool false) h_10))
 (R (.bool false) h_9))
 (R (.bool false) h_9))
 (R (.bool false) h_9))
 (R (.bool false) h_9)
def VC7 (P:Program) (f:Int) (fA:Option Addr) (fN fC:Nat) (R:Value->Heap->Prop) (h:Heap):Prop:=
 let h_:Heap:=(h).push (.cells (Value.cells (.agg #[.int .i64 f,.slice fA fN fC])) 24);CallsH P 33 #[] h_ fun v h_1=>
 ∃ (t:Bool),v=(.bool t)/\BIf (!t) (R (.bool false) h_1) (J7_0 P R h h_1)
theorem vc7 (P:Program) (f:Int) (fA:Option Addr) (fN fC:Nat) (R:Value->Heap->Prop) (h:Heap):fnC P ret7 code7 [(.agg #[.int .i64 f,.slice fA fN fC])] h R=VC7 P f fA fN fC R h:=by kernel_rfl
theorem run7 (f:Int) (fA:Option Addr) (fN fC:Nat) (R:Value->Heap->Prop) (h:Heap) (hv:VC7 Tryz.prog f fA fN fC R h):CallsH Tryz.prog 7 #[(.agg #[.int .i64 f,.slice fA fN fC])] h R:=calls_of_fnC (Checked.mixed Tryz.checked) Tryz.func7 comp7 (Nat.le_of_ble_eq_true rfl) (by rw [vc7];exact hv)
def loops71:List (List (Nat×Shp)):=[]
noncomputable def code71:SCode:=((compF Tryz.prog Tryz.f71 loops71).elim .skip fun x=>x.2.2)
def ret71:List RV:=[.tmp 2]
theorem comp71:compF Tryz.prog Tryz.f71 loops71=some (11,ret71,code71):=by kernel_rfl
def VC71 (P:Program) (n:Int) (R:Value->Heap->Prop) (h:Heap):Prop:=
 PIf (n<0)
 (CallsH P 107 #[(.int .i64 (IntKind.wrap .i64 (0-n)))] h fun v h_=>
 ∃ (t:ByteArray),v=(.string t)/\(ByteArray.mk #[45]).size+t.size≤9223372036854775807/\R (.string ((ByteArray.mk #[45])++t)) h_)
 (CallsH P 107 #[.int .i64 n] h fun v1 h_1=>
 ∃ (t1:ByteArray),v1=(.string t1)/\R (.string t1) h_1)
theorem vc71 (P:Program) (n:Int) (R:Value->Heap->Prop) (h:Heap):fnC P ret71 code71 [.int .i64 n] h R=VC71 P n R h:=by kernel_rfl
theorem run71 (n:Int) (R:Value->Heap->Prop) (h:Heap) (hv:VC71 Tryz.prog n R h):CallsH Tryz.prog 71 #[.int .i64 n] h R:=calls_of_fnC (Checked.mixed Tryz.checked) Tryz.func71 comp71 (Nat.le_of_ble_eq_true rfl) (by rw [vc71];exact hv)
end Go.Proofs.YtobageabpfkpcaaGreatDoor
