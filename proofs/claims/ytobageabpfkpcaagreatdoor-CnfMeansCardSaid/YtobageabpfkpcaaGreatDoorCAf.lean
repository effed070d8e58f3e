/- Words and facts that the claim's proof leans on. No condition. -/
import Derived.Test.YtobageabpfkpcaaGreatDoorHxV
import Derived.Test.YtobageabpfkpcaaGreatDoorChecked
set_option maxRecDepth 100000
set_option linter.unusedVariables false
namespace Go.Proofs.YtobageabpfkpcaaGreatDoor
open Go.Hx
def loops38:List (List (Nat×Shp)):=[[(53,.int .i64)]]
noncomputable def code38:SCode:=((compF Tryz.prog Tryz.f38 loops38).elim .skip fun x=>x.2.2)
def ret38:List RV:=[.cellN 4 [.int .i64,.slice],.tmp 5]
theorem comp38:compF Tryz.prog Tryz.f38 loops38=some (66,ret38,code38):=by kernel_rfl
def J38_4  (P:Program) (h_10:Heap) (A9:(Option Addr)) (N9:Nat) (t11:Int) (next_:(Int->Heap->Prop)) (h_16:Heap):Prop:=
 0≤t11/\t11<(N9:Nat)/\AtP A9 fun ad=>∃ (A10:Option Addr) (N10 C10:Nat),cellH h_16 (Addr.add ad (Int.toNat t11*1))=some (.slice A10 N10 C10)/\(Addr.block (Addr.add ⟨h_10.size,0,none⟩ 1))<(h_16).size/\∃ (A11:Option Addr) (N11 C11:Nat),cellH h_16 (Addr.add ⟨h_10.size,0,none⟩ 1)=some (.slice A11 N11 C11)/\CallsH P 73 #[.slice A10 N10 C10] h_16 fun v3 h_17=>
 ∃ (A12:Option Addr) (N12 C12:Nat),v3=(.slice A12 N12 C12)/\AgreeH (h_16).size h_16 h_17/\let h_18:Heap:=(h_17).push (.cells #[.slice A12 N12 C12] 65);AgreeH (h_16).size h_17 h_18/\∃ ys:List Value,ReadL h_18 (some ⟨h_17.size,0,none⟩) ys/\ys.length=1*1/\AppS h_18 A11 N11 C11 65 24 1 #[.slice none 0 0] ys 1 fun apA apN apC h_19=>StoreH h_19 (Addr.add ⟨h_10.size,0,none⟩ 1) [.slice apA apN apC] fun h_20=>next_ (IntKind.wrap .i64 (t11+1)) h_20
def J38_3  (R:Value->Heap->Prop) (h_1 h_10 h_21:Heap):Prop:=
 ∃ (t12:Int) (A13:Option Addr) (N13 C13:Nat),cellsH h_21 ⟨h_10.size,0,none⟩ 0 [.int .i64 t12,.slice A13 N13 C13]/\StoreH h_21 ⟨h_1.size,0,none⟩ [.int .i64 t12,.slice A13 N13 C13] fun h_22=>∃ (t13:Int) (A14:Option Addr) (N14 C14:Nat),cellsH h_22 ⟨h_1.size,0,none⟩ 0 [.int .i64 t13,.slice A14 N14 C14]/\R (.tuple #[(.agg #[.int .i64 t13,.slice A14 N14 C14]),.int .i64 0]) h_22
def B38_6 (P:Program) (R:Value->Heap->Prop) (h_1 h_10:Heap) (A9:(Option Addr)) (N9:Nat) (t11:Int) (h_15:Heap) (next_:Int->Heap->Prop):Prop:=
 PIf (t11<((N9:Nat):Int))
 (J38_4 P h_10 A9 N9 t11 next_ h_15)
 (J38_3 R h_1 h_10 h_15)
def J38_2  (P:Program) (R:Value->Heap->Prop) (h h_ h_1 h_10:Heap):Prop:=
 ∃ (t9:Int),cellH h_10 (Addr.add ⟨h.size,0,none⟩ 0)=some (.int .i64 t9)/\∃ (t10:Int),cellH h_10 (Addr.add ⟨h_.size,0,none⟩ 0)=some (.int .i64 t10)/\let h_11:Heap:=(h_10).push (.cells #[.int .i64 0,.slice none 0 0] 24);StoreH h_11 ⟨h_10.size,0,none⟩ [(.int .i64 (max (t9:Int) t10)),.slice none 0 0] fun h_12=>∃ (A7:Option Addr) (N7 C7:Nat),cellH h_12 (Addr.add ⟨h.size,0,none⟩ 1)=some (.slice A7 N7 C7)/\∃ (A8:Option Addr) (N8 C8:Nat),cellH h_12 (Addr.add ⟨h_.size,0,none⟩ 1)=some (.slice A8 N8 C8)/\let h_13:Heap:=(h_12).push (.cells #[.slice A7 N7 C7,.slice A8 N8 C8] 22);CallsH P 72 #[(.slice (some ⟨h_12.size,0,none⟩) 2 2)] h_13 fun v2 h_14=>
 ∃ (A9:Option Addr) (N9 C9:Nat),v2=(.slice A9 N9 C9)/\LoopT (σ:=Int) (fun st_ h_st nx_st=>B38_6 P R h_1 h_10 A9 N9 (st_) h_st nx_st) (0) h_14
def J38_1  (P:Program) (R:Value->Heap->Prop) (h h_ h_1 h_8:Heap):Prop:=
 ∃ (A4:Option Addr) (N4 C4:Nat),cellH h_8 (Addr.add ⟨h.size,0,none⟩ 1)=some (.slice A4 N4 C4)/\∃ (A5:Option Addr) (N5 C5:Nat),cellH h_8 (Addr.add ⟨h_.size,0,none⟩ 1)=some (.slice A5 N5 C5)/\PIf ((524288:Int)<(IntKind.wrap .i64 (((N4:Nat):Int)+((N5:Nat):Int))))
 (StoreH h_8 ⟨h_1.size,0,none⟩ [.int .i64 0,.slice none 0 0] fun h_9=>∃ (t8:Int) (A6:Option Addr) (N6 C6:Nat),cellsH h_9 ⟨h_1.size,0,none⟩ 0 [.int .i64 t8,.slice A6 N6 C6]/\R (.tuple #[(.agg #[.int .i64 t8,.slice A6 N6 C6]),.int .i64 2]) h_9)
 (J38_2 P R h h_ h_1 h_8)
def J38_0  (P:Program) (R:Value->Heap->Prop) (h h_ h_1 h_5:Heap):Prop:=
 ∃ (t4:Int) (A2:Option Addr) (N2 C2:Nat),cellsH h_5 ⟨h_.size,0,none⟩ 0 [.int .i64 t4,.slice A2 N2 C2]/\CallsH P 34 #[(.agg #[.int .i64 t4,.slice A2 N2 C2])] h_5 fun v1 h_6=>
 ∃ (t5 t6:Int),v1=(.tuple #[.int .i64 t5,.int .i64 t6])/\PIf (t6=0)
 (J38_1 P R h h_ h_1 h_6)
 (StoreH h_6 ⟨h_1.size,0,none⟩ [.int .i64 0,.slice none 0 0] fun h_7=>∃ (t7:Int) (A3:Option Addr) (N3 C3:Nat),cellsH h_7 ⟨h_1.size,0,none⟩ 0 [.int .i64 t7,.slice A3 N3 C3]/\R (.tuple #[(.agg #[.int .i64 t7,.slice A3 N3 C3]),.int .i64 t6]) h_7)
def VC38 (P:Program) (a:Int) (aA:Option Addr) (aN aC:Nat) (b:Int) (bA:Option Addr) (bN bC:Nat) (R:Value->Heap->Prop) (h:Heap):Prop:=
 let h_:Heap:=(h).push (.cells (Value.cells (.agg #[.int .i64 a,.slice aA aN aC])) 24);let h_1:Heap:=(h_).push (.cells (Value.cells (.agg #[.int .i64 b,.slice bA bN bC])) 24);let h_2:Heap:=(h_1).push (.cells #[.int .i64 0,.slice none 0 0] 24);∃ (t:Int) (A:Option Addr) (N C:Nat),cellsH h_2 ⟨h.size,0,none⟩ 0 [.int .i64 t,.slice A N C]/\CallsH P 34 #[(.agg #[.int .i64 t,.slice A N C])] h_2 fun v h_3=>
 ∃ (t1 t2:Int),v=(.tuple #[.int .i64 t1,.int .i64 t2])/\PIf (t2=0)
 (J38_0 P R h h_ h_1 h_3)
 (StoreH h_3 ⟨h_1.size,0,none⟩ [.int .i64 0,.slice none 0 0] fun h_4=>∃ (t3:Int) (A1:Option Addr) (N1 C1:Nat),cellsH h_4 ⟨h_1.size,0,none⟩ 0 [.int .i64 t3,.slice A1 N1 C1]/\R (.tuple #[(.agg #[.int .i64 t3,.slice A1 N1 C1]),.int .i64 t2]) h_4)
theorem vc38 (P:Program) (a:Int) (aA:Option Addr) (aN aC:Nat) (b:Int) (bA:Option Addr) (bN bC:Nat) (R:Value->Heap->Prop) (h:Heap):fnC P ret38 code38 [(.agg #[.int .i64 a,.slice aA aN aC]),(.agg #[.int .i64 b,.slice bA bN bC])] h R=VC38 P a aA aN aC b bA bN bC R h:=by kernel_rfl
theorem run38 (a:Int) (aA:Option Addr) (aN aC:Nat) (b:Int) (bA:Option Addr) (bN bC:Nat) (R:Value->Heap->Prop) (h:Heap) (hv:VC38 Tryz.prog a aA aN aC b bA bN bC R h):CallsH Tryz.prog 38 #[(.agg #[.int .i64 a,.slice aA aN aC]),(.agg #[.int .i64 b,.slice bA bN bC])] h R:=calls_of_fnC (Checked.mixed Tryz.checked) Tryz.func38 comp38 (Nat.le_of_ble_eq_true rfl) (by rw [vc38];exact hv)
def loops72:List (List (Nat×Shp)):=[[(3,.int .i64),(11,.int .i64)],[(6,.slice),(27,.int .i64)]]
noncomputable def code72:SCode:=((compF Tryz.prog Tryz.f72 loops72).elim .skip fun x=>x.2.2)
def ret72:List RV:=[.tmp 2]
theorem comp72:compF Tryz.prog Tryz.f72 loops72=some (36,ret72,code72):=by kernel_rfl
def J72_1  (slicesA:(Option Addr)) (slicesN:Nat) (size t:Int) (next_:(Int×Int->Heap->Prop)) (h_1:Heap):Prop:=
 0≤t/\t<(slicesN:Nat)/\AtP slicesA fun ad=>∃ (A:Option Addr) (N C:Nat),cellH h_1 (Addr.add ad (Int.toNat t*1))=some (.slice A N C)/\PIf (((IntKind.wrap .i64 (size+((N:Nat):Int))):Int)<0)
 (False)
 (next_ ((IntKind.wrap .i64 (size+((N:Nat):Int))),(IntKind.wrap .i64 (t+1))) h_1)
def J72_4  (slicesA:(Option Addr)) (slicesN:Nat) (newsliceA:(Option Addr)) (newsliceN newsliceC:Nat) (t1:Int) (next_1:((Option Addr×Nat×Nat)×Int->Heap->Prop)) (h_5:Heap):Prop:=
 0≤t1/\t1<(slicesN:Nat)/\AtP slicesA fun ad1=>∃ (A2:Option Addr) (N2 C2:Nat),cellH h_5 (Addr.add ad1 (Int.toNat t1*1))=some (.slice A2 N2 C2)/\∃ ys:List Value,ReadL h_5 A2 ys/\ys.length=N2*1/\AppS h_5 newsliceA newsliceN newsliceC 65 24 1 #[.slice none 0 0] ys N2 fun apA apN apC h_6=>next_1 ((apA,apN,apC),(IntKind.wrap .i64 (t1+1))) h_6
def J72_3  (R:Value->Heap->Prop) (newsliceA1:Option Addr) (newsliceN1 newsliceC1:Nat) (h_7:Heap):Prop:=
 R (.slice newsliceA1 newsliceN1 newsliceC1) h_7
def B72_6 (R:Value->Heap->Prop) (slicesA:(Option Addr)) (slicesN:Nat) (newsliceA:Option Addr) (newsliceN newsliceC:Nat) (t1:Int) (h_4:Heap) (next_1:(Option Addr×Nat×Nat)×Int->Heap->Prop):Prop:=
 PIf (t1<((slicesN:Nat):Int))
 (J72_4 slicesA slicesN newsliceA newsliceN newsliceC t1 next_1 h_4)
 (J72_3 R (newsliceA) (newsliceN) (newsliceC) h_4)
def J72_0  (P:Program) (R:Value->Heap->Prop) (slicesA:(Option Addr)) (slicesN:Nat) (size1:Int) (h_2:Heap):Prop:=
 CallsH P 108 #[.slice none 0 0,.int .i64 size1] h_2 fun v h_3=>
 ∃ (A1:Option Addr) (N1 C1:Nat),v=(.slice A1 N1 C1)/\LoopT (σ:=(Option Addr×Nat×Nat)×Int) (fun st_ h_st nx_st=>B72_6 R slicesA slicesN (st_.1.1) (st_.1.2.1) (st_.1.2.2) (st_.2) h_st nx_st) ((A1,N1,C1),0) h_3
def B72_7 (P:Program) (R:Value->Heap->Prop) (slicesA:(Option Addr)) (slicesN:Nat) (size t:Int) (h_:Heap) (next_:Int×Int->Heap->Prop):Prop:=
 PIf (t<((slicesN:Nat):Int))
 (J72_1 slicesA slicesN size t next_ h_)
 (J72_0 P R slicesA slicesN (size) h_)
def VC72 (P:Program) (slicesA:Option Addr) (slicesN slicesC:Nat) (R:Value->Heap->Prop) (h:Heap):Prop:=
 LoopT (σ:=Int×Int) (fun st_ h_st nx_st=>B72_7 P R slicesA slicesN (st_.1) (st_.2) h_st nx_st) (0,0) h
theorem vc72 (P:Program) (slicesA:Option Addr) (slicesN slicesC:Nat) (R:Value->Heap->Prop) (h:Heap):fnC P ret72 code72 [.slice slicesA slicesN slicesC] h R=VC72 P slicesA slicesN slicesC R h:=by kernel_rfl
theorem run72 (slicesA:Option Addr) (slicesN slicesC:Nat) (R:Value->Heap->Prop) (h:Heap) (hv:VC72 Tryz.prog slicesA slicesN slicesC R h):CallsH Tryz.prog 72 #[.slice slicesA slicesN slicesC] h R:=calls_of_fnC (Checked.mixed Tryz.checked) Tryz.func72 comp72 (Nat.le_of_ble_eq_true rfl) (by rw [vc72];exact hv)
def loops73:List (List (Nat×Shp)):=[]
noncomputable def code73:SCode:=((compF Tryz.prog Tryz.f73 loops73).elim .skip fun x=>x.2.2)
def ret73:List RV:=[.tmp 2]
theorem comp73:compF Tryz.prog Tryz.f73 loops73=some (8,ret73,code73):=by kernel_rfl
def VC73 (P:Program) (sA:Option Addr) (sN sC:Nat) (R:Value->Heap->Prop) (h:Heap):Prop:=
 PIf ((sA:Option Addr)=none)
 (R (.slice none 0 0) h)
 (let h_:Heap:=(h).push (.cells #[] 3);∃ ys:List Value,ReadL h_ sA ys/\ys.length=sN*1/\AppS h_ (some ⟨h.size,0,none⟩) 0 0 3 8 1 #[.int .i64 0] ys sN fun apA apN apC h_1=>R (.slice apA apN apC) h_1)
theorem vc73 (P:Program) (sA:Option Addr) (sN sC:Nat) (R:Value->Heap->Prop) (h:Heap):fnC P ret73 code73 [.slice sA sN sC] h R=VC73 P sA sN sC R h:=by kernel_rfl
theorem run73 (sA:Option Addr) (sN sC:Nat) (R:Value->Heap->Prop) (h:Heap) (hv:VC73 Tryz.prog sA sN sC R h):CallsH Tryz.prog 73 #[.slice sA sN sC] h R:=calls_of_fnC (Checked.mixed Tryz.checked) Tryz.func73 comp73 (Nat.le_of_ble_eq_true rfl) (by rw [vc73];exact hv)
def loops108:List (List (Nat×Shp)):=[]
noncomputable def code108:SCode:=((compF Tryz.prog Tryz.f108 loops108).elim .skip fun x=>x.2.2)
def ret108:List RV:=[.tmp 4]
theorem comp108:compF Tryz.prog Tryz.f108 loops108=some (27,ret108,code108):=by kernel_rfl
def J108_0  (R:Value->Heap->Prop) (sA:(Option Addr)) (sN sC:Nat) (n:Int) (h_:Heap):Prop:=
 PIf ((0:Int)<(IntKind.wrap .i64 (n-(IntKind.wrap .i64 (((sC:Nat):Int)-((sN:Nat):Int))))))
 (0≤(0:Int)/\(0:Int)≤((sC:Nat):Int)/\(((sC:Nat):Int):Int)≤(sC:Nat)/\0≤((IntKind.wrap .i64 (n-(IntKind.wrap .i64 (((sC:Nat):Int)-((sN:Nat):Int))))):Int)/\((IntKind.wrap .i64 (n-(IntKind.wrap .i64 (((sC:Nat):Int)-((sN:Nat):Int))))):Int)*24≤140737488355328/\AppS h_ (cutA 1 sA sC (Int.toNat 0)) (Int.toNat ((sC:Nat):Int)-Int.toNat 0) (sC-Int.toNat 0) 65 24 1 #[.slice none 0 0] (zeroRow #[.slice none 0 0] (Int.toNat (IntKind.wrap .i64 (n-(IntKind.wrap .i64 (((sC:Nat):Int)-((sN:Nat):Int)))))*1)) (Int.toNat (IntKind.wrap .i64 (n-(IntKind.wrap .i64 (((sC:Nat):Int)-((sN:Nat):Int)))))) fun apA apN apC h_1=>0≤(0:Int)/\(0:Int)≤((sN:Nat):Int)/\(((sN:Nat):Int):Int)≤(apC:Nat)/\R (.slice (cutA 1 apA apC (Int.toNat 0)) (Int.toNat ((sN:Nat):Int)-Int.toNat 0) (apC-Int.toNat 0)) h_1)
 (R (.slice sA sN sC) h_)
def VC108 (P:Program) (sA:Option Addr) (sN sC:Nat) (n:Int) (R:Value->Heap->Prop) (h:Heap):Prop:=
 PIf (n<0)
 (False)
 (J108_0 R sA sN sC n h)
theorem vc108 (P:Program) (sA:Option Addr) (sN sC:Nat) (n:Int) (R:Value->Heap->Prop) (h:Heap):fnC P ret108 code108 [.slice sA sN sC,.int .i64 n] h R=VC108 P sA sN sC n R h:=by kernel_rfl
theorem run108 (sA:Option Addr) (sN sC:Nat) (n:Int) (R:Value->Heap->Prop) (h:Heap) (hv:VC108 Tryz.prog sA sN sC n R h):CallsH Tryz.prog 108 #[.slice sA sN sC,.int .i64 n] h R:=calls_of_fnC (Checked.mixed Tryz.checked) Tryz.func108 comp108 (Nat.le_of_ble_eq_true rfl) (by rw [vc108];exact hv)
end Go.Proofs.YtobageabpfkpcaaGreatDoor
