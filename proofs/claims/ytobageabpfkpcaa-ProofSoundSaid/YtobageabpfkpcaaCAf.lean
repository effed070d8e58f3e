/- Words and facts that the claim's proof leans on. No condition. -/
import Derived.Test.YtobageabpfkpcaaHxV
import Derived.Test.YtobageabpfkpcaaChecked
set_option maxRecDepth 100000
set_option linter.unusedVariables false
namespace Go.Proofs.Ytobageabpfkpcaa
open Go.Hx
def loops15:List (List (Nat×Shp)):=[[(53,.int .i64)]]
noncomputable def code15:SCode:=((compF Try.prog Try.f15 loops15).elim .skip fun x=>x.2.2)
def ret15:List RV:=[.cellN 4 [.int .i64,.slice],.tmp 5]
theorem comp15:compF Try.prog Try.f15 loops15=some (66,ret15,code15):=by kernel_rfl
def J15_4  (P:Program) (h_10:Heap) (A9:(Option Addr)) (N9:Nat) (t11:Int) (next_:(Int->Heap->Prop)) (h_16:Heap):Prop:=
 0≤t11/\t11<(N9:Nat)/\AtP A9 fun ad=>∃ (A10:Option Addr) (N10 C10:Nat),cellH h_16 (Addr.add ad (Int.toNat t11*1))=some (.slice A10 N10 C10)/\(Addr.block (Addr.add ⟨h_10.size,0,none⟩ 1))<(h_16).size/\∃ (A11:Option Addr) (N11 C11:Nat),cellH h_16 (Addr.add ⟨h_10.size,0,none⟩ 1)=some (.slice A11 N11 C11)/\CallsH P 29 #[.slice A10 N10 C10] h_16 fun v3 h_17=>
 ∃ (A12:Option Addr) (N12 C12:Nat),v3=(.slice A12 N12 C12)/\AgreeH (h_16).size h_16 h_17/\let h_18:Heap:=(h_17).push (.cells #[.slice A12 N12 C12] 26);AgreeH (h_16).size h_17 h_18/\∃ ys:List Value,ReadL h_18 (some ⟨h_17.size,0,none⟩) ys/\ys.length=1*1/\AppS h_18 A11 N11 C11 26 24 1 #[.slice none 0 0] ys 1 fun apA apN apC h_19=>StoreH h_19 (Addr.add ⟨h_10.size,0,none⟩ 1) [.slice apA apN apC] fun h_20=>next_ (IntKind.wrap .i64 (t11+1)) h_20
def J15_3  (R:Value->Heap->Prop) (h_1 h_10 h_21:Heap):Prop:=
 ∃ (t12:Int) (A13:Option Addr) (N13 C13:Nat),cellsH h_21 ⟨h_10.size,0,none⟩ 0 [.int .i64 t12,.slice A13 N13 C13]/\StoreH h_21 ⟨h_1.size,0,none⟩ [.int .i64 t12,.slice A13 N13 C13] fun h_22=>∃ (t13:Int) (A14:Option Addr) (N14 C14:Nat),cellsH h_22 ⟨h_1.size,0,none⟩ 0 [.int .i64 t13,.slice A14 N14 C14]/\R (.tuple #[(.agg #[.int .i64 t13,.slice A14 N14 C14]),.int .i64 0]) h_22
def B15_6 (P:Program) (R:Value->Heap->Prop) (h_1 h_10:Heap) (A9:(Option Addr)) (N9:Nat) (t11:Int) (h_15:Heap) (next_:Int->Heap->Prop):Prop:=
 PIf (t11<((N9:Nat):Int))
 (J15_4 P h_10 A9 N9 t11 next_ h_15)
 (J15_3 R h_1 h_10 h_15)
def J15_2  (P:Program) (R:Value->Heap->Prop) (h h_ h_1 h_10:Heap):Prop:=
 ∃ (t9:Int),cellH h_10 (Addr.add ⟨h.size,0,none⟩ 0)=some (.int .i64 t9)/\∃ (t10:Int),cellH h_10 (Addr.add ⟨h_.size,0,none⟩ 0)=some (.int .i64 t10)/\let h_11:Heap:=(h_10).push (.cells #[.int .i64 0,.slice none 0 0] 24);StoreH h_11 ⟨h_10.size,0,none⟩ [(.int .i64 (max (t9:Int) t10)),.slice none 0 0] fun h_12=>∃ (A7:Option Addr) (N7 C7:Nat),cellH h_12 (Addr.add ⟨h.size,0,none⟩ 1)=some (.slice A7 N7 C7)/\∃ (A8:Option Addr) (N8 C8:Nat),cellH h_12 (Addr.add ⟨h_.size,0,none⟩ 1)=some (.slice A8 N8 C8)/\let h_13:Heap:=(h_12).push (.cells #[.slice A7 N7 C7,.slice A8 N8 C8] 22);CallsH P 28 #[(.slice (some ⟨h_12.size,0,none⟩) 2 2)] h_13 fun v2 h_14=>
 ∃ (A9:Option Addr) (N9 C9:Nat),v2=(.slice A9 N9 C9)/\LoopT (σ:=Int) (fun st_ h_st nx_st=>B15_6 P R h_1 h_10 A9 N9 (st_) h_st nx_st) (0) h_14
def J15_1  (P:Program) (R:Value->Heap->Prop) (h h_ h_1 h_8:Heap):Prop:=
 ∃ (A4:Option Addr) (N4 C4:Nat),cellH h_8 (Addr.add ⟨h.size,0,none⟩ 1)=some (.slice A4 N4 C4)/\∃ (A5:Option Addr) (N5 C5:Nat),cellH h_8 (Addr.add ⟨h_.size,0,none⟩ 1)=some (.slice A5 N5 C5)/\PIf ((524288:Int)<(IntKind.wrap .i64 (((N4:Nat):Int)+((N5:Nat):Int))))
 (StoreH h_8 ⟨h_1.size,0,none⟩ [.int .i64 0,.slice none 0 0] fun h_9=>∃ (t8:Int) (A6:Option Addr) (N6 C6:Nat),cellsH h_9 ⟨h_1.size,0,none⟩ 0 [.int .i64 t8,.slice A6 N6 C6]/\R (.tuple #[(.agg #[.int .i64 t8,.slice A6 N6 C6]),.int .i64 2]) h_9)
 (J15_2 P R h h_ h_1 h_8)
def J15_0  (P:Program) (R:Value->Heap->Prop) (h h_ h_1 h_5:Heap):Prop:=
 ∃ (t4:Int) (A2:Option Addr) (N2 C2:Nat),cellsH h_5 ⟨h_.size,0,none⟩ 0 [.int .i64 t4,.slice A2 N2 C2]/\CallsH P 17 #[(.agg #[.int .i64 t4,.slice A2 N2 C2])] h_5 fun v1 h_6=>
 ∃ (t5 t6:Int),v1=(.tuple #[.int .i64 t5,.int .i64 t6])/\PIf (t6=0)
 (J15_1 P R h h_ h_1 h_6)
 (StoreH h_6 ⟨h_1.size,0,none⟩ [.int .i64 0,.slice none 0 0] fun h_7=>∃ (t7:Int) (A3:Option Addr) (N3 C3:Nat),cellsH h_7 ⟨h_1.size,0,none⟩ 0 [.int .i64 t7,.slice A3 N3 C3]/\R (.tuple #[(.agg #[.int .i64 t7,.slice A3 N3 C3]),.int .i64 t6]) h_7)
def VC15 (P:Program) (a:Int) (aA:Option Addr) (aN aC:Nat) (b:Int) (bA:Option Addr) (bN bC:Nat) (R:Value->Heap->Prop) (h:Heap):Prop:=
 let h_:Heap:=(h).push (.cells (Value.cells (.agg #[.int .i64 a,.slice aA aN aC])) 24);let h_1:Heap:=(h_).push (.cells (Value.cells (.agg #[.int .i64 b,.slice bA bN bC])) 24);let h_2:Heap:=(h_1).push (.cells #[.int .i64 0,.slice none 0 0] 24);∃ (t:Int) (A:Option Addr) (N C:Nat),cellsH h_2 ⟨h.size,0,none⟩ 0 [.int .i64 t,.slice A N C]/\CallsH P 17 #[(.agg #[.int .i64 t,.slice A N C])] h_2 fun v h_3=>
 ∃ (t1 t2:Int),v=(.tuple #[.int .i64 t1,.int .i64 t2])/\PIf (t2=0)
 (J15_0 P R h h_ h_1 h_3)
 (StoreH h_3 ⟨h_1.size,0,none⟩ [.int .i64 0,.slice none 0 0] fun h_4=>∃ (t3:Int) (A1:Option Addr) (N1 C1:Nat),cellsH h_4 ⟨h_1.size,0,none⟩ 0 [.int .i64 t3,.slice A1 N1 C1]/\R (.tuple #[(.agg #[.int .i64 t3,.slice A1 N1 C1]),.int .i64 t2]) h_4)
theorem vc15 (P:Program) (a:Int) (aA:Option Addr) (aN aC:Nat) (b:Int) (bA:Option Addr) (bN bC:Nat) (R:Value->Heap->Prop) (h:Heap):fnC P ret15 code15 [(.agg #[.int .i64 a,.slice aA aN aC]),(.agg #[.int .i64 b,.slice bA bN bC])] h R=VC15 P a aA aN aC b bA bN bC R h:=by kernel_rfl
theorem run15 (a:Int) (aA:Option Addr) (aN aC:Nat) (b:Int) (bA:Option Addr) (bN bC:Nat) (R:Value->Heap->Prop) (h:Heap) (hv:VC15 Try.prog a aA aN aC b bA bN bC R h):CallsH Try.prog 15 #[(.agg #[.int .i64 a,.slice aA aN aC]),(.agg #[.int .i64 b,.slice bA bN bC])] h R:=calls_of_fnC (Checked.mixed Try.checked) Try.func15 comp15 (Nat.le_of_ble_eq_true rfl) (by rw [vc15];exact hv)
def loops28:List (List (Nat×Shp)):=[[(3,.int .i64),(11,.int .i64)],[(6,.slice),(27,.int .i64)]]
noncomputable def code28:SCode:=((compF Try.prog Try.f28 loops28).elim .skip fun x=>x.2.2)
def ret28:List RV:=[.tmp 2]
theorem comp28:compF Try.prog Try.f28 loops28=some (36,ret28,code28):=by kernel_rfl
def J28_1  (slicesA:(Option Addr)) (slicesN:Nat) (size t:Int) (next_:(Int×Int->Heap->Prop)) (h_1:Heap):Prop:=
 0≤t/\t<(slicesN:Nat)/\AtP slicesA fun ad=>∃ (A:Option Addr) (N C:Nat),cellH h_1 (Addr.add ad (Int.toNat t*1))=some (.slice A N C)/\PIf (((IntKind.wrap .i64 (size+((N:Nat):Int))):Int)<0)
 (False)
 (next_ ((IntKind.wrap .i64 (size+((N:Nat):Int))),(IntKind.wrap .i64 (t+1))) h_1)
def J28_4  (slicesA:(Option Addr)) (slicesN:Nat) (newsliceA:(Option Addr)) (newsliceN newsliceC:Nat) (t1:Int) (next_1:((Option Addr×Nat×Nat)×Int->Heap->Prop)) (h_5:Heap):Prop:=
 0≤t1/\t1<(slicesN:Nat)/\AtP slicesA fun ad1=>∃ (A2:Option Addr) (N2 C2:Nat),cellH h_5 (Addr.add ad1 (Int.toNat t1*1))=some (.slice A2 N2 C2)/\∃ ys:List Value,ReadL h_5 A2 ys/\ys.length=N2*1/\AppS h_5 newsliceA newsliceN newsliceC 26 24 1 #[.slice none 0 0] ys N2 fun apA apN apC h_6=>next_1 ((apA,apN,apC),(IntKind.wrap .i64 (t1+1))) h_6
def J28_3  (R:Value->Heap->Prop) (newsliceA1:Option Addr) (newsliceN1 newsliceC1:Nat) (h_7:Heap):Prop:=
 R (.slice newsliceA1 newsliceN1 newsliceC1) h_7
def B28_6 (R:Value->Heap->Prop) (slicesA:(Option Addr)) (slicesN:Nat) (newsliceA:Option Addr) (newsliceN newsliceC:Nat) (t1:Int) (h_4:Heap) (next_1:(Option Addr×Nat×Nat)×Int->Heap->Prop):Prop:=
 PIf (t1<((slicesN:Nat):Int))
 (J28_4 slicesA slicesN newsliceA newsliceN newsliceC t1 next_1 h_4)
 (J28_3 R (newsliceA) (newsliceN) (newsliceC) h_4)
def J28_0  (P:Program) (R:Value->Heap->Prop) (slicesA:(Option Addr)) (slicesN:Nat) (size1:Int) (h_2:Heap):Prop:=
 CallsH P 40 #[.slice none 0 0,.int .i64 size1] h_2 fun v h_3=>
 ∃ (A1:Option Addr) (N1 C1:Nat),v=(.slice A1 N1 C1)/\LoopT (σ:=(Option Addr×Nat×Nat)×Int) (fun st_ h_st nx_st=>B28_6 R slicesA slicesN (st_.1.1) (st_.1.2.1) (st_.1.2.2) (st_.2) h_st nx_st) ((A1,N1,C1),0) h_3
def B28_7 (P:Program) (R:Value->Heap->Prop) (slicesA:(Option Addr)) (slicesN:Nat) (size t:Int) (h_:Heap) (next_:Int×Int->Heap->Prop):Prop:=
 PIf (t<((slicesN:Nat):Int))
 (J28_1 slicesA slicesN size t next_ h_)
 (J28_0 P R slicesA slicesN (size) h_)
def VC28 (P:Program) (slicesA:Option Addr) (slicesN slicesC:Nat) (R:Value->Heap->Prop) (h:Heap):Prop:=
 LoopT (σ:=Int×Int) (fun st_ h_st nx_st=>B28_7 P R slicesA slicesN (st_.1) (st_.2) h_st nx_st) (0,0) h
theorem vc28 (P:Program) (slicesA:Option Addr) (slicesN slicesC:Nat) (R:Value->Heap->Prop) (h:Heap):fnC P ret28 code28 [.slice slicesA slicesN slicesC] h R=VC28 P slicesA slicesN slicesC R h:=by kernel_rfl
theorem run28 (slicesA:Option Addr) (slicesN slicesC:Nat) (R:Value->Heap->Prop) (h:Heap) (hv:VC28 Try.prog slicesA slicesN slicesC R h):CallsH Try.prog 28 #[.slice slicesA slicesN slicesC] h R:=calls_of_fnC (Checked.mixed Try.checked) Try.func28 comp28 (Nat.le_of_ble_eq_true rfl) (by rw [vc28];exact hv)
def loops29:List (List (Nat×Shp)):=[]
noncomputable def code29:SCode:=((compF Try.prog Try.f29 loops29).elim .skip fun x=>x.2.2)
def ret29:List RV:=[.tmp 2]
theorem comp29:compF Try.prog Try.f29 loops29=some (8,ret29,code29):=by kernel_rfl
def VC29 (P:Program) (sA:Option Addr) (sN sC:Nat) (R:Value->Heap->Prop) (h:Heap):Prop:=
 PIf ((sA:Option Addr)=none)
 (R (.slice none 0 0) h)
 (let h_:Heap:=(h).push (.cells #[] 3);∃ ys:List Value,ReadL h_ sA ys/\ys.length=sN*1/\AppS h_ (some ⟨h.size,0,none⟩) 0 0 3 8 1 #[.int .i64 0] ys sN fun apA apN apC h_1=>R (.slice apA apN apC) h_1)
theorem vc29 (P:Program) (sA:Option Addr) (sN sC:Nat) (R:Value->Heap->Prop) (h:Heap):fnC P ret29 code29 [.slice sA sN sC] h R=VC29 P sA sN sC R h:=by kernel_rfl
theorem run29 (sA:Option Addr) (sN sC:Nat) (R:Value->Heap->Prop) (h:Heap) (hv:VC29 Try.prog sA sN sC R h):CallsH Try.prog 29 #[.slice sA sN sC] h R:=calls_of_fnC (Checked.mixed Try.checked) Try.func29 comp29 (Nat.le_of_ble_eq_true rfl) (by rw [vc29];exact hv)
def loops68:List (List (Nat×Shp)):=[[(13,.int .i64)]]
noncomputable def code68:SCode:=((compF Try.prog Try.f68 loops68).elim .skip fun x=>x.2.2)
def ret68:List RV:=[.tmp 4]
theorem comp68:compF Try.prog Try.f68 loops68=some (26,ret68,code68):=by kernel_rfl
def J68_2  (R:Value->Heap->Prop) (s1A:(Option Addr)) (s1N:Nat) (s2A:(Option Addr)) (s2N:Nat) (t:Int) (next_:(Int->Heap->Prop)) (h_2:Heap):Prop:=
 0≤t/\t<(s1N:Nat)/\AtP s1A fun ad=>∃ (t1:Int),cellH h_2 (Addr.add ad (Int.toNat t*1))=some (.int .i64 t1)/\0≤t/\t<(s2N:Nat)/\AtP s2A fun ad1=>∃ (t2:Int),cellH h_2 (Addr.add ad1 (Int.toNat t*1))=some (.int .i64 t2)/\PIf (t1=t2)
 (next_ (IntKind.wrap .i64 (t+1)) h_2)
 (R (.bool false) h_2)
def J68_1  (R:Value->Heap->Prop) (h_3:Heap):Prop:=
 R (.bool true) h_3
def B68_4 (R:Value->Heap->Prop) (s1A:(Option Addr)) (s1N:Nat) (s2A:(Option Addr)) (s2N:Nat) (t:Int) (h_1:Heap) (next_:Int->Heap->Prop):Prop:=
 PIf (t<((s1N:Nat):Int))
 (J68_2 R s1A s1N s2A s2N t next_ h_1)
 (J68_1 R h_1)
def J68_0  (R:Value->Heap->Prop) (s1A:(Option Addr)) (s1N:Nat) (s2A:(Option Addr)) (s2N:Nat) (h_:Heap):Prop:=
 LoopT (σ:=Int) (fun st_ h_st nx_st=>B68_4 R s1A s1N s2A s2N (st_) h_st nx_st) (0) h_
def VC68 (P:Program) (s1A:Option Addr) (s1N s1C:Nat) (s2A:Option Addr) (s2N s2C:Nat) (R:Value->Heap->Prop) (h:Heap):Prop:=
 PIf ((((s1N:Nat):Int):Int)=((s2N:Nat):Int))
 (J68_0 R s1A s1N s2A s2N h)
 (R (.bool false) h)
theorem vc68 (P:Program) (s1A:Option Addr) (s1N s1C:Nat) (s2A:Option Addr) (s2N s2C:Nat) (R:Value->Heap->Prop) (h:Heap):fnC P ret68 code68 [.slice s1A s1N s1C,.slice s2A s2N s2C] h R=VC68 P s1A s1N s1C s2A s2N s2C R h:=by kernel_rfl
theorem run68 (s1A:Option Addr) (s1N s1C:Nat) (s2A:Option Addr) (s2N s2C:Nat) (R:Value->Heap->Prop) (h:Heap) (hv:VC68 Try.prog s1A s1N s1C s2A s2N s2C R h):CallsH Try.prog 68 #[.slice s1A s1N s1C,.slice s2A s2N s2C] h R:=calls_of_fnC (Checked.mixed Try.checked) Try.func68 comp68 (Nat.le_of_ble_eq_true rfl) (by rw [vc68];exact hv)
def loops40:List (List (Nat×Shp)):=[]
noncomputable def code40:SCode:=((compF Try.prog Try.f40 loops40).elim .skip fun x=>x.2.2)
def ret40:List RV:=[.tmp 4]
theorem comp40:compF Try.prog Try.f40 loops40=some (27,ret40,code40):=by kernel_rfl
def J40_0  (R:Value->Heap->Prop) (sA:(Option Addr)) (sN sC:Nat) (n:Int) (h_:Heap):Prop:=
 PIf ((0:Int)<(IntKind.wrap .i64 (n-(IntKind.wrap .i64 (((sC:Nat):Int)-((sN:Nat):Int))))))
 (0≤(0:Int)/\(0:Int)≤((sC:Nat):Int)/\(((sC:Nat):Int):Int)≤(sC:Nat)/\0≤((IntKind.wrap .i64 (n-(IntKind.wrap .i64 (((sC:Nat):Int)-((sN:Nat):Int))))):Int)/\((IntKind.wrap .i64 (n-(IntKind.wrap .i64 (((sC:Nat):Int)-((sN:Nat):Int))))):Int)*24≤140737488355328/\AppS h_ (cutA 1 sA sC (Int.toNat 0)) (Int.toNat ((sC:Nat):Int)-Int.toNat 0) (sC-Int.toNat 0) 26 24 1 #[.slice none 0 0] (zeroRow #[.slice none 0 0] (Int.toNat (IntKind.wrap .i64 (n-(IntKind.wrap .i64 (((sC:Nat):Int)-((sN:Nat):Int)))))*1)) (Int.toNat (IntKind.wrap .i64 (n-(IntKind.wrap .i64 (((sC:Nat):Int)-((sN:Nat):Int)))))) fun apA apN apC h_1=>0≤(0:Int)/\(0:Int)≤((sN:Nat):Int)/\(((sN:Nat):Int):Int)≤(apC:Nat)/\R (.slice (cutA 1 apA apC (Int.toNat 0)) (Int.toNat ((sN:Nat):Int)-Int.toNat 0) (apC-Int.toNat 0)) h_1)
 (R (.slice sA sN sC) h_)
def VC40 (P:Program) (sA:Option Addr) (sN sC:Nat) (n:Int) (R:Value->Heap->Prop) (h:Heap):Prop:=
 PIf (n<0)
 (False)
 (J40_0 R sA sN sC n h)
theorem vc40 (P:Program) (sA:Option Addr) (sN sC:Nat) (n:Int) (R:Value->Heap->Prop) (h:Heap):fnC P ret40 code40 [.slice sA sN sC,.int .i64 n] h R=VC40 P sA sN sC n R h:=by kernel_rfl
theorem run40 (sA:Option Addr) (sN sC:Nat) (n:Int) (R:Value->Heap->Prop) (h:Heap) (hv:VC40 Try.prog sA sN sC n R h):CallsH Try.prog 40 #[.slice sA sN sC,.int .i64 n] h R:=calls_of_fnC (Checked.mixed Try.checked) Try.func40 comp40 (Nat.le_of_ble_eq_true rfl) (by rw [vc40];exact hv)
end Go.Proofs.Ytobageabpfkpcaa
