/- Words and facts that the claim's proof leans on. No condition. -/
import Derived.Test.YtdpbdjdgdmheiaaGreatHxV
import Derived.Test.YtdpbdjdgdmheiaaGreatChecked
set_option maxRecDepth 100000
set_option linter.unusedVariables false
namespace Go.Proofs.YtdpbdjdgdmheiaaGreat
open Go.Hx
def loops52:List (List (Nat×Shp)):=[[(6,.int .i64),(7,.int .i64)],[(6,.int .i64),(8,.int .i64)]]
noncomputable def code52:SCode:=((compF Tryz.prog Tryz.f52 loops52).elim .skip fun x=>x.2.2)
def ret52:List RV:=[.tmp 4]
theorem comp52:compF Tryz.prog Tryz.f52 loops52=some (75,ret52,code52):=by kernel_rfl
def J52_3  (P:Program) (w:(Option Addr)) (l:Int) (A:(Option Addr)) (N:Nat) (s least1 i:Int) (next_1:(Int×Int->Heap->Prop)) (h_4:Heap):Prop:=
 AtP w fun ad3=>∃ (A1:Option Addr) (N1 C1:Nat),cellH h_4 (Addr.add ad3 13)=some (.slice A1 N1 C1)/\0≤s/\s<(N1:Nat)/\AtP A1 fun ad4=>∃ (A2:Option Addr) (N2 C2:Nat),cellH h_4 (Addr.add ad4 (Int.toNat s*1))=some (.slice A2 N2 C2)/\0≤i/\i<(N2:Nat)/\AtP A2 fun ad5=>∃ (t3:Bool),cellH h_4 (Addr.add ad5 (Int.toNat i*1))=some (.bool t3)/\BIf t3 (AtP w fun ad6=>∃ (A3:Option Addr) (N3 C3:Nat),cellH h_4 (Addr.add ad6 15)=some (.slice A3 N3 C3)/\0≤s/\s<(N3:Nat)/\AtP A3 fun ad7=>∃ (A4:Option Addr) (N4 C4:Nat),cellH h_4 (Addr.add ad7 (Int.toNat s*1))=some (.slice A4 N4 C4)/\0≤i/\i<(N4:Nat)/\AtP A4 fun ad8=>∃ (A5:Option Addr) (N5 C5:Nat),cellH h_4 (Addr.add ad8 (Int.toNat i*1))=some (.slice A5 N5 C5)/\CallsH P 58 #[.slice A5 N5 C5,.int .i64 l] h_4 fun v1 h_5=>
 ∃ (t4:Bool),v1=(.bool t4)/\BIf t4 (PIf (least1<0)
 (0≤s/\s<(N:Nat)/\AtP A fun ad9=>∃ (t5:Int),cellH h_5 (Addr.add ad9 (Int.toNat s*1))=some (.int .i64 t5)/\next_1 (t5,(IntKind.wrap .i64 (i+1))) h_5)
 (0≤s/\s<(N:Nat)/\AtP A fun ad10=>∃ (t6:Int),cellH h_5 (Addr.add ad10 (Int.toNat s*1))=some (.int .i64 t6)/\PIf (t6<least1)
 (0≤s/\s<(N:Nat)/\AtP A fun ad11=>∃ (t7:Int),cellH h_5 (Addr.add ad11 (Int.toNat s*1))=some (.int .i64 t7)/\next_1 (t7,(IntKind.wrap .i64 (i+1))) h_5)
 (next_1 (least1,(IntKind.wrap .i64 (i+1))) h_5))) (next_1 (least1,(IntKind.wrap .i64 (i+1))) h_5)) (next_1 (least1,(IntKind.wrap .i64 (i+1))) h_4)
def J52_2  (s:Int) (next_:(Int×Int->Heap->Prop)) (least2:Int) (h_6:Heap):Prop:=
 next_ (least2,(IntKind.wrap .i64 (s+1))) h_6
def B52_4 (P:Program) (w:(Option Addr)) (l:Int) (A:(Option Addr)) (N:Nat) (s:Int) (next_:(Int×Int->Heap->Prop)) (least1 i:Int) (h_3:Heap) (next_1:Int×Int->Heap->Prop):Prop:=
 AtP w fun ad1=>∃ (t1:Int),cellH h_3 (Addr.add ad1 12)=some (.int .i64 t1)/\PIf (i<t1)
 (0≤s/\s<(N:Nat)/\AtP A fun ad2=>∃ (t2:Int),cellH h_3 (Addr.add ad2 (Int.toNat s*1))=some (.int .i64 t2)/\PIf ((0:Int)≤t2)
 (J52_3 P w l A N s least1 i next_1 h_3)
 (J52_2 s next_ (least1) h_3))
 (J52_2 s next_ (least1) h_3)
def J52_1  (P:Program) (w:(Option Addr)) (l:Int) (A:(Option Addr)) (N:Nat) (least s:Int) (next_:(Int×Int->Heap->Prop)) (h_2:Heap):Prop:=
 LoopT (σ:=Int×Int) (fun st_ h_st nx_st=>B52_4 P w l A N s next_ (st_.1) (st_.2) h_st nx_st) (least,0) h_2
def J52_0  (R:Value->Heap->Prop) (least3:Int) (h_7:Heap):Prop:=
 R (.int .i64 least3) h_7
def B52_5 (P:Program) (R:Value->Heap->Prop) (w:(Option Addr)) (l:Int) (A:(Option Addr)) (N:Nat) (least s:Int) (h_1:Heap) (next_:Int×Int->Heap->Prop):Prop:=
 AtP w fun ad=>∃ (t:Int),cellH h_1 (Addr.add ad 11)=some (.int .i64 t)/\PIf (s<t)
 (J52_1 P w l A N least s next_ h_1)
 (J52_0 R (least) h_1)
def VC52 (P:Program) (w:Option Addr) (l:Int) (R:Value->Heap->Prop) (h:Heap):Prop:=
 CallsH P 47 #[.pointer w] h fun v h_=>
 ∃ (A:Option Addr) (N C:Nat),v=(.slice A N C)/\LoopT (σ:=Int×Int) (fun st_ h_st nx_st=>B52_5 P R w l A N (st_.1) (st_.2) h_st nx_st) ((-1),0) h_
theorem run52 (w:Option Addr) (l:Int) (R:Value->Heap->Prop) (h:Heap) (hv:VC52 Tryz.prog w l R h):CallsH Tryz.prog 52 #[.pointer w,.int .i64 l] h R:=calls_of_fnC (Checked.mixed Tryz.checked) Tryz.func52 comp52 (Nat.le_of_ble_eq_true rfl) (Eq.mp (by kernel_rfl) hv)
def loops19:List (List (Nat×Shp)):=[]
noncomputable def code19:SCode:=((compF Tryz.prog Tryz.f19 loops19).elim .skip fun x=>x.2.2)
def ret19:List RV:=[.tmp 4,.tmp 5]
theorem comp19:compF Tryz.prog Tryz.f19 loops19=some (29,ret19,code19):=by kernel_rfl
def J19_1  (P:Program) (R:Value->Heap->Prop) (h:Heap) (i:Int) (h_3:Heap):Prop:=
 (Addr.block ⟨h.size,0,none⟩)<(h_3).size/\LdC h_3 ⟨h.size,0,none⟩ fun t2=>CallsH P 46 #[t2.v] h_3 fun v1 h_4=>
 ∃ (t3:Option Addr),v1=(.pointer t3)/\AgreeH (h_3).size h_3 h_4/\(Addr.block (Addr.add ⟨h.size,0,none⟩ 4))<(h_3).size/\∃ (A21:Option Addr) (N21 C21:Nat),cellH h_4 (Addr.add ⟨h.size,0,none⟩ 4)=some (.slice A21 N21 C21)/\0≤i/\i<(N21:Nat)/\AtP A21 fun ad=>(Addr.block (Addr.add ad (Int.toNat i*1)))<(h_3).size/\∃ (t4:Int),cellH h_4 (Addr.add ad (Int.toNat i*1))=some (.int .i64 t4)/\CallsH P 52 #[.pointer t3,.int .i64 t4] h_4 fun v2 h_5=>
 ∃ (t5:Int),v2=(.int .i64 t5)/\AgreeH (h_3).size h_4 h_5/\R (.tuple #[.int .i64 t5,.int .i64 0]) h_5
def J19_0  (P:Program) (R:Value->Heap->Prop) (h:Heap) (i:Int) (h_2:Heap):Prop:=
 PIf (i<0)
 (R (.tuple #[.int .i64 0,.int .i64 5]) h_2)
 (∃ (A10:Option Addr) (N10 C10:Nat),cellH h_2 (Addr.add ⟨h.size,0,none⟩ 4)=some (.slice A10 N10 C10)/\PIf ((((N10:Nat):Int):Int)≤i)
 (R (.tuple #[.int .i64 0,.int .i64 5]) h_2)
 (J19_1 P R h i h_2))
def VC19 (P:Program) (c:CV) (i:Int) (R:Value->Heap->Prop) (h:Heap):Prop:=
 let h_:Heap:=(h).push (.cells (Value.cells c.v) 29);LdC h_ ⟨h.size,0,none⟩ fun t=>CallsH P 44 #[t.v] h_ fun v h_1=>
 ∃ (t1:Int),v=(.int .i64 t1)/\PIf (t1=0)
 (J19_0 P R h i h_1)
 (R (.tuple #[.int .i64 0,.int .i64 t1]) h_1)
theorem run19 (c:CV) (i:Int) (R:Value->Heap->Prop) (h:Heap) (hv:VC19 Tryz.prog c i R h):CallsH Tryz.prog 19 #[c.v,.int .i64 i] h R:=calls_of_fnC (Checked.mixed Tryz.checked) Tryz.func19 comp19 (Nat.le_of_ble_eq_true rfl) (Eq.mp (by kernel_rfl) hv)
def loops56:List (List (Nat×Shp)):=[[(8,.int .i64)],[(9,.int .i64)],[(10,.int .i64)]]
noncomputable def code56:SCode:=((compF Tryz.prog Tryz.f56 loops56).elim .skip fun x=>x.2.2)
def ret56:List RV:=[.tmp 6]
theorem comp56:compF Tryz.prog Tryz.f56 loops56=some (100,ret56,code56):=by kernel_rfl
def J56_6  (P:Program) (h:Heap) (w:(Option Addr)) (l depth d s i:Int) (next_2:(Int->Heap->Prop)) (h_9:Heap):Prop:=
 PIf (d=0)
 (AtP w fun ad6=>∃ (A2:Option Addr) (N2 C2:Nat),cellH h_9 (Addr.add ad6 15)=some (.slice A2 N2 C2)/\0≤s/\s<(N2:Nat)/\AtP A2 fun ad7=>∃ (A3:Option Addr) (N3 C3:Nat),cellH h_9 (Addr.add ad7 (Int.toNat s*1))=some (.slice A3 N3 C3)/\0≤i/\i<(N3:Nat)/\AtP A3 fun ad8=>∃ (A4:Option Addr) (N4 C4:Nat),cellH h_9 (Addr.add ad8 (Int.toNat i*1))=some (.slice A4 N4 C4)/\CallsH P 58 #[.slice A4 N4 C4,.int .i64 l] h_9 fun v h_10=>
 ∃ (t4:Bool),v=(.bool t4)/\BIf t4 (0≤d/\d<((Int.toNat (IntKind.wrap .i64 (depth+1))):Nat)/\∃ (A9:Option Addr) (N9 C9:Nat),cellH h_10 (Addr.add ⟨h.size,0,none⟩ (Int.toNat d*1))=some (.slice A9 N9 C9)/\0≤s/\s<(N9:Nat)/\AtP A9 fun ad14=>StoreH h_10 (Addr.add ad14 (Int.toNat s*1)) [.bool true] fun h_12=>next_2 (IntKind.wrap .i64 (i+1)) h_12) (PIf ((0:Int)<d)
 (0≤((IntKind.wrap .i64 (d-1)):Int)/\((IntKind.wrap .i64 (d-1)):Int)<((Int.toNat (IntKind.wrap .i64 (depth+1))):Nat)/\∃ (A5:Option Addr) (N5 C5:Nat),cellH h_10 (Addr.add ⟨h.size,0,none⟩ (Int.toNat (IntKind.wrap .i64 (d-1))*1))=some (.slice A5 N5 C5)/\AtP w fun ad9=>∃ (A6:Option Addr) (N6 C6:Nat),cellH h_10 (Addr.add ad9 14)=some (.slice A6 N6 C6)/\0≤s/\s<(N6:Nat)/\AtP A6 fun ad10=>∃ (A7:Option Addr) (N7 C7:Nat),cellH h_10 (Addr.add ad10 (Int.toNat s*1))=some (.slice A7 N7 C7)/\0≤i/\i<(N7:Nat)/\AtP A7 fun ad11=>∃ (t5:Int),cellH h_10 (Addr.add ad11 (Int.toNat i*1))=some (.int .i64 t5)/\0≤t5/\t5<(N5:Nat)/\AtP A5 fun ad12=>∃ (t6:Bool),cellH h_10 (Addr.add ad12 (Int.toNat t5*1))=some (.bool t6)/\BIf t6 (0≤d/\d<((Int.toNat (IntKind.wrap .i64 (depth+1))):Nat)/\∃ (A8:Option Addr) (N8 C8:Nat),cellH h_10 (Addr.add ⟨h.size,0,none⟩ (Int.toNat d*1))=some (.slice A8 N8 C8)/\0≤s/\s<(N8:Nat)/\AtP A8 fun ad13=>StoreH h_10 (Addr.add ad13 (Int.toNat s*1)) [.bool true] fun h_11=>next_2 (IntKind.wrap .i64 (i+1)) h_11) (next_2 (IntKind.wrap .i64 (i+1)) h_10))
 (next_2 (IntKind.wrap .i64 (i+1)) h_10)))
 (PIf ((0:Int)<d)
 (0≤((IntKind.wrap .i64 (d-1)):Int)/\((IntKind.wrap .i64 (d-1)):Int)<((Int.toNat (IntKind.wrap .i64 (depth+1))):Nat)/\∃ (A10:Option Addr) (N10 C10:Nat),cellH h_9 (Addr.add ⟨h.size,0,none⟩ (Int.toNat (IntKind.wrap .i64 (d-1))*1))=some (.slice A10 N10 C10)/\AtP w fun ad15=>∃ (A11:Option Addr) (N11 C11:Nat),cellH h_9 (Addr.add ad15 14)=some (.slice A11 N11 C11)/\0≤s/\s<(N11:Nat)/\AtP A11 fun ad16=>∃ (A12:Option Addr) (N12 C12:Nat),cellH h_9 (Addr.add ad16 (Int.toNat s*1))=some (.slice A12 N12 C12)/\0≤i/\i<(N12:Nat)/\AtP A12 fun ad17=>∃ (t7:Int),cellH h_9 (Addr.add ad17 (Int.toNat i*1))=some (.int .i64 t7)/\0≤t7/\t7<(N10:Nat)/\AtP A10 fun ad18=>∃ (t8:Bool),cellH h_9 (Addr.add ad18 (Int.toNat t7*1))=some (.bool t8)/\BIf t8 (0≤d/\d<((Int.toNat (IntKind.wrap .i64 (depth+1))):Nat)/\∃ (A13:Option Addr) (N13 C13:Nat),cellH h_9 (Addr.add ⟨h.size,0,none⟩ (Int.toNat d*1))=some (.slice A13 N13 C13)/\0≤s/\s<(N13:Nat)/\AtP A13 fun ad19=>StoreH h_9 (Addr.add ad19 (Int.toNat s*1)) [.bool true] fun h_13=>next_2 (IntKind.wrap .i64 (i+1)) h_13) (next_2 (IntKind.wrap .i64 (i+1)) h_9))
 (next_2 (IntKind.wrap .i64 (i+1)) h_9))
def J56_5  (P:Program) (h:Heap) (w:(Option Addr)) (l depth d s i:Int) (next_2:(Int->Heap->Prop)) (h_8:Heap):Prop:=
 AtP w fun ad3=>∃ (A:Option Addr) (N C:Nat),cellH h_8 (Addr.add ad3 13)=some (.slice A N C)/\0≤s/\s<(N:Nat)/\AtP A fun ad4=>∃ (A1:Option Addr) (N1 C1:Nat),cellH h_8 (Addr.add ad4 (Int.toNat s*1))=some (.slice A1 N1 C1)/\0≤i/\i<(N1:Nat)/\AtP A1 fun ad5=>∃ (t3:Bool),cellH h_8 (Addr.add ad5 (Int.toNat i*1))=some (.bool t3)/\BIf (!t3) (next_2 (IntKind.wrap .i64 (i+1)) h_8) (J56_6 P h w l depth d s i next_2 h_8)
def J56_4  (s:Int) (next_1:(Int->Heap->Prop)) (h_14:Heap):Prop:=
 next_1 (IntKind.wrap .i64 (s+1)) h_14
def B56_7 (P:Program) (h:Heap) (w:(Option Addr)) (l depth d s:Int) (next_1:(Int->Heap->Prop)) (i:Int) (h_7:Heap) (next_2:Int->Heap->Prop):Prop:=
 AtP w fun ad2=>∃ (t2:Int),cellH h_7 (Addr.add ad2 12)=some (.int .i64 t2)/\PIf (i<t2)
 (J56_5 P h w l depth d s i next_2 h_7)
 (J56_4 s next_1 h_7)
def J56_3  (P:Program) (h:Heap) (w:(Option Addr)) (l depth d s:Int) (next_1:(Int->Heap->Prop)) (h_6:Heap):Prop:=
 LoopT (σ:=Int) (fun st_ h_st nx_st=>B56_7 P h w l depth d s next_1 (st_) h_st nx_st) (0) h_6
def J56_2  (d:Int) (next_:(Int->Heap->Prop)) (h_15:Heap):Prop:=
 next_ (IntKind.wrap .i64 (d+1)) h_15
def B56_8 (P:Program) (h:Heap) (w:(Option Addr)) (l depth d:Int) (next_:(Int->Heap->Prop)) (s:Int) (h_5:Heap) (next_1:Int->Heap->Prop):Prop:=
 AtP w fun ad1=>∃ (t1:Int),cellH h_5 (Addr.add ad1 11)=some (.int .i64 t1)/\PIf (s<t1)
 (J56_3 P h w l depth d s next_1 h_5)
 (J56_2 d next_ h_5)
def J56_1  (P:Program) (h:Heap) (w:(Option Addr)) (l depth d:Int) (next_:(Int->Heap->Prop)) (h_2:Heap):Prop:=
 AtP w fun ad=>∃ (t:Int),cellH h_2 (Addr.add ad 11)=some (.int .i64 t)/\0≤t/\t≤t/\(1:Int)*t≤281474976710656/\let h_3:Heap:=(h_2).push (.cells (zeroRow #[.bool false] (Int.toNat t*1)).toArray 4);0≤d/\d<((Int.toNat (IntKind.wrap .i64 (depth+1))):Nat)/\StoreH h_3 (Addr.add ⟨h.size,0,none⟩ (Int.toNat d*1)) [(.slice (some ⟨h_2.size,0,none⟩) (Int.toNat t) (Int.toNat t))] fun h_4=>LoopT (σ:=Int) (fun st_ h_st nx_st=>B56_8 P h w l depth d next_ (st_) h_st nx_st) (0) h_4
def J56_0  (R:Value->Heap->Prop) (h:Heap) (depth:Int) (h_16:Heap):Prop:=
 R (.slice (some ⟨h.size,0,none⟩) (Int.toNat (IntKind.wrap .i64 (depth+1))) (Int.toNat (IntKind.wrap .i64 (depth+1)))) h_16
def B56_9 (P:Program) (R:Value->Heap->Prop) (h:Heap) (w:(Option Addr)) (l depth d:Int) (h_1:Heap) (next_:Int->Heap->Prop):Prop:=
 PIf (d≤depth)
 (J56_1 P h w l depth d next_ h_1)
 (J56_0 R h depth h_1)
def VC56 (P:Program) (w:Option Addr) (l depth:Int) (R:Value->Heap->Prop) (h:Heap):Prop:=
 0≤((IntKind.wrap .i64 (depth+1)):Int)/\((IntKind.wrap .i64 (depth+1)):Int)≤(IntKind.wrap .i64 (depth+1))/\(24:Int)*(IntKind.wrap .i64 (depth+1))≤281474976710656/\let h_:Heap:=(h).push (.cells (zeroRow #[.slice none 0 0] (Int.toNat (IntKind.wrap .i64 (depth+1))*1)).toArray 46);LoopT (σ:=Int) (fun st_ h_st nx_st=>B56_9 P R h w l depth (st_) h_st nx_st) (0) h_
theorem run56 (w:Option Addr) (l depth:Int) (R:Value->Heap->Prop) (h:Heap) (hv:VC56 Tryz.prog w l depth R h):CallsH Tryz.prog 56 #[.pointer w,.int .i64 l,.int .i64 depth] h R:=calls_of_fnC (Checked.mixed Tryz.checked) Tryz.func56 comp56 (Nat.le_of_ble_eq_true rfl) (Eq.mp (by kernel_rfl) hv)
def loops21:List (List (Nat×Shp)):=[[(10,.int .i64)],[(10,.int .i64),(12,.int .i64)],[(13,.int .i64)]]
noncomputable def code21:SCode:=((compF Tryz.prog Tryz.f21 loops21).elim .skip fun x=>x.2.2)
def ret21:List RV:=[.cellN 4 [.slice,.slice,.int .i64],.tmp 5]
theorem comp21:compF Tryz.prog Tryz.f21 loops21=some (145,ret21,code21):=by kernel_rfl
def J21_5  (d:Int) (next_1:(Int×Int->Heap->Prop)) (s3:Int) (h_24:Heap):Prop:=
 next_1 (s3,(IntKind.wrap .i64 (d-1))) h_24
def J21_6  (P:Program) (h:Heap) (t6:(Option Addr)) (h_12:Heap) (s2 d:Int) (next_1:(Int×Int->Heap->Prop)) (k1:Int) (h_19:Heap):Prop:=
 (Addr.block (Addr.add ⟨h_12.size,0,none⟩ 1))<(h_19).size/\∃ (A38:Option Addr) (N38 C38:Nat),cellH h_19 (Addr.add ⟨h_12.size,0,none⟩ 1)=some (.slice A38 N38 C38)/\(Addr.block (Addr.add ⟨h.size,0,none⟩ 1))<(h_19).size/\∃ (A39:Option Addr) (N39 C39:Nat),cellH h_19 (Addr.add ⟨h.size,0,none⟩ 1)=some (.slice A39 N39 C39)/\CallsH P 49 #[.int .i64 k1,(.int .i64 ((N39:Nat):Int))] h_19 fun v6 h_20=>
 ∃ (A40:Option Addr) (N40 C40:Nat),v6=(.slice A40 N40 C40)/\AgreeH (h_19).size h_19 h_20/\let h_21:Heap:=(h_20).push (.cells #[.slice A40 N40 C40] 46);AgreeH (h_19).size h_20 h_21/\∃ ys:List Value,ReadL h_21 (some ⟨h_20.size,0,none⟩) ys/\ys.length=1*1/\AppS h_21 A38 N38 C38 46 24 1 #[.slice none 0 0] ys 1 fun apA apN apC h_22=>StoreH h_22 (Addr.add ⟨h_12.size,0,none⟩ 1) [.slice apA apN apC] fun h_23=>AtP t6 fun ad15=>∃ (A41:Option Addr) (N41 C41:Nat),cellH h_23 (Addr.add ad15 14)=some (.slice A41 N41 C41)/\0≤s2/\s2<(N41:Nat)/\AtP A41 fun ad16=>∃ (A42:Option Addr) (N42 C42:Nat),cellH h_23 (Addr.add ad16 (Int.toNat s2*1))=some (.slice A42 N42 C42)/\0≤k1/\k1<(N42:Nat)/\AtP A42 fun ad17=>∃ (t15:Int),cellH h_23 (Addr.add ad17 (Int.toNat k1*1))=some (.int .i64 t15)/\J21_5 d next_1 (t15) h_23
def B21_7 (P:Program) (h:Heap) (i:Int) (t6:(Option Addr)) (A25:(Option Addr)) (N25:Nat) (h_12:Heap) (s2 d:Int) (next_1:(Int×Int->Heap->Prop)) (k:Int) (h_17:Heap) (next_2:Int->Heap->Prop):Prop:=
 AtP t6 fun ad3=>∃ (A29:Option Addr) (N29 C29:Nat),cellH h_17 (Addr.add ad3 13)=some (.slice A29 N29 C29)/\0≤s2/\s2<(N29:Nat)/\AtP A29 fun ad4=>∃ (A30:Option Addr) (N30 C30:Nat),cellH h_17 (Addr.add ad4 (Int.toNat s2*1))=some (.slice A30 N30 C30)/\0≤k/\k<(N30:Nat)/\AtP A30 fun ad5=>∃ (t10:Bool),cellH h_17 (Addr.add ad5 (Int.toNat k*1))=some (.bool t10)/\BIf (!t10) (next_2 (IntKind.wrap .i64 (k+1)) h_17) (PIf (d=0)
 (AtP t6 fun ad6=>∃ (A31:Option Addr) (N31 C31:Nat),cellH h_17 (Addr.add ad6 15)=some (.slice A31 N31 C31)/\0≤s2/\s2<(N31:Nat)/\AtP A31 fun ad7=>∃ (A32:Option Addr) (N32 C32:Nat),cellH h_17 (Addr.add ad7 (Int.toNat s2*1))=some (.slice A32 N32 C32)/\0≤k/\k<(N32:Nat)/\AtP A32 fun ad8=>∃ (A33:Option Addr) (N33 C33:Nat),cellH h_17 (Addr.add ad8 (Int.toNat k*1))=some (.slice A33 N33 C33)/\∃ (A34:Option Addr) (N34 C34:Nat),cellH h_17 (Addr.add ⟨h.size,0,none⟩ 4)=some (.slice A34 N34 C34)/\0≤i/\i<(N34:Nat)/\AtP A34 fun ad9=>∃ (t11:Int),cellH h_17 (Addr.add ad9 (Int.toNat i*1))=some (.int .i64 t11)/\CallsH P 58 #[.slice A33 N33 C33,.int .i64 t11] h_17 fun v5 h_18=>
 ∃ (t12:Bool),v5=(.bool t12)/\BIf (!t12) (next_2 (IntKind.wrap .i64 (k+1)) h_18) (PIf ((0:Int)<d)
 (0≤((IntKind.wrap .i64 (d-1)):Int)/\((IntKind.wrap .i64 (d-1)):Int)<(N25:Nat)/\AtP A25 fun ad10=>∃ (A35:Option Addr) (N35 C35:Nat),cellH h_18 (Addr.add ad10 (Int.toNat (IntKind.wrap .i64 (d-1))*1))=some (.slice A35 N35 C35)/\AtP t6 fun ad11=>∃ (A36:Option Addr) (N36 C36:Nat),cellH h_18 (Addr.add ad11 14)=some (.slice A36 N36 C36)/\0≤s2/\s2<(N36:Nat)/\AtP A36 fun ad12=>∃ (A37:Option Addr) (N37 C37:Nat),cellH h_18 (Addr.add ad12 (Int.toNat s2*1))=some (.slice A37 N37 C37)/\0≤k/\k<(N37:Nat)/\AtP A37 fun ad13=>∃ (t13:Int),cellH h_18 (Addr.add ad13 (Int.toNat k*1))=some (.int .i64 t13)/\0≤t13/\t13<(N35:Nat)/\AtP A35 fun ad14=>∃ (t14:Bool),cellH h_18 (Addr.add ad14 (Int.toNat t13*1))=some (.bool t14)/\BIf (!t14) (next_2 (IntKind.wrap .i64 (k+1)) h_18) (J21_6 P h t6 h_12 s2 d next_1 (k) h_18))
 (J21_6 P h t6 h_12 s2 d next_1 (k) h_18)))
 (PIf ((0:Int)<d)
 (0≤((IntKind.wrap .i64 (d-1)):Int)/\((IntKind.wrap .i64 (d-1)):Int)<(N25:Nat)/\AtP A25 fun ad18=>∃ (A43:Option Addr) (N43 C43:Nat),cellH h_17 (Addr.add ad18 (Int.toNat (IntKind.wrap .i64 (d-1))*1))=some (.slice A43 N43 C43)/\AtP t6 fun ad19=>∃ (A44:Option Addr) (N44 C44:Nat),cellH h_17 (Addr.add ad19 14)=some (.slice A44 N44 C44)/\0≤s2/\s2<(N44:Nat)/\AtP A44 fun ad20=>∃ (A45:Option Addr) (N45 C45:Nat),cellH h_17 (Addr.add ad20 (Int.toNat s2*1))=some (.slice A45 N45 C45)/\0≤k/\k<(N45:Nat)/\AtP A45 fun ad21=>∃ (t16:Int),cellH h_17 (Addr.add ad21 (Int.toNat k*1))=some (.int .i64 t16)/\0≤t16/\t16<(N43:Nat)/\AtP A43 fun ad22=>∃ (t17:Bool),cellH h_17 (Addr.add ad22 (Int.toNat t16*1))=some (.bool t17)/\BIf (!t17) (next_2 (IntKind.wrap .i64 (k+1)) h_17) (J21_6 P h t6 h_12 s2 d next_1 (k) h_17))
 (J21_6 P h t6 h_12 s2 d next_1 (k) h_17)))
def J21_4  (P:Program) (h:Heap) (i:Int) (t6:(Option Addr)) (A25:(Option Addr)) (N25:Nat) (h_12:Heap) (s2 d:Int) (next_1:(Int×Int->Heap->Prop)) (h_16:Heap):Prop:=
 LoopT (σ:=Int) (fun st_ h_st nx_st=>B21_7 P h i t6 A25 N25 h_12 s2 d next_1 (st_) h_st nx_st) (0) h_16
def J21_3  (R:Value->Heap->Prop) (h_ h_12 h_25:Heap):Prop:=
 LdT h_25 ⟨h_12.size,0,none⟩ fun t18=>StoreH h_25 ⟨h_.size,0,none⟩ t18.cs fun h_26=>LdT h_26 ⟨h_.size,0,none⟩ fun t19=>R (.tuple #[t19.v,.int .i64 0]) h_26
def B21_8 (P:Program) (R:Value->Heap->Prop) (h:Heap) (i:Int) (h_:Heap) (t6:(Option Addr)) (A25:(Option Addr)) (N25:Nat) (h_12:Heap) (s2 d:Int) (h_15:Heap) (next_1:Int×Int->Heap->Prop):Prop:=
 PIf ((0:Int)≤d)
 (J21_4 P h i t6 A25 N25 h_12 s2 d next_1 h_15)
 (J21_3 R h_ h_12 h_15)
def J21_2  (P:Program) (R:Value->Heap->Prop) (h:Heap) (i:Int) (h_:Heap) (t1:Int) (t6:(Option Addr)) (A25:(Option Addr)) (N25:Nat) (s1:Int) (h_11:Heap):Prop:=
 ∃ (A27:Option Addr) (N27 C27:Nat),cellH h_11 (Addr.add ⟨h.size,0,none⟩ 2)=some (.slice A27 N27 C27)/\CallsH P 49 #[.int .i64 s1,(.int .i64 ((N27:Nat):Int))] h_11 fun v4 h_12=>
 ∃ (A28:Option Addr) (N28 C28:Nat),v4=(.slice A28 N28 C28)/\let h_13:Heap:=(h_12).push (.cells TV.zero.cs.toArray 49);StoreH h_13 ⟨h_12.size,0,none⟩ [.slice A28 N28 C28,.slice none 0 0,(.int .i64 (-1))] fun h_14=>LoopT (σ:=Int×Int) (fun st_ h_st nx_st=>B21_8 P R h i h_ t6 A25 N25 h_12 (st_.1) (st_.2) h_st nx_st) (s1,t1) h_14
def B21_9 (P:Program) (R:Value->Heap->Prop) (h:Heap) (i:Int) (h_:Heap) (t1:Int) (t6:(Option Addr)) (A25:(Option Addr)) (N25:Nat) (s:Int) (h_9:Heap) (next_:Int->Heap->Prop):Prop:=
 CallsH P 57 #[.pointer t6,.int .i64 s] h_9 fun v3 h_10=>
 ∃ (t8:Bool),v3=(.bool t8)/\BIf (!t8) (next_ (IntKind.wrap .i64 (s+1)) h_10) (0≤t1/\t1<(N25:Nat)/\AtP A25 fun ad1=>∃ (A26:Option Addr) (N26 C26:Nat),cellH h_10 (Addr.add ad1 (Int.toNat t1*1))=some (.slice A26 N26 C26)/\0≤s/\s<(N26:Nat)/\AtP A26 fun ad2=>∃ (t9:Bool),cellH h_10 (Addr.add ad2 (Int.toNat s*1))=some (.bool t9)/\BIf (!t9) (next_ (IntKind.wrap .i64 (s+1)) h_10) (J21_2 P R h i h_ t1 t6 A25 N25 (s) h_10))
def J21_1  (P:Program) (R:Value->Heap->Prop) (h:Heap) (i:Int) (h_:Heap) (t1:Int) (h_6:Heap):Prop:=
 LdC h_6 ⟨h.size,0,none⟩ fun t5=>CallsH P 46 #[t5.v] h_6 fun v1 h_7=>
 ∃ (t6:Option Addr),v1=(.pointer t6)/\∃ (A24:Option Addr) (N24 C24:Nat),cellH h_7 (Addr.add ⟨h.size,0,none⟩ 4)=some (.slice A24 N24 C24)/\0≤i/\i<(N24:Nat)/\AtP A24 fun ad=>∃ (t7:Int),cellH h_7 (Addr.add ad (Int.toNat i*1))=some (.int .i64 t7)/\CallsH P 56 #[.pointer t6,.int .i64 t7,.int .i64 t1] h_7 fun v2 h_8=>
 ∃ (A25:Option Addr) (N25 C25:Nat),v2=(.slice A25 N25 C25)/\LoopT (σ:=Int) (fun st_ h_st nx_st=>B21_9 P R h i h_ t1 t6 A25 N25 (st_) h_st nx_st) (0) h_8
def J21_0  (P:Program) (R:Value->Heap->Prop) (h:Heap) (i:Int) (h_:Heap) (t1:Int) (h_4:Heap):Prop:=
 PIf (t1<0)
 (StoreH h_4 ⟨h_.size,0,none⟩ TV.zero.cs fun h_5=>LdT h_5 ⟨h_.size,0,none⟩ fun t4=>R (.tuple #[t4.v,.int .i64 5]) h_5)
 (J21_1 P R h i h_ t1 h_4)
def VC21 (P:Program) (c:CV) (i:Int) (R:Value->Heap->Prop) (h:Heap):Prop:=
 let h_:Heap:=(h).push (.cells (Value.cells c.v) 29);let h_1:Heap:=(h_).push (.cells TV.zero.cs.toArray 49);LdC h_1 ⟨h.size,0,none⟩ fun t=>CallsH P 19 #[t.v,.int .i64 i] h_1 fun v h_2=>
 ∃ (t1 t2:Int),v=(.tuple #[.int .i64 t1,.int .i64 t2])/\PIf (t2=0)
 (J21_0 P R h i h_ t1 h_2)
 (StoreH h_2 ⟨h_.size,0,none⟩ TV.zero.cs fun h_3=>LdT h_3 ⟨h_.size,0,none⟩ fun t3=>R (.tuple #[t3.v,.int .i64 t2]) h_3)
theorem run21 (c:CV) (i:Int) (R:Value->Heap->Prop) (h:Heap) (hv:VC21 Tryz.prog c i R h):CallsH Tryz.prog 21 #[c.v,.int .i64 i] h R:=calls_of_fnC (Checked.mixed Tryz.checked) Tryz.func21 comp21 (Nat.le_of_ble_eq_true rfl) (Eq.mp (by kernel_rfl) hv)
def loops4:List (List (Nat×Shp)):=[]
noncomputable def code4:SCode:=((compF Tryz.prog Tryz.f4 loops4).elim .skip fun x=>x.2.2)
def ret4:List RV:=[.tmp 4]
theorem comp4:compF Tryz.prog Tryz.f4 loops4=some (106,ret4,code4):=by kernel_rfl
def J4_1  (P:Program) (R:Value->Heap->Prop) (h h_3 h_6 h_14 h_22:Heap):Prop:=
 ∃ (A92:Option Addr) (N92 C92:Nat),cellH h_22 (Addr.add ⟨h_6.size,0,none⟩ 0)=some (.slice A92 N92 C92)/\CallsH P 24 #[.slice A92 N92 C92,(.int .i64 (-7))] h_22 fun v10 h_23=>
 v10=(.tuple #[])/\LdT h_23 ⟨h_14.size,0,none⟩ fun t27=>CallsH P 25 #[t27.v] h_23 fun v11 h_24=>
 v11=(.tuple #[])/\LdC h_24 ⟨h_3.size,0,none⟩ fun t28=>LdC h_24 ⟨h.size,0,none⟩ fun t29=>CallsH P 12 #[t28.v,t29.v] h_24 fun v12 h_25=>
 ∃ (t30:Bool),v12=(.bool t30)/\BIf t30 (CallsH P 14 #[] h_25 fun v13 h_26=>
 ∃ (t31:Bool),v13=(.bool t31)/\R (.bool t31) h_26) (R (.bool false) h_25)
def J4_0  (P:Program) (R:Value->Heap->Prop) (h:Heap) (i:Int) (h_2:Heap):Prop:=
 LdC h_2 ⟨h.size,0,none⟩ fun t1=>CallsH P 8 #[t1.v] h_2 fun v1 h_3=>
 ExCi fun t2=>v1=t2.v/\let h_4:Heap:=(h_3).push (.cells CV.zero.cs.toArray 29);StoreH h_4 ⟨h_3.size,0,none⟩ t2.cs fun h_5=>LdC h_5 ⟨h_3.size,0,none⟩ fun t3=>CallsH P 16 #[t3.v] h_5 fun v2 h_6=>
 ∃ (A30:Option Addr) (N30 C30:Nat) (t4 t5:Int),v2=(.tuple #[(.agg #[.slice A30 N30 C30,.int .i64 t4]),.int .i64 t5])/\let h_7:Heap:=(h_6).push (.cells #[.slice none 0 0,.int .i64 0] 41);StoreH h_7 ⟨h_6.size,0,none⟩ [.slice A30 N30 C30,.int .i64 t4] fun h_8=>LdC h_8 ⟨h.size,0,none⟩ fun t6=>CallsH P 17 #[t6.v] h_8 fun v3 h_9=>
 ∃ (A41:Option Addr) (N41 C41:Nat) (t7 t8:Int),v3=(.tuple #[(.agg #[.slice A41 N41 C41,.int .i64 t7]),.int .i64 t8])/\let h_10:Heap:=(h_9).push (.cells #[.slice none 0 0,.int .i64 0] 41);StoreH h_10 ⟨h_9.size,0,none⟩ [.slice A41 N41 C41,.int .i64 t7] fun h_11=>LdC h_11 ⟨h_3.size,0,none⟩ fun t9=>CallsH P 18 #[t9.v,.int .i64 i] h_11 fun v4 h_12=>
 ∃ (t10 t11:Int),v4=(.tuple #[.int .i64 t10,.int .i64 t11])/\LdC h_12 ⟨h.size,0,none⟩ fun t12=>CallsH P 19 #[t12.v,.int .i64 i] h_12 fun v5 h_13=>
 ∃ (t13 t14:Int),v5=(.tuple #[.int .i64 t13,.int .i64 t14])/\LdC h_13 ⟨h_3.size,0,none⟩ fun t15=>CallsH P 20 #[t15.v,.int .i64 i] h_13 fun v6 h_14=>
 ExTr fun t16=>∃ (t17:Int),v6=(.tuple #[t16.v,.int .i64 t17])/\let h_15:Heap:=(h_14).push (.cells TV.zero.cs.toArray 49);StoreH h_15 ⟨h_14.size,0,none⟩ t16.cs fun h_16=>LdC h_16 ⟨h.size,0,none⟩ fun t18=>CallsH P 21 #[t18.v,.int .i64 i] h_16 fun v7 h_17=>
 ExTr fun t19=>∃ (t20:Int),v7=(.tuple #[t19.v,.int .i64 t20])/\let h_18:Heap:=(h_17).push (.cells TV.zero.cs.toArray 49);StoreH h_18 ⟨h_17.size,0,none⟩ t19.cs fun h_19=>∃ (A86:Option Addr) (N86 C86:Nat),cellH h_19 (Addr.add ⟨h_6.size,0,none⟩ 0)=some (.slice A86 N86 C86)/\∃ (A87:Option Addr) (N87 C87:Nat),cellH h_19 (Addr.add ⟨h_9.size,0,none⟩ 0)=some (.slice A87 N87 C87)/\CallsH P 22 #[.slice A86 N86 C86,.slice A87 N87 C87] h_19 fun v8 h_20=>
 ∃ (t21:Bool),v8=(.bool t21)/\BIf (!t21) (R (.bool false) h_20) (∃ (t22:Int),cellH h_20 (Addr.add ⟨h_6.size,0,none⟩ 1)=some (.int .i64 t22)/\∃ (t23:Int),cellH h_20 (Addr.add ⟨h_9.size,0,none⟩ 1)=some (.int .i64 t23)/\PIf (t22=t23)
 (PIf (t5=t8)
 (PIf (t10=t13)
 (PIf (t11=t14)
 (LdT h_20 ⟨h_14.size,0,none⟩ fun t24=>LdT h_20 ⟨h_17.size,0,none⟩ fun t25=>CallsH P 23 #[t24.v,t25.v] h_20 fun v9 h_21=>
 ∃ (t26:Bool),v9=(.bool t26)/\BIf (!t26) (R (.bool false) h_21) (PIf (t17=t20)
 (J4_1 P R h h_3 h_6 h_14 h_21)
 (R (.bool false) h_21)))
 (R (.bool false) h_20))
 (R (.bool false) h_20))
 (R (.bool false) h_20))
 (R (.bool false) h_20))
def VC4 (P:Program) (c:CV) (i:Int) (R:Value->Heap->Prop) (h:Heap):Prop:=
 let h_:Heap:=(h).push (.cells (Value.cells c.v) 29);CallsH P 15 #[] h_ fun v h_1=>
 ∃ (t:Bool),v=(.bool t)/\BIf (!t) (R (.bool false) h_1) (J4_0 P R h i h_1)
theorem run4 (c:CV) (i:Int) (R:Value->Heap->Prop) (h:Heap) (hv:VC4 Tryz.prog c i R h):CallsH Tryz.prog 4 #[c.v,.int .i64 i] h R:=calls_of_fnC (Checked.mixed Tryz.checked) Tryz.func4 comp4 (Nat.le_of_ble_eq_true rfl) (Eq.mp (by kernel_rfl) hv)
def loops15:List (List (Nat×Shp)):=[]
noncomputable def code15:SCode:=((compF Tryz.prog Tryz.f15 loops15).elim .skip fun x=>x.2.2)
def ret15:List RV:=[.tmp 0]
theorem comp15:compF Tryz.prog Tryz.f15 loops15=some (1,ret15,code15):=by kernel_rfl
def VC15 (P:Program) (R:Value->Heap->Prop) (h:Heap):Prop:=
 R (.bool true) h
theorem run15 (R:Value->Heap->Prop) (h:Heap) (hv:VC15 Tryz.prog R h):CallsH Tryz.prog 15 #[] h R:=calls_of_fnC (Checked.mixed Tryz.checked) Tryz.func15 comp15 (Nat.le_of_ble_eq_true rfl) (Eq.mp (by kernel_rfl) hv)
end Go.Proofs.YtdpbdjdgdmheiaaGreat
