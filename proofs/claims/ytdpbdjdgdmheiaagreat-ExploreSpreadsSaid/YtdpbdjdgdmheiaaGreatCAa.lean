/- Words and facts that the claim's proof leans on. No condition. -/
import Derived.Test.YtdpbdjdgdmheiaaGreatHxV
import Derived.Test.YtdpbdjdgdmheiaaGreatChecked
set_option maxRecDepth 100000
set_option linter.unusedVariables false
namespace Go.Proofs.YtdpbdjdgdmheiaaGreat
open Go.Hx
def loops114:List (List (Nat×Shp)):=[]
noncomputable def code114:SCode:=((compF Tryz.prog Tryz.f114 loops114).elim .skip fun x=>x.2.2)
def ret114:List RV:=[.tmp 2,.tmp 3]
theorem comp114:compF Tryz.prog Tryz.f114 loops114=some (12,ret114,code114):=by kernel_rfl
def VC114 (P:Program) (c:CV) (R:Value->Heap->Prop) (h:Heap):Prop:=
 let h_:Heap:=(h).push (.cells (Value.cells c.v) 29);LdC h_ ⟨h.size,0,none⟩ fun t=>CallsH P 146 #[t.v] h_ fun v h_1=>
 ∃ (t1:Option Addr) (t2 t3:Int),v=(.tuple #[.pointer t1,.int .i64 t2,.int .i64 t3])/\R (.tuple #[.int .i64 t2,.int .i64 t3]) h_1
theorem run114 (c:CV) (R:Value->Heap->Prop) (h:Heap) (hv:VC114 Tryz.prog c R h):CallsH Tryz.prog 114 #[c.v] h R:=calls_of_fnC (Checked.mixed Tryz.checked) Tryz.func114 comp114 (Nat.le_of_ble_eq_true rfl) (Eq.mp (by kernel_rfl) hv)
def loops146:List (List (Nat×Shp)):=[[(58,.int .i64)]]
noncomputable def code146:SCode:=((compF Tryz.prog Tryz.f146 loops146).elim .skip fun x=>x.2.2)
def ret146:List RV:=[.tmp 2,.tmp 3,.tmp 4]
theorem comp146:compF Tryz.prog Tryz.f146 loops146=some (69,ret146,code146):=by kernel_rfl
def J146_6  (P:Program) (R:Value->Heap->Prop) (A30:(Option Addr)) (N30:Nat) (t11:Int) (next_:(Int->Heap->Prop)) (h_14:Heap):Prop:=
 0≤t11/\t11<(N30:Nat)/\AtP A30 fun ad=>∃ (t12:ByteArray),cellH h_14 (Addr.add ad (Int.toNat t11*1))=some (.string t12)/\∀ cap:Nat,t12.size≤cap->let h_15:Heap:=(h_14).push (.cells (bytesV t12++List.replicate (cap-t12.size) (Value.int .u8 0)).toArray 5 (cap,cap+1));CallsH P 175 #[(.slice (some ⟨h_14.size,0,none⟩) t12.size cap),.int .u8 10] h_15 fun v5 h_16=>
 ∃ (t13:Bool),v5=(.bool t13)/\BIf t13 (R (.tuple #[.pointer none,.int .i64 t11,.int .i64 36]) h_16) (next_ (IntKind.wrap .i64 (t11+1)) h_16)
def J146_5  (R:Value->Heap->Prop) (h_3 h_17:Heap):Prop:=
 R (.tuple #[(.pointer (some ⟨h_3.size,0,none⟩)),.int .i64 0,.int .i64 0]) h_17
def B146_8 (P:Program) (R:Value->Heap->Prop) (h_3:Heap) (A30:(Option Addr)) (N30:Nat) (t11:Int) (h_13:Heap) (next_:Int->Heap->Prop):Prop:=
 PIf (t11<((N30:Nat):Int))
 (J146_6 P R A30 N30 t11 next_ h_13)
 (J146_5 R h_3 h_13)
def J146_4  (P:Program) (R:Value->Heap->Prop) (h h_3 h_12:Heap):Prop:=
 ∃ (A30:Option Addr) (N30 C30:Nat),cellH h_12 (Addr.add ⟨h.size,0,none⟩ 10)=some (.slice A30 N30 C30)/\LoopT (σ:=Int) (fun st_ h_st nx_st=>B146_8 P R h_3 A30 N30 (st_) h_st nx_st) (0) h_12
def J146_3  (P:Program) (R:Value->Heap->Prop) (h h_3 h_10:Heap):Prop:=
 LdC h_10 ⟨h.size,0,none⟩ fun t9=>CallsH P 174 #[t9.v] h_10 fun v4 h_11=>
 ∃ (t10:Int),v4=(.int .i64 t10)/\PIf ((0:Int)≤t10)
 (R (.tuple #[.pointer none,.int .i64 t10,.int .i64 35]) h_11)
 (J146_4 P R h h_3 h_11)
def J146_2  (P:Program) (R:Value->Heap->Prop) (h h_3 h_8:Heap):Prop:=
 CallsH P 173 #[(.pointer (some ⟨h_3.size,0,none⟩))] h_8 fun v3 h_9=>
 ∃ (t8:Int),v3=(.int .i64 t8)/\PIf ((0:Int)≤t8)
 (R (.tuple #[.pointer none,.int .i64 t8,.int .i64 34]) h_9)
 (J146_3 P R h h_3 h_9)
def J146_1  (P:Program) (R:Value->Heap->Prop) (h h_3 h_6:Heap):Prop:=
 CallsH P 172 #[(.pointer (some ⟨h_3.size,0,none⟩))] h_6 fun v2 h_7=>
 ∃ (t6 t7:Int),v2=(.tuple #[.int .i64 t6,.int .i64 t7])/\PIf (t7=0)
 (J146_2 P R h h_3 h_7)
 (R (.tuple #[.pointer none,.int .i64 t6,.int .i64 t7]) h_7)
def J146_0  (P:Program) (R:Value->Heap->Prop) (h h_2:Heap):Prop:=
 (Addr.block ⟨h.size,0,none⟩)<(h_2).size/\LdC h_2 ⟨h.size,0,none⟩ fun t2=>(Addr.block (Addr.add ⟨h.size,0,none⟩ 0))<(h_2).size/\∃ (t3:Int),cellH h_2 (Addr.add ⟨h.size,0,none⟩ 0)=some (.int .i64 t3)/\0≤((IntKind.wrap .i64 (t3+1)):Int)/\((IntKind.wrap .i64 (t3+1)):Int)≤(IntKind.wrap .i64 (t3+1))/\(16:Int)*(IntKind.wrap .i64 (t3+1))≤281474976710656/\let h_3:Heap:=(h_2).push (.cells (zeroRow #[.int .i64 0,.int .i64 0] (Int.toNat (IntKind.wrap .i64 (t3+1))*2)).toArray 236);AgreeH (h_2).size h_2 h_3/\let h_4:Heap:=(h_3).push (.cells (Value.cells (.agg #[.int .i64 t2.mx,.slice t2.i.a t2.i.n t2.i.c,.slice t2.l.a t2.l.n t2.l.c,.slice t2.o.a t2.o.n t2.o.c,.slice t2.b.a t2.b.n t2.b.c,.slice t2.c.a t2.c.n t2.c.c,.slice t2.j.a t2.j.n t2.j.c,.slice t2.f.a t2.f.n t2.f.c,.slice t2.g.a t2.g.n t2.g.c,.slice t2.s.a t2.s.n t2.s.c,.slice t2.m.a t2.m.n t2.m.c,(.slice (some ⟨h_2.size,0,none⟩) (Int.toNat (IntKind.wrap .i64 (t3+1))) (Int.toNat (IntKind.wrap .i64 (t3+1))))])) 222);AgreeH (h_2).size h_3 h_4/\CallsH P 171 #[(.pointer (some ⟨h_3.size,0,none⟩))] h_4 fun v1 h_5=>
 ∃ (t4 t5:Int),v1=(.tuple #[.int .i64 t4,.int .i64 t5])/\PIf (t5=0)
 (J146_1 P R h h_3 h_5)
 (R (.tuple #[.pointer none,.int .i64 t4,.int .i64 t5]) h_5)
def VC146 (P:Program) (c:CV) (R:Value->Heap->Prop) (h:Heap):Prop:=
 let h_:Heap:=(h).push (.cells (Value.cells c.v) 29);LdC h_ ⟨h.size,0,none⟩ fun t=>CallsH P 170 #[t.v] h_ fun v h_1=>
 ∃ (t1:Int),v=(.int .i64 t1)/\PIf (t1=0)
 (J146_0 P R h h_1)
 (R (.tuple #[.pointer none,.int .i64 0,.int .i64 t1]) h_1)
theorem run146 (c:CV) (R:Value->Heap->Prop) (h:Heap) (hv:VC146 Tryz.prog c R h):CallsH Tryz.prog 146 #[c.v] h R:=calls_of_fnC (Checked.mixed Tryz.checked) Tryz.func146 comp146 (Nat.le_of_ble_eq_true rfl) (Eq.mp (by kernel_rfl) hv)
def loops131:List (List (Nat×Shp)):=[[(4,.int .i64),(5,.int .i64)]]
noncomputable def code131:SCode:=((compF Tryz.prog Tryz.f131 loops131).elim .skip fun x=>x.2.2)
def ret131:List RV:=[.tmp 2]
theorem comp131:compF Tryz.prog Tryz.f131 loops131=some (109,ret131,code131):=by kernel_rfl
def J131_2  (h:Heap) (all i:Int) (next_:(Int×Int->Heap->Prop)) (h_3:Heap):Prop:=
 ∃ (A1:Option Addr) (N1 C1:Nat),cellH h_3 (Addr.add ⟨h.size,0,none⟩ 6)=some (.slice A1 N1 C1)/\0≤i/\i<(N1:Nat)/\AtP A1 fun ad=>∃ (A2:Option Addr) (N2 C2:Nat),cellH h_3 (Addr.add ad (Int.toNat i*1))=some (.slice A2 N2 C2)/\next_ ((IntKind.wrap .i64 (all+((N2:Nat):Int))),(IntKind.wrap .i64 (i+1))) h_3
def J131_1  (R:Value->Heap->Prop) (h:Heap) (all1:Int) (h_4:Heap):Prop:=
 ∃ (A3:Option Addr) (N3 C3:Nat),cellH h_4 (Addr.add ⟨h.size,0,none⟩ 1)=some (.slice A3 N3 C3)/\PIf ((16384:Int)<((N3:Nat):Int))
 (R (.int .i64 2) h_4)
 (∃ (A4:Option Addr) (N4 C4:Nat),cellH h_4 (Addr.add ⟨h.size,0,none⟩ 2)=some (.slice A4 N4 C4)/\PIf ((16384:Int)<((N4:Nat):Int))
 (R (.int .i64 2) h_4)
 (∃ (A5:Option Addr) (N5 C5:Nat),cellH h_4 (Addr.add ⟨h.size,0,none⟩ 3)=some (.slice A5 N5 C5)/\PIf ((16384:Int)<((N5:Nat):Int))
 (R (.int .i64 2) h_4)
 (∃ (A6:Option Addr) (N6 C6:Nat),cellH h_4 (Addr.add ⟨h.size,0,none⟩ 4)=some (.slice A6 N6 C6)/\PIf ((16384:Int)<((N6:Nat):Int))
 (R (.int .i64 2) h_4)
 (∃ (A7:Option Addr) (N7 C7:Nat),cellH h_4 (Addr.add ⟨h.size,0,none⟩ 5)=some (.slice A7 N7 C7)/\PIf ((16384:Int)<((N7:Nat):Int))
 (R (.int .i64 2) h_4)
 (∃ (A8:Option Addr) (N8 C8:Nat),cellH h_4 (Addr.add ⟨h.size,0,none⟩ 6)=some (.slice A8 N8 C8)/\PIf ((16384:Int)<((N8:Nat):Int))
 (R (.int .i64 2) h_4)
 (∃ (A9:Option Addr) (N9 C9:Nat),cellH h_4 (Addr.add ⟨h.size,0,none⟩ 7)=some (.slice A9 N9 C9)/\PIf ((16384:Int)<((N9:Nat):Int))
 (R (.int .i64 2) h_4)
 (∃ (A10:Option Addr) (N10 C10:Nat),cellH h_4 (Addr.add ⟨h.size,0,none⟩ 8)=some (.slice A10 N10 C10)/\PIf ((16384:Int)<((N10:Nat):Int))
 (R (.int .i64 2) h_4)
 (∃ (A11:Option Addr) (N11 C11:Nat),cellH h_4 (Addr.add ⟨h.size,0,none⟩ 9)=some (.slice A11 N11 C11)/\PIf ((16384:Int)<((N11:Nat):Int))
 (R (.int .i64 2) h_4)
 (∃ (A12:Option Addr) (N12 C12:Nat),cellH h_4 (Addr.add ⟨h.size,0,none⟩ 10)=some (.slice A12 N12 C12)/\PIf ((16384:Int)<((N12:Nat):Int))
 (R (.int .i64 2) h_4)
 (PIf ((16384:Int)<all1)
 (R (.int .i64 2) h_4)
 (R (.int .i64 0) h_4)))))))))))
def B131_3 (R:Value->Heap->Prop) (h:Heap) (all i:Int) (h_2:Heap) (next_:Int×Int->Heap->Prop):Prop:=
 ∃ (A:Option Addr) (N C:Nat),cellH h_2 (Addr.add ⟨h.size,0,none⟩ 6)=some (.slice A N C)/\PIf (i<((N:Nat):Int))
 (PIf (i≤16384)
 (J131_2 h all i next_ h_2)
 (J131_1 R h (all) h_2))
 (J131_1 R h (all) h_2)
def J131_0  (R:Value->Heap->Prop) (h h_1:Heap):Prop:=
 LoopT (σ:=Int×Int) (fun st_ h_st nx_st=>B131_3 R h (st_.1) (st_.2) h_st nx_st) (0,0) h_1
def VC131 (P:Program) (c:CV) (R:Value->Heap->Prop) (h:Heap):Prop:=
 let h_:Heap:=(h).push (.cells (Value.cells c.v) 29);∃ (t:Int),cellH h_ (Addr.add ⟨h.size,0,none⟩ 0)=some (.int .i64 t)/\PIf (t<0)
 (R (.int .i64 1) h_)
 (∃ (t1:Int),cellH h_ (Addr.add ⟨h.size,0,none⟩ 0)=some (.int .i64 t1)/\PIf ((16384:Int)<t1)
 (R (.int .i64 1) h_)
 (J131_0 R h h_))
theorem run131 (c:CV) (R:Value->Heap->Prop) (h:Heap) (hv:VC131 Tryz.prog c R h):CallsH Tryz.prog 131 #[c.v] h R:=calls_of_fnC (Checked.mixed Tryz.checked) Tryz.func131 comp131 (Nat.le_of_ble_eq_true rfl) (Eq.mp (by kernel_rfl) hv)
def loops170:List (List (Nat×Shp)):=[[(44,.int .i64)]]
noncomputable def code170:SCode:=((compF Tryz.prog Tryz.f170 loops170).elim .skip fun x=>x.2.2)
def ret170:List RV:=[.tmp 2]
theorem comp170:compF Tryz.prog Tryz.f170 loops170=some (54,ret170,code170):=by kernel_rfl
def J170_2  (R:Value->Heap->Prop) (N N1 N2 N3 N4 N5 N6 N7 N8 N9:Nat) (t2:Int) (next_:(Int->Heap->Prop)) (h_3:Heap):Prop:=
 0≤t2/\t2<(10:Nat)/\∃ (t3:Int),([(.int .i64 ((N:Nat):Int)),(.int .i64 ((N1:Nat):Int)),(.int .i64 ((N2:Nat):Int)),(.int .i64 ((N3:Nat):Int)),(.int .i64 ((N4:Nat):Int)),(.int .i64 ((N5:Nat):Int)),(.int .i64 ((N6:Nat):Int)),(.int .i64 ((N7:Nat):Int)),(.int .i64 ((N8:Nat):Int)),(.int .i64 ((N9:Nat):Int))]:List Value)[Int.toNat t2]?=some (.int .i64 t3)/\PIf ((16384:Int)<t3)
 (R (.int .i64 2) h_3)
 (next_ (IntKind.wrap .i64 (t2+1)) h_3)
def J170_1  (P:Program) (R:Value->Heap->Prop) (h h_4:Heap):Prop:=
 ∃ (A10:Option Addr) (N10 C10:Nat),cellH h_4 (Addr.add ⟨h.size,0,none⟩ 6)=some (.slice A10 N10 C10)/\CallsH P 182 #[.slice A10 N10 C10] h_4 fun v h_5=>
 ∃ (t4:Int),v=(.int .i64 t4)/\PIf ((16384:Int)<t4)
 (R (.int .i64 2) h_5)
 (R (.int .i64 0) h_5)
def B170_4 (P:Program) (R:Value->Heap->Prop) (h:Heap) (N N1 N2 N3 N4 N5 N6 N7 N8 N9:Nat) (t2:Int) (h_2:Heap) (next_:Int->Heap->Prop):Prop:=
 PIf (t2<10)
 (J170_2 R N N1 N2 N3 N4 N5 N6 N7 N8 N9 t2 next_ h_2)
 (J170_1 P R h h_2)
def J170_0  (P:Program) (R:Value->Heap->Prop) (h h_1:Heap):Prop:=
 ∃ (A:Option Addr) (N C:Nat),cellH h_1 (Addr.add ⟨h.size,0,none⟩ 1)=some (.slice A N C)/\∃ (A1:Option Addr) (N1 C1:Nat),cellH h_1 (Addr.add ⟨h.size,0,none⟩ 2)=some (.slice A1 N1 C1)/\∃ (A2:Option Addr) (N2 C2:Nat),cellH h_1 (Addr.add ⟨h.size,0,none⟩ 3)=some (.slice A2 N2 C2)/\∃ (A3:Option Addr) (N3 C3:Nat),cellH h_1 (Addr.add ⟨h.size,0,none⟩ 4)=some (.slice A3 N3 C3)/\∃ (A4:Option Addr) (N4 C4:Nat),cellH h_1 (Addr.add ⟨h.size,0,none⟩ 5)=some (.slice A4 N4 C4)/\∃ (A5:Option Addr) (N5 C5:Nat),cellH h_1 (Addr.add ⟨h.size,0,none⟩ 6)=some (.slice A5 N5 C5)/\∃ (A6:Option Addr) (N6 C6:Nat),cellH h_1 (Addr.add ⟨h.size,0,none⟩ 7)=some (.slice A6 N6 C6)/\∃ (A7:Option Addr) (N7 C7:Nat),cellH h_1 (Addr.add ⟨h.size,0,none⟩ 8)=some (.slice A7 N7 C7)/\∃ (A8:Option Addr) (N8 C8:Nat),cellH h_1 (Addr.add ⟨h.size,0,none⟩ 9)=some (.slice A8 N8 C8)/\∃ (A9:Option Addr) (N9 C9:Nat),cellH h_1 (Addr.add ⟨h.size,0,none⟩ 10)=some (.slice A9 N9 C9)/\LoopT (σ:=Int) (fun st_ h_st nx_st=>B170_4 P R h N N1 N2 N3 N4 N5 N6 N7 N8 N9 (st_) h_st nx_st) (0) h_1
def VC170 (P:Program) (c:CV) (R:Value->Heap->Prop) (h:Heap):Prop:=
 let h_:Heap:=(h).push (.cells (Value.cells c.v) 29);∃ (t:Int),cellH h_ (Addr.add ⟨h.size,0,none⟩ 0)=some (.int .i64 t)/\PIf (t<0)
 (R (.int .i64 1) h_)
 (∃ (t1:Int),cellH h_ (Addr.add ⟨h.size,0,none⟩ 0)=some (.int .i64 t1)/\PIf ((16384:Int)<t1)
 (R (.int .i64 1) h_)
 (J170_0 P R h h_))
theorem run170 (c:CV) (R:Value->Heap->Prop) (h:Heap) (hv:VC170 Tryz.prog c R h):CallsH Tryz.prog 170 #[c.v] h R:=calls_of_fnC (Checked.mixed Tryz.checked) Tryz.func170 comp170 (Nat.le_of_ble_eq_true rfl) (Eq.mp (by kernel_rfl) hv)
def loops171:List (List (Nat×Shp)):=[[(19,.int .i64)],[(40,.int .i64)],[(78,.int .i64)]]
noncomputable def code171:SCode:=((compF Tryz.prog Tryz.f171 loops171).elim .skip fun x=>x.2.2)
def ret171:List RV:=[.tmp 2,.tmp 3]
theorem comp171:compF Tryz.prog Tryz.f171 loops171=some (94,ret171,code171):=by kernel_rfl
def J171_1  (P:Program) (R:Value->Heap->Prop) (k:(Option Addr)) (A:(Option Addr)) (N:Nat) (t:Int) (next_:(Int->Heap->Prop)) (h_1:Heap):Prop:=
 0≤t/\t<(N:Nat)/\AtP A fun ad1=>∃ (t1:Int),cellH h_1 (Addr.add ad1 (Int.toNat t*1))=some (.int .i64 t1)/\CallsH P 183 #[.pointer k,.int .i64 t1,(.agg #[.int .i64 1,.int .i64 t])] h_1 fun v h_2=>
 ∃ (t2:Int),v=(.int .i64 t2)/\PIf (t2=0)
 (next_ (IntKind.wrap .i64 (t+1)) h_2)
 (R (.tuple #[.int .i64 t,.int .i64 t2]) h_2)
def J171_5  (R:Value->Heap->Prop) (t3:Int) (next_1:(Int->Heap->Prop)) (h_5 h_9:Heap):Prop:=
 ∃ (t9:Int),cellH h_9 (Addr.add ⟨h_5.size,0,none⟩ 2)=some (.int .i64 t9)/\PIf (t9=0)
 (next_1 (IntKind.wrap .i64 (t3+1)) h_9)
 (∃ (t10:Int),cellH h_9 (Addr.add ⟨h_5.size,0,none⟩ 2)=some (.int .i64 t10)/\PIf (t10=1)
 (next_1 (IntKind.wrap .i64 (t3+1)) h_9)
 (∃ (t11:Int),cellH h_9 (Addr.add ⟨h_5.size,0,none⟩ 2)=some (.int .i64 t11)/\∃ (t12:Int),cellH h_9 (Addr.add ⟨h_5.size,0,none⟩ 0)=some (.int .i64 t12)/\PIf (t11=t12)
 (next_1 (IntKind.wrap .i64 (t3+1)) h_9)
 (R (.tuple #[.int .i64 t3,.int .i64 33]) h_9)))
def J171_4  (P:Program) (R:Value->Heap->Prop) (k:(Option Addr)) (A1:(Option Addr)) (N1:Nat) (t3:Int) (next_1:(Int->Heap->Prop)) (h_5:Heap):Prop:=
 0≤t3/\t3<(N1:Nat)/\AtP A1 fun ad3=>∃ (t4 t5 t6:Int),cellsH h_5 (Addr.add ad3 (Int.toNat t3*3)) 0 [.int .i64 t4,.int .i64 t5,.int .i64 t6]/\let h_6:Heap:=(h_5).push (.cells #[.int .i64 0,.int .i64 0,.int .i64 0] 65);StoreH h_6 ⟨h_5.size,0,none⟩ [.int .i64 t4,.int .i64 t5,.int .i64 t6] fun h_7=>∃ (t7:Int),cellH h_7 (Addr.add ⟨h_5.size,0,none⟩ 0)=some (.int .i64 t7)/\CallsH P 183 #[.pointer k,.int .i64 t7,(.agg #[.int .i64 2,.int .i64 t3])] h_7 fun v1 h_8=>
 ∃ (t8:Int),v1=(.int .i64 t8)/\PIf (t8=0)
 (J171_5 R t3 next_1 h_5 h_8)
 (R (.tuple #[.int .i64 t3,.int .i64 t8]) h_8)
def J171_8  (P:Program) (R:Value->Heap->Prop) (k:(Option Addr)) (A2:(Option Addr)) (N2:Nat) (t13:Int) (next_2:(Int->Heap->Prop)) (h_12:Heap):Prop:=
 0≤t13/\t13<(N2:Nat)/\AtP A2 fun ad5=>∃ (t14 t15 t16:Int),cellsH h_12 (Addr.add ad5 (Int.toNat t13*3)) 0 [.int .i64 t14,.int .i64 t15,.int .i64 t16]/\let h_13:Heap:=(h_12).push (.cells #[.int .i64 0,.int .i64 0,.int .i64 0] 67);StoreH h_13 ⟨h_12.size,0,none⟩ [.int .i64 t14,.int .i64 t15,.int .i64 t16] fun h_14=>∃ (t17:Int),cellH h_14 (Addr.add ⟨h_12.size,0,none⟩ 0)=some (.int .i64 t17)/\CallsH P 183 #[.pointer k,.int .i64 t17,(.agg #[.int .i64 3,.int .i64 t13])] h_14 fun v2 h_15=>
 ∃ (t18:Int),v2=(.int .i64 t18)/\PIf (t18=0)
 (next_2 (IntKind.wrap .i64 (t13+1)) h_15)
 (R (.tuple #[.int .i64 t13,.int .i64 t18]) h_15)
def J171_7  (R:Value->Heap->Prop) (h_16:Heap):Prop:=
 R (.tuple #[.int .i64 0,.int .i64 0]) h_16
def B171_10 (P:Program) (R:Value->Heap->Prop) (k:(Option Addr)) (A2:(Option Addr)) (N2:Nat) (t13:Int) (h_11:Heap) (next_2:Int->Heap->Prop):Prop:=
 PIf (t13<((N2:Nat):Int))
 (J171_8 P R k A2 N2 t13 next_2 h_11)
 (J171_7 R h_11)
def J171_3  (P:Program) (R:Value->Heap->Prop) (k:(Option Addr)) (h_10:Heap):Prop:=
 AtP k fun ad4=>∃ (A2:Option Addr) (N2 C2:Nat),cellH h_10 (Addr.add (Addr.add ad4 0) 8)=some (.slice A2 N2 C2)/\LoopT (σ:=Int) (fun st_ h_st nx_st=>B171_10 P R k A2 N2 (st_) h_st nx_st) (0) h_10
def B171_11 (P:Program) (R:Value->Heap->Prop) (k:(Option Addr)) (A1:(Option Addr)) (N1:Nat) (t3:Int) (h_4:Heap) (next_1:Int->Heap->Prop):Prop:=
 PIf (t3<((N1:Nat):Int))
 (J171_4 P R k A1 N1 t3 next_1 h_4)
 (J171_3 P R k h_4)
def J171_0  (P:Program) (R:Value->Heap->Prop) (k:(Option Addr)) (h_3:Heap):Prop:=
 AtP k fun ad2=>∃ (A1:Option Addr) (N1 C1:Nat),cellH h_3 (Addr.add (Addr.add ad2 0) 2)=some (.slice A1 N1 C1)/\LoopT (σ:=Int) (fun st_ h_st nx_st=>B171_11 P R k A1 N1 (st_) h_st nx_st) (0) h_3
def B171_12 (P:Program) (R:Value->Heap->Prop) (k:(Option Addr)) (A:(Option Addr)) (N:Nat) (t:Int) (h_:Heap) (next_:Int->Heap->Prop):Prop:=
 PIf (t<((N:Nat):Int))
 (J171_1 P R k A N t next_ h_)
 (J171_0 P R k h_)
def VC171 (P:Program) (k:Option Addr) (R:Value->Heap->Prop) (h:Heap):Prop:=
 AtP k fun ad=>∃ (A:Option Addr) (N C:Nat),cellH h (Addr.add (Addr.add ad 0) 1)=some (.slice A N C)/\LoopT (σ:=Int) (fun st_ h_st nx_st=>B171_12 P R k A N (st_) h_st nx_st) (0) h
theorem run171 (k:Option Addr) (R:Value->Heap->Prop) (h:Heap) (hv:VC171 Tryz.prog k R h):CallsH Tryz.prog 171 #[.pointer k] h R:=calls_of_fnC (Checked.mixed Tryz.checked) Tryz.func171 comp171 (Nat.le_of_ble_eq_true rfl) (Eq.mp (by kernel_rfl) hv)
def loops172:List (List (Nat×Shp)):=[[(27,.int .i64)],[(59,.int .i64)],[(65,.int .i64)],[(86,.int .i64)],[(105,.int .i64)],[(125,.int .i64)]]
noncomputable def code172:SCode:=((compF Tryz.prog Tryz.f172 loops172).elim .skip fun x=>x.2.2)
def ret172:List RV:=[.tmp 2,.tmp 3]
theorem comp172:compF Tryz.prog Tryz.f172 loops172=some (142,ret172,code172):=by kernel_rfl
def J172_1  (P:Program) (R:Value->Heap->Prop) (k:(Option Addr)) (A:(Option Addr)) (N:Nat) (t:Int) (next_:(Int->Heap->Prop)) (h_1:Heap):Prop:=
 0≤t/\t<(N:Nat)/\AtP A fun ad1=>∃ (t1 t2 t3:Int),cellsH h_1 (Addr.add ad1 (Int.toNat t*3)) 0 [.int .i64 t1,.int .i64 t2,.int .i64 t3]/\let h_2:Heap:=(h_1).push (.cells #[.int .i64 0,.int .i64 0,.int .i64 0] 65);StoreH h_2 ⟨h_1.size,0,none⟩ [.int .i64 t1,.int .i64 t2,.int .i64 t3] fun h_3=>∃ (t4:Int),cellH h_3 (Addr.add ⟨h_1.size,0,none⟩ 1)=some (.int .i64 t4)/\let h_4:Heap:=(h_3).push (.cells #[.int .i64 t4] 3);CallsH P 184 #[.pointer k,(.slice (some ⟨h_3.size,0,none⟩) 1 1)] h_4 fun v h_5=>
 ∃ (t5:Int),v=(.int .i64 t5)/\PIf (t5=0)
 (next_ (IntKind.wrap .i64 (t+1)) h_5)
 (R (.tuple #[.int .i64 t,.int .i64 t5]) h_5)
def J172_6  (P:Program) (R:Value->Heap->Prop) (k:(Option Addr)) (A4:(Option Addr)) (N4:Nat) (t7:Int) (next_2:(Int->Heap->Prop)) (h_11:Heap):Prop:=
 0≤t7/\t7<(N4:Nat)/\AtP A4 fun ad5=>∃ (t8:Int),cellH h_11 (Addr.add ad5 (Int.toNat t7*1))=some (.int .i64 t8)/\let h_12:Heap:=(h_11).push (.cells #[.int .i64 t8] 3);CallsH P 184 #[.pointer k,(.slice (some ⟨h_11.size,0,none⟩) 1 1)] h_12 fun v1 h_13=>
 ∃ (t9:Int),v1=(.int .i64 t9)/\PIf (t9=0)
 (next_2 (IntKind.wrap .i64 (t7+1)) h_13)
 (R (.tuple #[.int .i64 t7,.int .i64 t9]) h_13)
def J172_5  (t6:Int) (next_1:(Int->Heap->Prop)) (h_14:Heap):Prop:=
 next_1 (IntKind.wrap .i64 (t6+1)) h_14
def B172_8 (P:Program) (R:Value->Heap->Prop) (k:(Option Addr)) (t6:Int) (next_1:(Int->Heap->Prop)) (A4:(Option Addr)) (N4:Nat) (t7:Int) (h_10:Heap) (next_2:Int->Heap->Prop):Prop:=
 PIf (t7<((N4:Nat):Int))
 (J172_6 P R k A4 N4 t7 next_2 h_10)
 (J172_5 t6 next_1 h_10)
def J172_4  (P:Program) (R:Value->Heap->Prop) (k:(Option Addr)) (h_6:Heap) (t6:Int) (next_1:(Int->Heap->Prop)) (h_9:Heap):Prop:=
 0≤t6/\t6<(3:Nat)/\∃ (A4:Option Addr) (N4 C4:Nat),cellH h_9 (Addr.add ⟨h_6.size,0,none⟩ (Int.toNat t6*1))=some (.slice A4 N4 C4)/\LoopT (σ:=Int) (fun st_ h_st nx_st=>B172_8 P R k t6 next_1 A4 N4 (st_) h_st nx_st) (0) h_9
def J172_11  (P:Program) (R:Value->Heap->Prop) (k:(Option Addr)) (A5:(Option Addr)) (N5:Nat) (t10:Int) (next_3:(Int->Heap->Prop)) (h_17:Heap):Prop:=
 0≤t10/\t10<(N5:Nat)/\AtP A5 fun ad7=>∃ (A6:Option Addr) (N6 C6:Nat),cellH h_17 (Addr.add ad7 (Int.toNat t10*1))=some (.slice A6 N6 C6)/\CallsH P 184 #[.pointer k,.slice A6 N6 C6] h_17 fun v2 h_18=>
 ∃ (t11:Int),v2=(.int .i64 t11)/\PIf (t11=0)
 (next_3 (IntKind.wrap .i64 (t10+1)) h_18)
 (R (.tuple #[.int .i64 t10,.int .i64 t11]) h_18)
def J172_14  (P:Program) (R:Value->Heap->Prop) (k:(Option Addr)) (A7:(Option Addr)) (N7:Nat) (t12:Int) (next_4:(Int->Heap->Prop)) (h_21:Heap):Prop:=
 0≤t12/\t12<(N7:Nat)/\AtP A7 fun ad9=>∃ (t13:Int),cellH h_21 (Addr.add ad9 (Int.toNat t12*1))=some (.int .i64 t13)/\let h_22:Heap:=(h_21).push (.cells #[.int .i64 t13] 3);CallsH P 184 #[.pointer k,(.slice (some ⟨h_21.size,0,none⟩) 1 1)] h_22 fun v3 h_23=>
 ∃ (t14:Int),v3=(.int .i64 t14)/\PIf (t14=0)
 (next_4 (IntKind.wrap .i64 (t12+1)) h_23)
 (R (.tuple #[.int .i64 t12,.int .i64 t14]) h_23)
def J172_17  (P:Program) (R:Value->Heap->Prop) (k:(Option Addr)) (A8:(Option Addr)) (N8:Nat) (t15:Int) (next_5:(Int->Heap->Prop)) (h_26:Heap):Prop:=
 0≤t15/\t15<(N8:Nat)/\AtP A8 fun ad11=>∃ (t16 t17 t18:Int),cellsH h_26 (Addr.add ad11 (Int.toNat t15*3)) 0 [.int .i64 t16,.int .i64 t17,.int .i64 t18]/\let h_27:Heap:=(h_26).push (.cells #[.int .i64 0,.int .i64 0,.int .i64 0] 67);StoreH h_27 ⟨h_26.size,0,none⟩ [.int .i64 t16,.int .i64 t17,.int .i64 t18] fun h_28=>∃ (t19:Int),cellH h_28 (Addr.add ⟨h_26.size,0,none⟩ 1)=some (.int .i64 t19)/\∃ (t20:Int),cellH h_28 (Addr.add ⟨h_26.size,0,none⟩ 2)=some (.int .i64 t20)/\let h_29:Heap:=(h_28).push (.cells #[.int .i64 t19,.int .i64 t20] 3);CallsH P 184 #[.pointer k,(.slice (some ⟨h_28.size,0,none⟩) 2 2)] h_29 fun v4 h_30=>
 ∃ (t21:Int),v4=(.int .i64 t21)/\PIf (t21=0)
 (next_5 (IntKind.wrap .i64 (t15+1)) h_30)
 (R (.tuple #[.int .i64 t15,.int .i64 t21]) h_30)
def J172_16  (R:Value->Heap->Prop) (h_31:Heap):Prop:=
 R (.tuple #[.int .i64 0,.int .i64 0]) h_31
def B172_19 (P:Program) (R:Value->Heap->Prop) (k:(Option Addr)) (A8:(Option Addr)) (N8:Nat) (t15:Int) (h_25:Heap) (next_5:Int->Heap->Prop):Prop:=
 PIf (t15<((N8:Nat):Int))
 (J172_17 P R k A8 N8 t15 next_5 h_25)
 (J172_16 R h_25)
def J172_13  (P:Program) (R:Value->Heap->Prop) (k:(Option Addr)) (h_24:Heap):Prop:=
 AtP k fun ad10=>∃ (A8:Option Addr) (N8 C8:Nat),cellH h_24 (Addr.add (Addr.add ad10 0) 8)=some (.slice A8 N8 C8)/\LoopT (σ:=Int) (fun st_ h_st nx_st=>B172_19 P R k A8 N8 (st_) h_st nx_st) (0) h_24
def B172_20 (P:Program) (R:Value->Heap->Prop) (k:(Option Addr)) (A7:(Option Addr)) (N7:Nat) (t12:Int) (h_20:Heap) (next_4:Int->Heap->Prop):Prop:=
 PIf (t12<((N7:Nat):Int))
 (J172_14 P R k A7 N7 t12 next_4 h_20)
 (J172_13 P R k h_20)
def J172_10  (P:Program) (R:Value->Heap->Prop) (k:(Option Addr)) (h_19:Heap):Prop:=
 AtP k fun ad8=>∃ (A7:Option Addr) (N7 C7:Nat),cellH h_19 (Addr.add (Addr.add ad8 0) 7)=some (.slice A7 N7 C7)/\LoopT (σ:=Int) (fun st_ h_st nx_st=>B172_20 P R k A7 N7 (st_) h_st nx_st) (0) h_19
def B172_21 (P:Program) (R:Value->Heap->Prop) (k:(Option Addr)) (A5:(Option Addr)) (N5:Nat) (t10:Int) (h_16:Heap) (next_3:Int->Heap->Prop):Prop:=
 PIf (t10<((N5:Nat):Int))
 (J172_11 P R k A5 N5 t10 next_3 h_16)
 (J172_10 P R k h_16)
def J172_3  (P:Program) (R:Value->Heap->Prop) (k:(Option Addr)) (h_15:Heap):Prop:=
 AtP k fun ad6=>∃ (A5:Option Addr) (N5 C5:Nat),cellH h_15 (Addr.add (Addr.add ad6 0) 6)=some (.slice A5 N5 C5)/\LoopT (σ:=Int) (fun st_ h_st nx_st=>B172_21 P R k A5 N5 (st_) h_st nx_st) (0) h_15
def B172_22 (P:Program) (R:Value->Heap->Prop) (k:(Option Addr)) (h_6:Heap) (t6:Int) (h_8:Heap) (next_1:Int->Heap->Prop):Prop:=
 PIf (t6<((3:Nat):Int))
 (J172_4 P R k h_6 t6 next_1 h_8)
 (J172_3 P R k h_8)
def J172_0  (P:Program) (R:Value->Heap->Prop) (k:(Option Addr)) (h_6:Heap):Prop:=
 AtP k fun ad2=>∃ (A1:Option Addr) (N1 C1:Nat),cellH h_6 (Addr.add (Addr.add ad2 0) 3)=some (.slice A1 N1 C1)/\AtP k fun ad3=>∃ (A2:Option Addr) (N2 C2:Nat),cellH h_6 (Addr.add (Addr.add ad3 0) 4)=some (.slice A2 N2 C2)/\AtP k fun ad4=>∃ (A3:Option Addr) (N3 C3:Nat),cellH h_6 (Addr.add (Addr.add ad4 0) 5)=some (.slice A3 N3 C3)/\let h_7:Heap:=(h_6).push (.cells #[.slice A1 N1 C1,.slice A2 N2 C2,.slice A3 N3 C3] 22);LoopT (σ:=Int) (fun st_ h_st nx_st=>B172_22 P R k h_6 (st_) h_st nx_st) (0) h_7
def B172_23 (P:Program) (R:Value->Heap->Prop) (k:(Option Addr)) (A:(Option Addr)) (N:Nat) (t:Int) (h_:Heap) (next_:Int->Heap->Prop):Prop:=
 PIf (t<((N:Nat):Int))
 (J172_1 P R k A N t next_ h_)
 (J172_0 P R k h_)
def VC172 (P:Program) (k:Option Addr) (R:Value->Heap->Prop) (h:Heap):Prop:=
 AtP k fun ad=>∃ (A:Option Addr) (N C:Nat),cellH h (Addr.add (Addr.add ad 0) 2)=some (.slice A N C)/\LoopT (σ:=Int) (fun st_ h_st nx_st=>B172_23 P R k A N (st_) h_st nx_st) (0) h
theorem run172 (k:Option Addr) (R:Value->Heap->Prop) (h:Heap) (hv:VC172 Tryz.prog k R h):CallsH Tryz.prog 172 #[.pointer k] h R:=calls_of_fnC (Checked.mixed Tryz.checked) Tryz.func172 comp172 (Nat.le_of_ble_eq_true rfl) (Eq.mp (by kernel_rfl) hv)
def loops173:List (List (Nat×Shp)):=[[(23,.int .i64)],[(5,.slice)]]
noncomputable def code173:SCode:=((compF Tryz.prog Tryz.f173 loops173).elim .skip fun x=>x.2.2)
def ret173:List RV:=[.tmp 2]
theorem comp173:compF Tryz.prog Tryz.f173 loops173=some (68,ret173,code173):=by kernel_rfl
def J173_6  (P:Program) (k:(Option Addr)) (h_3:Heap) (N3:Nat) (workA:(Option Addr)) (workN workC:Nat) (next_1:((Option Addr×Nat×Nat)->Heap->Prop)) (t1:Int) (h_8:Heap):Prop:=
 0≤t1/\t1<((Int.toNat ((N3:Nat):Int)):Nat)/\∃ (t2:Bool),cellH h_8 (Addr.add ⟨h_3.size,0,none⟩ (Int.toNat t1*1))=some (.bool t2)/\BIf (!t2) (0≤t1/\t1<((Int.toNat ((N3:Nat):Int)):Nat)/\StoreH h_8 (Addr.add ⟨h_3.size,0,none⟩ (Int.toNat t1*1)) [.bool true] fun h_9=>CallsH P 185 #[.pointer k,.int .i64 t1] h_9 fun v2 h_10=>
 ∃ (A5:Option Addr) (N5 C5:Nat),v2=(.slice A5 N5 C5)/\∃ ys:List Value,ReadL h_10 A5 ys/\ys.length=N5*1/\AppS h_10 (cutA 1 workA workC (Int.toNat 0)) (Int.toNat (IntKind.wrap .i64 (((workN:Nat):Int)-1))-Int.toNat 0) (workC-Int.toNat 0) 3 8 1 #[.int .i64 0] ys N5 fun apA apN apC h_11=>next_1 ((apA,apN,apC)) h_11) (next_1 (((cutA 1 workA workC (Int.toNat 0)),(Int.toNat (IntKind.wrap .i64 (((workN:Nat):Int)-1))-Int.toNat 0),(workC-Int.toNat 0))) h_8)
def J173_5  (P:Program) (R:Value->Heap->Prop) (k:(Option Addr)) (t:Int) (h_3:Heap) (N3:Nat) (workA:(Option Addr)) (workN workC:Nat) (next_1:((Option Addr×Nat×Nat)->Heap->Prop)) (h_7:Heap):Prop:=
 0≤((IntKind.wrap .i64 (((workN:Nat):Int)-1)):Int)/\((IntKind.wrap .i64 (((workN:Nat):Int)-1)):Int)<(workN:Nat)/\AtP workA fun ad3=>∃ (t1:Int),cellH h_7 (Addr.add ad3 (Int.toNat (IntKind.wrap .i64 (((workN:Nat):Int)-1))*1))=some (.int .i64 t1)/\0≤(0:Int)/\(0:Int)≤(IntKind.wrap .i64 (((workN:Nat):Int)-1))/\((IntKind.wrap .i64 (((workN:Nat):Int)-1)):Int)≤(workC:Nat)/\PIf (t1=t)
 (R (.int .i64 t) h_7)
 (J173_6 P k h_3 N3 workA workN workC next_1 t1 h_7)
def J173_3  (t:Int) (next_:(Int->Heap->Prop)) (h_13:Heap):Prop:=
 next_ (IntKind.wrap .i64 (t+1)) h_13
def J173_4  (t:Int) (next_:(Int->Heap->Prop)) (h_12:Heap):Prop:=
 J173_3 t next_ h_12
def B173_7 (P:Program) (R:Value->Heap->Prop) (k:(Option Addr)) (t:Int) (next_:(Int->Heap->Prop)) (h_3:Heap) (N3:Nat) (workA:Option Addr) (workN workC:Nat) (h_6:Heap) (next_1:(Option Addr×Nat×Nat)->Heap->Prop):Prop:=
 PIf ((0:Int)<((workN:Nat):Int))
 (J173_5 P R k t h_3 N3 workA workN workC next_1 h_6)
 (J173_4 t next_ h_6)
def J173_2  (P:Program) (R:Value->Heap->Prop) (k:(Option Addr)) (t:Int) (next_:(Int->Heap->Prop)) (h_3:Heap):Prop:=
 AtP k fun ad2=>∃ (A3:Option Addr) (N3 C3:Nat),cellH h_3 (Addr.add (Addr.add ad2 0) 8)=some (.slice A3 N3 C3)/\0≤(((N3:Nat):Int):Int)/\(((N3:Nat):Int):Int)≤((N3:Nat):Int)/\(1:Int)*((N3:Nat):Int)≤281474976710656/\let h_4:Heap:=(h_3).push (.cells (zeroRow #[.bool false] (Int.toNat ((N3:Nat):Int)*1)).toArray 4);CallsH P 185 #[.pointer k,.int .i64 t] h_4 fun v1 h_5=>
 ∃ (A4:Option Addr) (N4 C4:Nat),v1=(.slice A4 N4 C4)/\LoopT (σ:=(Option Addr×Nat×Nat)) (fun st_ h_st nx_st=>B173_7 P R k t next_ h_3 N3 (st_.1) (st_.2.1) (st_.2.2) h_st nx_st) ((A4,N4,C4)) h_5
def J173_1  (R:Value->Heap->Prop) (h_14:Heap):Prop:=
 R (.int .i64 (-1)) h_14
def B173_9 (P:Program) (R:Value->Heap->Prop) (k:(Option Addr)) (N2:Nat) (t:Int) (h_2:Heap) (next_:Int->Heap->Prop):Prop:=
 PIf (t<((N2:Nat):Int))
 (J173_2 P R k t next_ h_2)
 (J173_1 R h_2)
def J173_0  (P:Program) (R:Value->Heap->Prop) (k:(Option Addr)) (h_1:Heap):Prop:=
 AtP k fun ad1=>∃ (A2:Option Addr) (N2 C2:Nat),cellH h_1 (Addr.add (Addr.add ad1 0) 8)=some (.slice A2 N2 C2)/\LoopT (σ:=Int) (fun st_ h_st nx_st=>B173_9 P R k N2 (st_) h_st nx_st) (0) h_1
def VC173 (P:Program) (k:Option Addr) (R:Value->Heap->Prop) (h:Heap):Prop:=
 ∃ zn:Zone,CallsH P 180 #[.pointer k] h fun v h_=>
 ∃ (A:Option Addr) (N C:Nat),v=(.slice A N C)/\Zone.r zn h h_/\AtP k fun ad=>Zone.hasL zn h_ (Addr.add (Addr.add ad 0) 8)/\∃ (A1:Option Addr) (N1 C1:Nat),cellH h_ (Addr.add (Addr.add ad 0) 8)=some (.slice A1 N1 C1)/\PIf ((((N:Nat):Int):Int)=((N1:Nat):Int))
 (R (.int .i64 (-1)) h_)
 (J173_0 P R k h_)
theorem run173 (k:Option Addr) (R:Value->Heap->Prop) (h:Heap) (hv:VC173 Tryz.prog k R h):CallsH Tryz.prog 173 #[.pointer k] h R:=calls_of_fnC (Checked.mixed Tryz.checked) Tryz.func173 comp173 (Nat.le_of_ble_eq_true rfl) (Eq.mp (by kernel_rfl) hv)
def loops174:List (List (Nat×Shp)):=[[(11,.int .i64)],[(53,.int .i64)]]
noncomputable def code174:SCode:=((compF Tryz.prog Tryz.f174 loops174).elim .skip fun x=>x.2.2)
def ret174:List RV:=[.tmp 2]
theorem comp174:compF Tryz.prog Tryz.f174 loops174=some (74,ret174,code174):=by kernel_rfl
def J174_5  (R:Value->Heap->Prop) (t:Int) (h_3:Heap) (t14:Int) (next_1:(Int->Heap->Prop)) (h_9:Heap):Prop:=
 ∃ (t15:ByteArray),cellH h_9 (Addr.add ⟨h_3.size,0,none⟩ 2)=some (.string t15)/\0≤t14/\t14<(t15.size:Nat)/\PIf (((byteAt t15 t14):Int)<32)
 (R (.int .i64 t) h_9)
 (next_1 (IntKind.wrap .i64 (t14+1)) h_9)
def J174_2  (t:Int) (next_:(Int->Heap->Prop)) (h_13:Heap):Prop:=
 next_ (IntKind.wrap .i64 (t+1)) h_13
def J174_4  (h_:Heap) (t:Int) (next_:(Int->Heap->Prop)) (h_3 h_10:Heap):Prop:=
 ∃ zn:Zone,Zone.hasL zn h_10 (Addr.add ⟨h_3.size,0,none⟩ 0)/\∃ (t16:Int),cellH h_10 (Addr.add ⟨h_3.size,0,none⟩ 0)=some (.int .u8 t16)/\Zone.hasL zn h_10 (Addr.add ⟨h_3.size,0,none⟩ 1)/\∃ (t17:Int),cellH h_10 (Addr.add ⟨h_3.size,0,none⟩ 1)=some (.int .i64 t17)/\MapLookW zn (.flat [.int .u8,.int .i64]) (.agg #[.int .u8 t16,.int .i64 t17]) (.int .i64 0) h_10 (some (h_).size) (MapEnt (.flat [.int .u8,.int .i64]) (.int .i64 0) (.agg #[.int .u8 t16,.int .i64 t17]) h_10 (some (h_).size) (fun st h_11=>Zone.r zn h_10 h_11/\MapSet st (.int .i64 (IntKind.wrap .i64 (0+1))) h_11 (some (h_).size) fun h_12=>J174_2 t next_ h_12) (fun u st1 h_14=>∃ (t18:Int),u=(.int .i64 t18)/\Zone.r zn h_10 h_14/\MapSet st1 (.int .i64 (IntKind.wrap .i64 (0+1))) h_14 (some (h_).size) fun h_15=>J174_2 t next_ h_15)) fun look=>∃ (t19:Int),look (.int .i64 t19)/\MapEnt (.flat [.int .u8,.int .i64]) (.int .i64 0) (.agg #[.int .u8 t16,.int .i64 t17]) h_10 (some (h_).size) (fun st2 h_16=>Zone.r zn h_10 h_16/\MapSet st2 (.int .i64 (IntKind.wrap .i64 (t19+1))) h_16 (some (h_).size) fun h_17=>J174_2 t next_ h_17) (fun u1 st3 h_18=>∃ (t20:Int),u1=(.int .i64 t20)/\Zone.r zn h_10 h_18/\MapSet st3 (.int .i64 (IntKind.wrap .i64 (t19+1))) h_18 (some (h_).size) fun h_19=>J174_2 t next_ h_19)
def B174_7 (R:Value->Heap->Prop) (h_:Heap) (t:Int) (next_:(Int->Heap->Prop)) (h_3:Heap) (t13:ByteArray) (t14:Int) (h_8:Heap) (next_1:Int->Heap->Prop):Prop:=
 PIf (t14<((t13.size:Nat):Int))
 (J174_5 R t h_3 t14 next_1 h_8)
 (J174_4 h_ t next_ h_3 h_8)
def J174_3  (R:Value->Heap->Prop) (h_:Heap) (t:Int) (next_:(Int->Heap->Prop)) (h_3 h_7:Heap):Prop:=
 ∃ (t13:ByteArray),cellH h_7 (Addr.add ⟨h_3.size,0,none⟩ 2)=some (.string t13)/\LoopT (σ:=Int) (fun st_ h_st nx_st=>B174_7 R h_ t next_ h_3 t13 (st_) h_st nx_st) (0) h_7
def J174_1  (P:Program) (R:Value->Heap->Prop) (h h_:Heap) (A:(Option Addr)) (N:Nat) (t:Int) (next_:(Int->Heap->Prop)) (h_3:Heap):Prop:=
 0≤t/\t<(N:Nat)/\AtP A fun ad=>∃ (t1 t2:Int) (t3:ByteArray),cellsH h_3 (Addr.add ad (Int.toNat t*3)) 0 [.int .u8 t1,.int .i64 t2,.string t3]/\let h_4:Heap:=(h_3).push (.cells #[.int .u8 0,.int .i64 0,(.string (ByteArray.mk #[]))] 123);StoreH h_4 ⟨h_3.size,0,none⟩ [.int .u8 t1,.int .i64 t2,.string t3] fun h_5=>(Addr.block (Addr.add ⟨h_3.size,0,none⟩ 1))<(h_5).size/\∃ (t4:Int),cellH h_5 (Addr.add ⟨h_3.size,0,none⟩ 1)=some (.int .i64 t4)/\PIf (t4<0)
 (R (.int .i64 t) h_5)
 ((Addr.block (Addr.add ⟨h_3.size,0,none⟩ 1))<(h_5).size/\∃ (t5:Int),cellH h_5 (Addr.add ⟨h_3.size,0,none⟩ 1)=some (.int .i64 t5)/\(Addr.block ⟨h.size,0,none⟩)<(h_5).size/\LdC h_5 ⟨h.size,0,none⟩ fun t6=>(Addr.block (Addr.add ⟨h_3.size,0,none⟩ 0))<(h_5).size/\∃ (t7:Int),cellH h_5 (Addr.add ⟨h_3.size,0,none⟩ 0)=some (.int .u8 t7)/\CallsH P 186 #[t6.v,.int .u8 t7] h_5 fun v h_6=>
 ∃ (t8:Int),v=(.int .i64 t8)/\AgreeH (h_5).size h_5 h_6/\PIf (t8≤t5)
 (R (.int .i64 t) h_6)
 ((Addr.block (Addr.add ⟨h_3.size,0,none⟩ 2))<(h_5).size/\∃ (t9:ByteArray),cellH h_6 (Addr.add ⟨h_3.size,0,none⟩ 2)=some (.string t9)/\PIf ((t9:ByteArray)=(ByteArray.mk #[]))
 (R (.int .i64 t) h_6)
 ((Addr.block (Addr.add ⟨h_3.size,0,none⟩ 2))<(h_5).size/\∃ (t10:ByteArray),cellH h_6 (Addr.add ⟨h_3.size,0,none⟩ 2)=some (.string t10)/\PIf ((64:Int)<((t10.size:Nat):Int))
 (R (.int .i64 t) h_6)
 ((Addr.block (Addr.add ⟨h_3.size,0,none⟩ 0))<(h_5).size/\∃ (t11:Int),cellH h_6 (Addr.add ⟨h_3.size,0,none⟩ 0)=some (.int .u8 t11)/\(Addr.block (Addr.add ⟨h_3.size,0,none⟩ 1))<(h_5).size/\∃ (t12:Int),cellH h_6 (Addr.add ⟨h_3.size,0,none⟩ 1)=some (.int .i64 t12)/\MapLook (.flat [.int .u8,.int .i64]) (.agg #[.int .u8 t11,.int .i64 t12]) h_6 (some (h_).size) (some (h_5).size) (PIf ((0:Int)<0)
 (R (.int .i64 t) h_6)
 (J174_3 R h_ t next_ h_3 h_6)) fun u2=>∃ (t21:Int),u2=(.int .i64 t21)/\PIf ((0:Int)<t21)
 (R (.int .i64 t) h_6)
 (J174_3 R h_ t next_ h_3 h_6)))))
def J174_0  (R:Value->Heap->Prop) (h_20:Heap):Prop:=
 R (.int .i64 (-1)) h_20
def B174_9 (P:Program) (R:Value->Heap->Prop) (h h_:Heap) (A:(Option Addr)) (N:Nat) (t:Int) (h_2:Heap) (next_:Int->Heap->Prop):Prop:=
 PIf (t<((N:Nat):Int))
 (J174_1 P R h h_ A N t next_ h_2)
 (J174_0 R h_2)
def VC174 (P:Program) (c:CV) (R:Value->Heap->Prop) (h:Heap):Prop:=
 let h_:Heap:=(h).push (.cells (Value.cells c.v) 29);let h_1:Heap:=(h_).push (.map #[] 0);∃ (A:Option Addr) (N C:Nat),cellH h_1 (Addr.add ⟨h.size,0,none⟩ 9)=some (.slice A N C)/\LoopT (σ:=Int) (fun st_ h_st nx_st=>B174_9 P R h h_ A N (st_) h_st nx_st) (0) h_1
theorem run174 (c:CV) (R:Value->Heap->Prop) (h:Heap) (hv:VC174 Tryz.prog c R h):CallsH Tryz.prog 174 #[c.v] h R:=calls_of_fnC (Checked.mixed Tryz.checked) Tryz.func174 comp174 (Nat.le_of_ble_eq_true rfl) (Eq.mp (by kernel_rfl) hv)
def loops175:List (List (Nat×Shp)):=[]
noncomputable def code175:SCode:=((compF Tryz.prog Tryz.f175 loops175).elim .skip fun x=>x.2.2)
def ret175:List RV:=[.tmp 4]
theorem comp175:compF Tryz.prog Tryz.f175 loops175=some (9,ret175,code175):=by kernel_rfl
def VC175 (P:Program) (sA:Option Addr) (sN sC:Nat) (v:Int) (R:Value->Heap->Prop) (h:Heap):Prop:=
 CallsH P 187 #[.slice sA sN sC,.int .u8 v] h fun v1 h_=>
 ∃ (t:Int),v1=(.int .i64 t)/\PIf ((0:Int)≤t)
 (R (.bool true) h_)
 (R (.bool false) h_)
theorem run175 (sA:Option Addr) (sN sC:Nat) (v:Int) (R:Value->Heap->Prop) (h:Heap) (hv:VC175 Tryz.prog sA sN sC v R h):CallsH Tryz.prog 175 #[.slice sA sN sC,.int .u8 v] h R:=calls_of_fnC (Checked.mixed Tryz.checked) Tryz.func175 comp175 (Nat.le_of_ble_eq_true rfl) (Eq.mp (by kernel_rfl) hv)
def loops180:List (List (Nat×Shp)):=[[(27,.int .i64)],[(34,.int .i64)],[(58,.int .i64)],[(12,.slice)],[(93,.int .i64)]]
noncomputable def code180:SCode:=((compF Tryz.prog Tryz.f180 loops180).elim .skip fun x=>x.2.2)
def ret180:List RV:=[.tmp 2]
theorem comp180:compF Tryz.prog Tryz.f180 loops180=some (113,ret180,code180):=by kernel_rfl
def J180_3  (h:Heap) (N:Nat) (h_:Heap) (t:Int) (A1:(Option Addr)) (N1:Nat) (t1:Int) (next_1:(Int->Heap->Prop)) (h_6:Heap):Prop:=
 0≤t1/\t1<(N1:Nat)/\AtP A1 fun ad1=>∃ (t2:Int),cellH h_6 (Addr.add ad1 (Int.toNat t1*1))=some (.int .i64 t2)/\0≤t/\t<((Int.toNat ((N:Nat):Int)):Nat)/\∃ (t3:Int),cellH h_6 (Addr.add ⟨h.size,0,none⟩ (Int.toNat t*1))=some (.int .i64 t3)/\0≤t/\t<((Int.toNat ((N:Nat):Int)):Nat)/\StoreH h_6 (Addr.add ⟨h.size,0,none⟩ (Int.toNat t*1)) [(.int .i64 (IntKind.wrap .i64 (t3+1)))] fun h_7=>0≤t2/\t2<((Int.toNat ((N:Nat):Int)):Nat)/\∃ (A2:Option Addr) (N2 C2:Nat),cellH h_7 (Addr.add ⟨h_.size,0,none⟩ (Int.toNat t2*1))=some (.slice A2 N2 C2)/\let h_8:Heap:=(h_7).push (.cells #[.int .i64 t] 3);∃ ys:List Value,ReadL h_8 (some ⟨h_7.size,0,none⟩) ys/\ys.length=1*1/\AppS h_8 A2 N2 C2 3 8 1 #[.int .i64 0] ys 1 fun apA apN apC h_9=>0≤t2/\t2<((Int.toNat ((N:Nat):Int)):Nat)/\StoreH h_9 (Addr.add ⟨h_.size,0,none⟩ (Int.toNat t2*1)) [.slice apA apN apC] fun h_10=>next_1 (IntKind.wrap .i64 (t1+1)) h_10
def J180_2  (t:Int) (next_:(Int->Heap->Prop)) (h_11:Heap):Prop:=
 next_ (IntKind.wrap .i64 (t+1)) h_11
def B180_5 (h:Heap) (N:Nat) (h_:Heap) (t:Int) (next_:(Int->Heap->Prop)) (A1:(Option Addr)) (N1:Nat) (t1:Int) (h_5:Heap) (next_1:Int->Heap->Prop):Prop:=
 PIf (t1<((N1:Nat):Int))
 (J180_3 h N h_ t A1 N1 t1 next_1 h_5)
 (J180_2 t next_ h_5)
def J180_1  (P:Program) (h:Heap) (k:(Option Addr)) (N:Nat) (h_:Heap) (t:Int) (next_:(Int->Heap->Prop)) (h_3:Heap):Prop:=
 CallsH P 185 #[.pointer k,.int .i64 t] h_3 fun v h_4=>
 ∃ (A1:Option Addr) (N1 C1:Nat),v=(.slice A1 N1 C1)/\LoopT (σ:=Int) (fun st_ h_st nx_st=>B180_5 h N h_ t next_ A1 N1 (st_) h_st nx_st) (0) h_4
def J180_8  (P:Program) (h:Heap) (N:Nat) (h_12:Heap) (t4:Int) (next_2:(Int->Heap->Prop)) (h_15:Heap):Prop:=
 0≤t4/\t4<((Int.toNat ((N:Nat):Int)):Nat)/\∃ (t5:Int),cellH h_15 (Addr.add ⟨h.size,0,none⟩ (Int.toNat t4*1))=some (.int .i64 t5)/\PIf (t5=0)
 (callOkP P 189/\CallsH P 189 #[.int .i64 t4,(.pointer (some ⟨h_12.size,0,none⟩))] h_15 fun v1 h_16=>
 v1=(.tuple #[])/\next_2 (IntKind.wrap .i64 (t4+1)) h_16)
 (next_2 (IntKind.wrap .i64 (t4+1)) h_15)
def J180_12  (P:Program) (h:Heap) (N:Nat) (h_12:Heap) (A8:(Option Addr)) (N8:Nat) (t7:Int) (next_4:(Int->Heap->Prop)) (h_24:Heap):Prop:=
 0≤t7/\t7<(N8:Nat)/\AtP A8 fun ad3=>∃ (t8:Int),cellH h_24 (Addr.add ad3 (Int.toNat t7*1))=some (.int .i64 t8)/\0≤t8/\t8<((Int.toNat ((N:Nat):Int)):Nat)/\∃ (t9:Int),cellH h_24 (Addr.add ⟨h.size,0,none⟩ (Int.toNat t8*1))=some (.int .i64 t9)/\0≤t8/\t8<((Int.toNat ((N:Nat):Int)):Nat)/\StoreH h_24 (Addr.add ⟨h.size,0,none⟩ (Int.toNat t8*1)) [(.int .i64 (IntKind.wrap .i64 (t9-1)))] fun h_25=>0≤t8/\t8<((Int.toNat ((N:Nat):Int)):Nat)/\∃ (t10:Int),cellH h_25 (Addr.add ⟨h.size,0,none⟩ (Int.toNat t8*1))=some (.int .i64 t10)/\PIf (t10=0)
 (callOkP P 189/\CallsH P 189 #[.int .i64 t8,(.pointer (some ⟨h_12.size,0,none⟩))] h_25 fun v2 h_26=>
 v2=(.tuple #[])/\next_4 (IntKind.wrap .i64 (t7+1)) h_26)
 (next_4 (IntKind.wrap .i64 (t7+1)) h_25)
def B180_14 (P:Program) (h:Heap) (N:Nat) (h_12:Heap) (next_3:((Option Addr×Nat×Nat)->Heap->Prop)) (apA1:(Option Addr)) (apN1 apC1:Nat) (A8:(Option Addr)) (N8:Nat) (t7:Int) (h_23:Heap) (next_4:Int->Heap->Prop):Prop:=
 PIf (t7<((N8:Nat):Int))
 (J180_12 P h N h_12 A8 N8 t7 next_4 h_23)
 (next_3 ((apA1,apN1,apC1)) h_23)
def J180_11  (P:Program) (h:Heap) (N:Nat) (h_ h_12:Heap) (outA:(Option Addr)) (outN outC:Nat) (next_3:((Option Addr×Nat×Nat)->Heap->Prop)) (h_19:Heap):Prop:=
 ∃ (A4:Option Addr) (N4 C4:Nat),cellH h_19 ⟨h_12.size,0,none⟩=some (.slice A4 N4 C4)/\∃ (A5:Option Addr) (N5 C5:Nat),cellH h_19 ⟨h_12.size,0,none⟩=some (.slice A5 N5 C5)/\0≤((IntKind.wrap .i64 (((N5:Nat):Int)-1)):Int)/\((IntKind.wrap .i64 (((N5:Nat):Int)-1)):Int)<(N4:Nat)/\AtP A4 fun ad2=>∃ (t6:Int),cellH h_19 (Addr.add ad2 (Int.toNat (IntKind.wrap .i64 (((N5:Nat):Int)-1))*1))=some (.int .i64 t6)/\∃ (A6:Option Addr) (N6 C6:Nat),cellH h_19 ⟨h_12.size,0,none⟩=some (.slice A6 N6 C6)/\∃ (A7:Option Addr) (N7 C7:Nat),cellH h_19 ⟨h_12.size,0,none⟩=some (.slice A7 N7 C7)/\0≤(0:Int)/\(0:Int)≤(IntKind.wrap .i64 (((N7:Nat):Int)-1))/\((IntKind.wrap .i64 (((N7:Nat):Int)-1)):Int)≤(C6:Nat)/\StoreH h_19 ⟨h_12.size,0,none⟩ [(.slice (cutA 1 A6 C6 (Int.toNat 0)) (Int.toNat (IntKind.wrap .i64 (((N7:Nat):Int)-1))-Int.toNat 0) (C6-Int.toNat 0))] fun h_20=>let h_21:Heap:=(h_20).push (.cells #[.int .i64 t6] 3);∃ ys1:List Value,ReadL h_21 (some ⟨h_20.size,0,none⟩) ys1/\ys1.length=1*1/\AppS h_21 outA outN outC 3 8 1 #[.int .i64 0] ys1 1 fun apA1 apN1 apC1 h_22=>0≤t6/\t6<((Int.toNat ((N:Nat):Int)):Nat)/\∃ (A8:Option Addr) (N8 C8:Nat),cellH h_22 (Addr.add ⟨h_.size,0,none⟩ (Int.toNat t6*1))=some (.slice A8 N8 C8)/\LoopT (σ:=Int) (fun st_ h_st nx_st=>B180_14 P h N h_12 next_3 apA1 apN1 apC1 A8 N8 (st_) h_st nx_st) (0) h_22
def J180_10  (R:Value->Heap->Prop) (outA1:Option Addr) (outN1 outC1:Nat) (h_27:Heap):Prop:=
 R (.slice outA1 outN1 outC1) h_27
def B180_15 (P:Program) (R:Value->Heap->Prop) (h:Heap) (N:Nat) (h_ h_12:Heap) (outA:Option Addr) (outN outC:Nat) (h_18:Heap) (next_3:(Option Addr×Nat×Nat)->Heap->Prop):Prop:=
 ∃ (A3:Option Addr) (N3 C3:Nat),cellH h_18 ⟨h_12.size,0,none⟩=some (.slice A3 N3 C3)/\PIf ((0:Int)<((N3:Nat):Int))
 (J180_11 P h N h_ h_12 outA outN outC next_3 h_18)
 (J180_10 R (outA) (outN) (outC) h_18)
def J180_7  (P:Program) (R:Value->Heap->Prop) (h:Heap) (N:Nat) (h_ h_12 h_17:Heap):Prop:=
 LoopT (σ:=(Option Addr×Nat×Nat)) (fun st_ h_st nx_st=>B180_15 P R h N h_ h_12 (st_.1) (st_.2.1) (st_.2.2) h_st nx_st) ((none,0,0)) h_17
def B180_16 (P:Program) (R:Value->Heap->Prop) (h:Heap) (N:Nat) (h_ h_12:Heap) (t4:Int) (h_14:Heap) (next_2:Int->Heap->Prop):Prop:=
 PIf (t4<((N:Nat):Int))
 (J180_8 P h N h_12 t4 next_2 h_14)
 (J180_7 P R h N h_ h_12 h_14)
def J180_0  (P:Program) (R:Value->Heap->Prop) (h:Heap) (N:Nat) (h_ h_12:Heap):Prop:=
 let h_13:Heap:=(h_12).push (.cells #[.slice none 0 0] 22);LoopT (σ:=Int) (fun st_ h_st nx_st=>B180_16 P R h N h_ h_12 (st_) h_st nx_st) (0) h_13
def B180_17 (P:Program) (R:Value->Heap->Prop) (h:Heap) (k:(Option Addr)) (N:Nat) (h_:Heap) (t:Int) (h_2:Heap) (next_:Int->Heap->Prop):Prop:=
 PIf (t<((N:Nat):Int))
 (J180_1 P h k N h_ t next_ h_2)
 (J180_0 P R h N h_ h_2)
def VC180 (P:Program) (k:Option Addr) (R:Value->Heap->Prop) (h:Heap):Prop:=
 AtP k fun ad=>∃ (A:Option Addr) (N C:Nat),cellH h (Addr.add (Addr.add ad 0) 8)=some (.slice A N C)/\0≤(((N:Nat):Int):Int)/\(((N:Nat):Int):Int)≤((N:Nat):Int)/\(8:Int)*((N:Nat):Int)≤281474976710656/\let h_:Heap:=(h).push (.cells (zeroRow #[.int .i64 0] (Int.toNat ((N:Nat):Int)*1)).toArray 3);0≤(((N:Nat):Int):Int)/\(((N:Nat):Int):Int)≤((N:Nat):Int)/\(24:Int)*((N:Nat):Int)≤281474976710656/\let h_1:Heap:=(h_).push (.cells (zeroRow #[.slice none 0 0] (Int.toNat ((N:Nat):Int)*1)).toArray 22);LoopT (σ:=Int) (fun st_ h_st nx_st=>B180_17 P R h k N h_ (st_) h_st nx_st) (0) h_1
theorem run180 (k:Option Addr) (R:Value->Heap->Prop) (h:Heap) (hv:VC180 Tryz.prog k R h):CallsH Tryz.prog 180 #[.pointer k] h R:=calls_of_fnC (Checked.mixed Tryz.checked) Tryz.func180 comp180 (Nat.le_of_ble_eq_true rfl) (Eq.mp (by kernel_rfl) hv)
def loops182:List (List (Nat×Shp)):=[[(3,.int .i64),(8,.int .i64)]]
noncomputable def code182:SCode:=((compF Tryz.prog Tryz.f182 loops182).elim .skip fun x=>x.2.2)
def ret182:List RV:=[.tmp 2]
theorem comp182:compF Tryz.prog Tryz.f182 loops182=some (18,ret182,code182):=by kernel_rfl
def J182_1  (lA:(Option Addr)) (lN:Nat) (n t:Int) (next_:(Int×Int->Heap->Prop)) (h_1:Heap):Prop:=
 0≤t/\t<(lN:Nat)/\AtP lA fun ad=>∃ (A:Option Addr) (N C:Nat),cellH h_1 (Addr.add ad (Int.toNat t*1))=some (.slice A N C)/\next_ ((IntKind.wrap .i64 (n+((N:Nat):Int))),(IntKind.wrap .i64 (t+1))) h_1
def J182_0  (R:Value->Heap->Prop) (n1:Int) (h_2:Heap):Prop:=
 R (.int .i64 n1) h_2
def B182_3 (R:Value->Heap->Prop) (lA:(Option Addr)) (lN:Nat) (n t:Int) (h_:Heap) (next_:Int×Int->Heap->Prop):Prop:=
 PIf (t<((lN:Nat):Int))
 (J182_1 lA lN n t next_ h_)
 (J182_0 R (n) h_)
def VC182 (P:Program) (lA:Option Addr) (lN lC:Nat) (R:Value->Heap->Prop) (h:Heap):Prop:=
 LoopT (σ:=Int×Int) (fun st_ h_st nx_st=>B182_3 R lA lN (st_.1) (st_.2) h_st nx_st) (0,0) h
theorem run182 (lA:Option Addr) (lN lC:Nat) (R:Value->Heap->Prop) (h:Heap) (hv:VC182 Tryz.prog lA lN lC R h):CallsH Tryz.prog 182 #[.slice lA lN lC] h R:=calls_of_fnC (Checked.mixed Tryz.checked) Tryz.func182 comp182 (Nat.le_of_ble_eq_true rfl) (Eq.mp (by kernel_rfl) hv)
def loops183:List (List (Nat×Shp)):=[]
noncomputable def code183:SCode:=((compF Tryz.prog Tryz.f183 loops183).elim .skip fun x=>x.2.2)
def ret183:List RV:=[.tmp 6]
theorem comp183:compF Tryz.prog Tryz.f183 loops183=some (42,ret183,code183):=by kernel_rfl
def J183_1  (R:Value->Heap->Prop) (h:Heap) (k:(Option Addr)) (l:Int) (h_2:Heap):Prop:=
 AtP k fun ad3=>∃ (A1:Option Addr) (N1 C1:Nat),cellH h_2 (Addr.add ad3 11)=some (.slice A1 N1 C1)/\∃ (t2 t3:Int),cellsH h_2 ⟨h.size,0,none⟩ 0 [.int .i64 t2,.int .i64 t3]/\0≤((l / ((2 ^ 1:Nat):Int)):Int)/\((l / ((2 ^ 1:Nat):Int)):Int)<(N1:Nat)/\AtP A1 fun ad4=>StoreH h_2 (Addr.add ad4 (Int.toNat (l / ((2 ^ 1:Nat):Int))*2)) [.int .i64 t2,.int .i64 t3] fun h_3=>R (.int .i64 0) h_3
def J183_0  (R:Value->Heap->Prop) (h:Heap) (k:(Option Addr)) (l:Int) (h_1:Heap):Prop:=
 AtP k fun ad1=>∃ (A:Option Addr) (N C:Nat),cellH h_1 (Addr.add ad1 11)=some (.slice A N C)/\0≤((l / ((2 ^ 1:Nat):Int)):Int)/\((l / ((2 ^ 1:Nat):Int)):Int)<(N:Nat)/\AtP A fun ad2=>∃ (t1:Int),cellH h_1 (Addr.add (Addr.add ad2 (Int.toNat (l / ((2 ^ 1:Nat):Int))*2)) 0)=some (.int .i64 t1)/\PIf (t1=0)
 (J183_1 R h k l h_1)
 (R (.int .i64 31) h_1)
def VC183 (P:Program) (k:Option Addr) (l m m1:Int) (R:Value->Heap->Prop) (h:Heap):Prop:=
 let h_:Heap:=(h).push (.cells (Value.cells (.agg #[.int .i64 m,.int .i64 m1])) 236);PIf (l<2)
 (R (.int .i64 30) h_)
 (PIf (((bop .and .i64 l 1):Int)=1)
 (R (.int .i64 30) h_)
 (AtP k fun ad=>∃ (t:Int),cellH h_ (Addr.add (Addr.add ad 0) 0)=some (.int .i64 t)/\PIf (((IntKind.wrap .i64 (2*t)):Int)<l)
 (R (.int .i64 30) h_)
 (J183_0 R h k l h_)))
theorem run183 (k:Option Addr) (l m m1:Int) (R:Value->Heap->Prop) (h:Heap) (hv:VC183 Tryz.prog k l m m1 R h):CallsH Tryz.prog 183 #[.pointer k,.int .i64 l,(.agg #[.int .i64 m,.int .i64 m1])] h R:=calls_of_fnC (Checked.mixed Tryz.checked) Tryz.func183 comp183 (Nat.le_of_ble_eq_true rfl) (Eq.mp (by kernel_rfl) hv)
def loops184:List (List (Nat×Shp)):=[[(9,.int .i64)]]
noncomputable def code184:SCode:=((compF Tryz.prog Tryz.f184 loops184).elim .skip fun x=>x.2.2)
def ret184:List RV:=[.tmp 4]
theorem comp184:compF Tryz.prog Tryz.f184 loops184=some (41,ret184,code184):=by kernel_rfl
def J184_2  (R:Value->Heap->Prop) (k:(Option Addr)) (t:Int) (next_:(Int->Heap->Prop)) (t1:Int) (h_2:Heap):Prop:=
 PIf ((1:Int)<t1)
 (AtP k fun ad2=>∃ (A:Option Addr) (N C:Nat),cellH h_2 (Addr.add ad2 11)=some (.slice A N C)/\0≤((t1 / ((2 ^ 1:Nat):Int)):Int)/\((t1 / ((2 ^ 1:Nat):Int)):Int)<(N:Nat)/\AtP A fun ad3=>∃ (t3:Int),cellH h_2 (Addr.add (Addr.add ad3 (Int.toNat (t1 / ((2 ^ 1:Nat):Int))*2)) 0)=some (.int .i64 t3)/\PIf (t3=0)
 (R (.int .i64 32) h_2)
 (next_ (IntKind.wrap .i64 (t+1)) h_2))
 (next_ (IntKind.wrap .i64 (t+1)) h_2)
def J184_1  (R:Value->Heap->Prop) (k:(Option Addr)) (lA:(Option Addr)) (lN:Nat) (t:Int) (next_:(Int->Heap->Prop)) (h_1:Heap):Prop:=
 0≤t/\t<(lN:Nat)/\AtP lA fun ad=>∃ (t1:Int),cellH h_1 (Addr.add ad (Int.toNat t*1))=some (.int .i64 t1)/\PIf (t1<0)
 (R (.int .i64 30) h_1)
 (AtP k fun ad1=>∃ (t2:Int),cellH h_1 (Addr.add (Addr.add ad1 0) 0)=some (.int .i64 t2)/\PIf (((IntKind.wrap .i64 ((IntKind.wrap .i64 (2*t2))+1)):Int)<t1)
 (R (.int .i64 30) h_1)
 (J184_2 R k t next_ t1 h_1))
def J184_0  (R:Value->Heap->Prop) (h_3:Heap):Prop:=
 R (.int .i64 0) h_3
def B184_4 (R:Value->Heap->Prop) (k:(Option Addr)) (lA:(Option Addr)) (lN:Nat) (t:Int) (h_:Heap) (next_:Int->Heap->Prop):Prop:=
 PIf (t<((lN:Nat):Int))
 (J184_1 R k lA lN t next_ h_)
 (J184_0 R h_)
def VC184 (P:Program) (k lA:Option Addr) (lN lC:Nat) (R:Value->Heap->Prop) (h:Heap):Prop:=
 LoopT (σ:=Int) (fun st_ h_st nx_st=>B184_4 R k lA lN (st_) h_st nx_st) (0) h
theorem run184 (k lA:Option Addr) (lN lC:Nat) (R:Value->Heap->Prop) (h:Heap) (hv:VC184 Tryz.prog k lA lN lC R h):CallsH Tryz.prog 184 #[.pointer k,.slice lA lN lC] h R:=calls_of_fnC (Checked.mixed Tryz.checked) Tryz.func184 comp184 (Nat.le_of_ble_eq_true rfl) (Eq.mp (by kernel_rfl) hv)
def loops185:List (List (Nat×Shp)):=[[(5,.slice),(28,.int .i64)]]
noncomputable def code185:SCode:=((compF Tryz.prog Tryz.f185 loops185).elim .skip fun x=>x.2.2)
def ret185:List RV:=[.tmp 4]
theorem comp185:compF Tryz.prog Tryz.f185 loops185=some (49,ret185,code185):=by kernel_rfl
def J185_1  (k:(Option Addr)) (t t1:Int) (outA:(Option Addr)) (outN outC:Nat) (t2:Int) (next_:((Option Addr×Nat×Nat)×Int->Heap->Prop)) (h_1:Heap):Prop:=
 0≤t2/\t2<(2:Nat)/\∃ (t3:Int),([.int .i64 t,.int .i64 t1]:List Value)[Int.toNat t2]?=some (.int .i64 t3)/\AtP k fun ad4=>∃ (A2:Option Addr) (N2 C2:Nat),cellH h_1 (Addr.add ad4 11)=some (.slice A2 N2 C2)/\0≤((t3 / ((2 ^ 1:Nat):Int)):Int)/\((t3 / ((2 ^ 1:Nat):Int)):Int)<(N2:Nat)/\AtP A2 fun ad5=>∃ (t4 t5:Int),cellsH h_1 (Addr.add ad5 (Int.toNat (t3 / ((2 ^ 1:Nat):Int))*2)) 0 [.int .i64 t4,.int .i64 t5]/\let h_2:Heap:=(h_1).push (.cells #[.int .i64 0,.int .i64 0] 236);StoreH h_2 ⟨h_1.size,0,none⟩ [.int .i64 t4,.int .i64 t5] fun h_3=>∃ (t6:Int),cellH h_3 (Addr.add ⟨h_1.size,0,none⟩ 0)=some (.int .i64 t6)/\PIf (t6=3)
 (∃ (t7:Int),cellH h_3 (Addr.add ⟨h_1.size,0,none⟩ 1)=some (.int .i64 t7)/\let h_4:Heap:=(h_3).push (.cells #[.int .i64 t7] 3);∃ ys:List Value,ReadL h_4 (some ⟨h_3.size,0,none⟩) ys/\ys.length=1*1/\AppS h_4 outA outN outC 3 8 1 #[.int .i64 0] ys 1 fun apA apN apC h_5=>next_ ((apA,apN,apC),(IntKind.wrap .i64 (t2+1))) h_5)
 (next_ ((outA,outN,outC),(IntKind.wrap .i64 (t2+1))) h_3)
def J185_0  (R:Value->Heap->Prop) (outA1:Option Addr) (outN1 outC1:Nat) (h_6:Heap):Prop:=
 R (.slice outA1 outN1 outC1) h_6
def B185_3 (R:Value->Heap->Prop) (k:(Option Addr)) (t t1:Int) (outA:Option Addr) (outN outC:Nat) (t2:Int) (h_:Heap) (next_:(Option Addr×Nat×Nat)×Int->Heap->Prop):Prop:=
 PIf (t2<2)
 (J185_1 k t t1 outA outN outC t2 next_ h_)
 (J185_0 R (outA) (outN) (outC) h_)
def VC185 (P:Program) (k:Option Addr) (i:Int) (R:Value->Heap->Prop) (h:Heap):Prop:=
 AtP k fun ad=>∃ (A:Option Addr) (N C:Nat),cellH h (Addr.add (Addr.add ad 0) 8)=some (.slice A N C)/\0≤i/\i<(N:Nat)/\AtP A fun ad1=>∃ (t:Int),cellH h (Addr.add (Addr.add ad1 (Int.toNat i*3)) 1)=some (.int .i64 t)/\AtP k fun ad2=>∃ (A1:Option Addr) (N1 C1:Nat),cellH h (Addr.add (Addr.add ad2 0) 8)=some (.slice A1 N1 C1)/\0≤i/\i<(N1:Nat)/\AtP A1 fun ad3=>∃ (t1:Int),cellH h (Addr.add (Addr.add ad3 (Int.toNat i*3)) 2)=some (.int .i64 t1)/\LoopT (σ:=(Option Addr×Nat×Nat)×Int) (fun st_ h_st nx_st=>B185_3 R k t t1 (st_.1.1) (st_.1.2.1) (st_.1.2.2) (st_.2) h_st nx_st) ((none,0,0),0) h
theorem run185 (k:Option Addr) (i:Int) (R:Value->Heap->Prop) (h:Heap) (hv:VC185 Tryz.prog k i R h):CallsH Tryz.prog 185 #[.pointer k,.int .i64 i] h R:=calls_of_fnC (Checked.mixed Tryz.checked) Tryz.func185 comp185 (Nat.le_of_ble_eq_true rfl) (Eq.mp (by kernel_rfl) hv)
def loops186:List (List (Nat×Shp)):=[]
noncomputable def code186:SCode:=((compF Tryz.prog Tryz.f186 loops186).elim .skip fun x=>x.2.2)
def ret186:List RV:=[.tmp 4]
theorem comp186:compF Tryz.prog Tryz.f186 loops186=some (41,ret186,code186):=by kernel_rfl
def VC186 (P:Program) (c:CV) (kind:Int) (R:Value->Heap->Prop) (h:Heap):Prop:=
 let h_:Heap:=(h).push (.cells (Value.cells c.v) 29);PIf (kind=105)
 (∃ (A:Option Addr) (N C:Nat),cellH h_ (Addr.add ⟨h.size,0,none⟩ 1)=some (.slice A N C)/\R (.int .i64 ((N:Nat):Int)) h_)
 (PIf (kind=108)
 (∃ (A1:Option Addr) (N1 C1:Nat),cellH h_ (Addr.add ⟨h.size,0,none⟩ 2)=some (.slice A1 N1 C1)/\R (.int .i64 ((N1:Nat):Int)) h_)
 (PIf (kind=111)
 (∃ (A2:Option Addr) (N2 C2:Nat),cellH h_ (Addr.add ⟨h.size,0,none⟩ 3)=some (.slice A2 N2 C2)/\R (.int .i64 ((N2:Nat):Int)) h_)
 (PIf (kind=98)
 (∃ (A3:Option Addr) (N3 C3:Nat),cellH h_ (Addr.add ⟨h.size,0,none⟩ 4)=some (.slice A3 N3 C3)/\R (.int .i64 ((N3:Nat):Int)) h_)
 (PIf (kind=99)
 (∃ (A4:Option Addr) (N4 C4:Nat),cellH h_ (Addr.add ⟨h.size,0,none⟩ 5)=some (.slice A4 N4 C4)/\R (.int .i64 ((N4:Nat):Int)) h_)
 (PIf (kind=106)
 (∃ (A5:Option Addr) (N5 C5:Nat),cellH h_ (Addr.add ⟨h.size,0,none⟩ 6)=some (.slice A5 N5 C5)/\R (.int .i64 ((N5:Nat):Int)) h_)
 (PIf (kind=102)
 (∃ (A6:Option Addr) (N6 C6:Nat),cellH h_ (Addr.add ⟨h.size,0,none⟩ 7)=some (.slice A6 N6 C6)/\R (.int .i64 ((N6:Nat):Int)) h_)
 (R (.int .i64 (-1)) h_)))))))
theorem run186 (c:CV) (kind:Int) (R:Value->Heap->Prop) (h:Heap) (hv:VC186 Tryz.prog c kind R h):CallsH Tryz.prog 186 #[c.v,.int .u8 kind] h R:=calls_of_fnC (Checked.mixed Tryz.checked) Tryz.func186 comp186 (Nat.le_of_ble_eq_true rfl) (Eq.mp (by kernel_rfl) hv)
def loops187:List (List (Nat×Shp)):=[[(8,.int .i64)]]
noncomputable def code187:SCode:=((compF Tryz.prog Tryz.f187 loops187).elim .skip fun x=>x.2.2)
def ret187:List RV:=[.tmp 4]
theorem comp187:compF Tryz.prog Tryz.f187 loops187=some (19,ret187,code187):=by kernel_rfl
def J187_1  (R:Value->Heap->Prop) (sA:(Option Addr)) (sN:Nat) (v t:Int) (next_:(Int->Heap->Prop)) (h_1:Heap):Prop:=
 0≤t/\t<(sN:Nat)/\AtP sA fun ad=>∃ (t1:Int),cellH h_1 (Addr.add ad (Int.toNat t*1))=some (.int .u8 t1)/\PIf (v=t1)
 (R (.int .i64 t) h_1)
 (next_ (IntKind.wrap .i64 (t+1)) h_1)
def J187_0  (R:Value->Heap->Prop) (h_2:Heap):Prop:=
 R (.int .i64 (-1)) h_2
def B187_3 (R:Value->Heap->Prop) (sA:(Option Addr)) (sN:Nat) (v t:Int) (h_:Heap) (next_:Int->Heap->Prop):Prop:=
 PIf (t<((sN:Nat):Int))
 (J187_1 R sA sN v t next_ h_)
 (J187_0 R h_)
def VC187 (P:Program) (sA:Option Addr) (sN sC:Nat) (v:Int) (R:Value->Heap->Prop) (h:Heap):Prop:=
 LoopT (σ:=Int) (fun st_ h_st nx_st=>B187_3 R sA sN v (st_) h_st nx_st) (0) h
theorem run187 (sA:Option Addr) (sN sC:Nat) (v:Int) (R:Value->Heap->Prop) (h:Heap) (hv:VC187 Tryz.prog sA sN sC v R h):CallsH Tryz.prog 187 #[.slice sA sN sC,.int .u8 v] h R:=calls_of_fnC (Checked.mixed Tryz.checked) Tryz.func187 comp187 (Nat.le_of_ble_eq_true rfl) (Eq.mp (by kernel_rfl) hv)
def loops189:List (List (Nat×Shp)):=[]
noncomputable def code189:SCode:=((compF Tryz.prog Tryz.f189 loops189).elim .skip fun x=>x.2.2)
def ret189:List RV:=[]
theorem comp189:compF Tryz.prog Tryz.f189 loops189=some (16,ret189,code189):=by kernel_rfl
def VC189 (P:Program) (x:Int) (t:Option Addr) (R:Value->Heap->Prop) (h:Heap):Prop:=
 AtP t fun ad=>∃ (A:Option Addr) (N C:Nat),cellH h ad=some (.slice A N C)/\CallsH P 190 #[.slice A N C,.int .i64 x,(.func (.func 191) #[] #[])] h fun v h_=>
 ∃ (t1:Int) (t2:Bool),v=(.tuple #[.int .i64 t1,.bool t2])/\AtP t fun ad1=>∃ (A1:Option Addr) (N1 C1:Nat),cellH h_ ad1=some (.slice A1 N1 C1)/\let h_1:Heap:=(h_).push (.cells #[.int .i64 x] 3);CallsH P 192 #[.slice A1 N1 C1,.int .i64 t1,(.slice (some ⟨h_.size,0,none⟩) 1 1)] h_1 fun v1 h_2=>
 ∃ (A2:Option Addr) (N2 C2:Nat),v1=(.slice A2 N2 C2)/\AtP t fun ad2=>StoreH h_2 ad2 [.slice A2 N2 C2] fun h_3=>R (.tuple #[]) h_3
theorem run189 (x:Int) (t:Option Addr) (R:Value->Heap->Prop) (h:Heap) (hv:VC189 Tryz.prog x t R h):CallsH Tryz.prog 189 #[.int .i64 x,.pointer t] h R:=calls_of_fnC (Checked.mixed Tryz.checked) Tryz.func189 comp189 (Nat.le_of_ble_eq_true rfl) (Eq.mp (by kernel_rfl) hv)
def loops190:List (List (Nat×Shp)):=[[(9,.int .i64),(10,.int .i64)]]
noncomputable def code190:SCode:=((compF Tryz.prog Tryz.f190 loops190).elim .skip fun x=>x.2.2)
def ret190:List RV:=[.tmp 6,.tmp 7]
theorem comp190:compF Tryz.prog Tryz.f190 loops190=some (49,ret190,code190):=by kernel_rfl
def J190_1  (P:Program) (xA:(Option Addr)) (xN:Nat) (target:Int) (cmp:Value) (i j:Int) (next_:(Int×Int->Heap->Prop)) (h_1:Heap):Prop:=
 0≤((IntKind.wrap .i64 ((IntKind.wrap .u64 (IntKind.wrap .i64 (i+j))) / ((2 ^ 1:Nat):Int))):Int)/\((IntKind.wrap .i64 ((IntKind.wrap .u64 (IntKind.wrap .i64 (i+j))) / ((2 ^ 1:Nat):Int))):Int)<(xN:Nat)/\AtP xA fun ad=>∃ (t:Int),cellH h_1 (Addr.add ad (Int.toNat (IntKind.wrap .i64 ((IntKind.wrap .u64 (IntKind.wrap .i64 (i+j))) / ((2 ^ 1:Nat):Int)))*1))=some (.int .i64 t)/\CallV P cmp [.int .i64 t,.int .i64 target] h_1 fun v h_2=>
 ∃ (t1:Int),v=(.int .i64 t1)/\PIf (t1<0)
 (next_ ((IntKind.wrap .i64 ((IntKind.wrap .i64 ((IntKind.wrap .u64 (IntKind.wrap .i64 (i+j))) / ((2 ^ 1:Nat):Int)))+1)),j) h_2)
 (next_ (i,(IntKind.wrap .i64 ((IntKind.wrap .u64 (IntKind.wrap .i64 (i+j))) / ((2 ^ 1:Nat):Int)))) h_2)
def J190_0  (P:Program) (R:Value->Heap->Prop) (xA:(Option Addr)) (xN:Nat) (target:Int) (cmp:Value) (i1:Int) (h_3:Heap):Prop:=
 PIf (i1<((xN:Nat):Int))
 (0≤i1/\i1<(xN:Nat)/\AtP xA fun ad1=>∃ (t2:Int),cellH h_3 (Addr.add ad1 (Int.toNat i1*1))=some (.int .i64 t2)/\CallV P cmp [.int .i64 t2,.int .i64 target] h_3 fun v1 h_4=>
 ∃ (t3:Int),v1=(.int .i64 t3)/\PIf (t3=0)
 (R (.tuple #[.int .i64 i1,.bool true]) h_4)
 (R (.tuple #[.int .i64 i1,.bool false]) h_4))
 (R (.tuple #[.int .i64 i1,.bool false]) h_3)
def B190_2 (P:Program) (R:Value->Heap->Prop) (xA:(Option Addr)) (xN:Nat) (target:Int) (cmp:Value) (i j:Int) (h_:Heap) (next_:Int×Int->Heap->Prop):Prop:=
 PIf (i<j)
 (J190_1 P xA xN target cmp i j next_ h_)
 (J190_0 P R xA xN target cmp (i) h_)
def VC190 (P:Program) (xA:Option Addr) (xN xC:Nat) (target:Int) (cmp:Value) (R:Value->Heap->Prop) (h:Heap):Prop:=
 LoopT (σ:=Int×Int) (fun st_ h_st nx_st=>B190_2 P R xA xN target cmp (st_.1) (st_.2) h_st nx_st) (0,((xN:Nat):Int)) h
theorem run190 (xA:Option Addr) (xN xC:Nat) (target:Int) (cmp:Value) (R:Value->Heap->Prop) (h:Heap) (hv:VC190 Tryz.prog xA xN xC target cmp R h):CallsH Tryz.prog 190 #[.slice xA xN xC,.int .i64 target,cmp] h R:=calls_of_fnC (Checked.mixed Tryz.checked) Tryz.func190 comp190 (Nat.le_of_ble_eq_true rfl) (Eq.mp (by kernel_rfl) hv)
def loops191:List (List (Nat×Shp)):=[]
noncomputable def code191:SCode:=((compF Tryz.prog Tryz.f191 loops191).elim .skip fun x=>x.2.2)
def ret191:List RV:=[.tmp 4]
theorem comp191:compF Tryz.prog Tryz.f191 loops191=some (8,ret191,code191):=by kernel_rfl
def VC191 (P:Program) (a b:Int) (R:Value->Heap->Prop) (h:Heap):Prop:=
 R (.int .i64 (IntKind.wrap .i64 (b-a))) h
theorem run191 (a b:Int) (R:Value->Heap->Prop) (h:Heap) (hv:VC191 Tryz.prog a b R h):CallsH Tryz.prog 191 #[.int .i64 a,.int .i64 b] h R:=calls_of_fnC (Checked.mixed Tryz.checked) Tryz.func191 comp191 (Nat.le_of_ble_eq_true rfl) (Eq.mp (by kernel_rfl) hv)
def loops192:List (List (Nat×Shp)):=[]
noncomputable def code192:SCode:=((compF Tryz.prog Tryz.f192 loops192).elim .skip fun x=>x.2.2)
def ret192:List RV:=[.tmp 6]
theorem comp192:compF Tryz.prog Tryz.f192 loops192=some (95,ret192,code192):=by kernel_rfl
def J192_2  (R:Value->Heap->Prop) (sA:(Option Addr)) (sN sC:Nat) (i:Int) (vA:(Option Addr)) (vN:Nat) (h_6:Heap):Prop:=
 0≤(0:Int)/\(0:Int)≤(IntKind.wrap .i64 (((sN:Nat):Int)+((vN:Nat):Int)))/\((IntKind.wrap .i64 (((sN:Nat):Int)+((vN:Nat):Int))):Int)≤(sC:Nat)/\0≤((IntKind.wrap .i64 (i+((vN:Nat):Int))):Int)/\((IntKind.wrap .i64 (i+((vN:Nat):Int))):Int)≤(((Int.toNat (IntKind.wrap .i64 (((sN:Nat):Int)+((vN:Nat):Int)))-Int.toNat 0):Nat):Int)/\((((Int.toNat (IntKind.wrap .i64 (((sN:Nat):Int)+((vN:Nat):Int)))-Int.toNat 0):Nat):Int):Int)≤((sC-Int.toNat 0):Nat)/\Apart h_6 vA (cutA 1 (cutA 1 sA sC (Int.toNat 0)) (sC-Int.toNat 0) (Int.toNat (IntKind.wrap .i64 (i+((vN:Nat):Int))))) (0≤((IntKind.wrap .i64 (i+((vN:Nat):Int))):Int)/\((IntKind.wrap .i64 (i+((vN:Nat):Int))):Int)≤(((Int.toNat (IntKind.wrap .i64 (((sN:Nat):Int)+((vN:Nat):Int)))-Int.toNat 0):Nat):Int)/\((((Int.toNat (IntKind.wrap .i64 (((sN:Nat):Int)+((vN:Nat):Int)))-Int.toNat 0):Nat):Int):Int)≤((sC-Int.toNat 0):Nat)/\0≤i/\i≤(((Int.toNat (IntKind.wrap .i64 (((sN:Nat):Int)+((vN:Nat):Int)))-Int.toNat 0):Nat):Int)/\((((Int.toNat (IntKind.wrap .i64 (((sN:Nat):Int)+((vN:Nat):Int)))-Int.toNat 0):Nat):Int):Int)≤((sC-Int.toNat 0):Nat)/\∃ ys3:List Value,ReadL h_6 (cutA 1 (cutA 1 sA sC (Int.toNat 0)) (sC-Int.toNat 0) (Int.toNat i)) ys3/\ys3.length=(min (Int.toNat (((Int.toNat (IntKind.wrap .i64 (((sN:Nat):Int)+((vN:Nat):Int)))-Int.toNat 0):Nat):Int)-Int.toNat i) (Int.toNat (((Int.toNat (IntKind.wrap .i64 (((sN:Nat):Int)+((vN:Nat):Int)))-Int.toNat 0):Nat):Int)-Int.toNat (IntKind.wrap .i64 (i+((vN:Nat):Int)))))*1/\CpyH h_6 (cutA 1 (cutA 1 sA sC (Int.toNat 0)) (sC-Int.toNat 0) (Int.toNat (IntKind.wrap .i64 (i+((vN:Nat):Int))))) ys3 fun h_7=>0≤i/\i≤(((Int.toNat (IntKind.wrap .i64 (((sN:Nat):Int)+((vN:Nat):Int)))-Int.toNat 0):Nat):Int)/\((((Int.toNat (IntKind.wrap .i64 (((sN:Nat):Int)+((vN:Nat):Int)))-Int.toNat 0):Nat):Int):Int)≤((sC-Int.toNat 0):Nat)/\∃ ys4:List Value,ReadL h_7 vA ys4/\ys4.length=(min vN (Int.toNat (((Int.toNat (IntKind.wrap .i64 (((sN:Nat):Int)+((vN:Nat):Int)))-Int.toNat 0):Nat):Int)-Int.toNat i))*1/\CpyH h_7 (cutA 1 (cutA 1 sA sC (Int.toNat 0)) (sC-Int.toNat 0) (Int.toNat i)) ys4 fun h_8=>R (.slice (cutA 1 sA sC (Int.toNat 0)) (Int.toNat (IntKind.wrap .i64 (((sN:Nat):Int)+((vN:Nat):Int)))-Int.toNat 0) (sC-Int.toNat 0)) h_8)
def J192_1  (R:Value->Heap->Prop) (sA:(Option Addr)) (sN sC:Nat) (i:Int) (vA:(Option Addr)) (vN:Nat) (h_2:Heap):Prop:=
 PIf ((((sC:Nat):Int):Int)<(IntKind.wrap .i64 (((sN:Nat):Int)+((vN:Nat):Int))))
 (0≤(0:Int)/\(0:Int)≤i/\i≤(sC:Nat)/\0≤((IntKind.wrap .i64 ((IntKind.wrap .i64 (((sN:Nat):Int)+((vN:Nat):Int)))-i)):Int)/\((IntKind.wrap .i64 ((IntKind.wrap .i64 (((sN:Nat):Int)+((vN:Nat):Int)))-i)):Int)*8≤140737488355328/\AppS h_2 (cutA 1 sA sC (Int.toNat 0)) (Int.toNat i-Int.toNat 0) (sC-Int.toNat 0) 3 8 1 #[.int .i64 0] (zeroRow #[.int .i64 0] (Int.toNat (IntKind.wrap .i64 ((IntKind.wrap .i64 (((sN:Nat):Int)+((vN:Nat):Int)))-i))*1)) (Int.toNat (IntKind.wrap .i64 ((IntKind.wrap .i64 (((sN:Nat):Int)+((vN:Nat):Int)))-i))) fun apA1 apN1 apC1 h_3=>0≤i/\i≤((apN1:Nat):Int)/\(((apN1:Nat):Int):Int)≤(apC1:Nat)/\∃ ys1:List Value,ReadL h_3 vA ys1/\ys1.length=(min vN (Int.toNat ((apN1:Nat):Int)-Int.toNat i))*1/\CpyH h_3 (cutA 1 apA1 apC1 (Int.toNat i)) ys1 fun h_4=>0≤((IntKind.wrap .i64 (i+((vN:Nat):Int))):Int)/\((IntKind.wrap .i64 (i+((vN:Nat):Int))):Int)≤((apN1:Nat):Int)/\(((apN1:Nat):Int):Int)≤(apC1:Nat)/\0≤i/\i≤((sN:Nat):Int)/\(((sN:Nat):Int):Int)≤(sC:Nat)/\∃ ys2:List Value,ReadL h_4 (cutA 1 sA sC (Int.toNat i)) ys2/\ys2.length=(min (Int.toNat ((sN:Nat):Int)-Int.toNat i) (Int.toNat ((apN1:Nat):Int)-Int.toNat (IntKind.wrap .i64 (i+((vN:Nat):Int)))))*1/\CpyH h_4 (cutA 1 apA1 apC1 (Int.toNat (IntKind.wrap .i64 (i+((vN:Nat):Int))))) ys2 fun h_5=>R (.slice apA1 apN1 apC1) h_5)
 (J192_2 R sA sN sC i vA vN h_2)
def J192_0  (R:Value->Heap->Prop) (sA:(Option Addr)) (sN sC:Nat) (i:Int) (vA:(Option Addr)) (vN:Nat) (h_:Heap):Prop:=
 PIf (i=((sN:Nat):Int))
 (∃ ys:List Value,ReadL h_ vA ys/\ys.length=vN*1/\AppS h_ sA sN sC 3 8 1 #[.int .i64 0] ys vN fun apA apN apC h_1=>R (.slice apA apN apC) h_1)
 (J192_1 R sA sN sC i vA vN h_)
def VC192 (P:Program) (sA:Option Addr) (sN sC:Nat) (i:Int) (vA:Option Addr) (vN vC:Nat) (R:Value->Heap->Prop) (h:Heap):Prop:=
 0≤i/\i≤((sN:Nat):Int)/\(((sN:Nat):Int):Int)≤(sC:Nat)/\PIf ((((vN:Nat):Int):Int)=0)
 (R (.slice sA sN sC) h)
 (J192_0 R sA sN sC i vA vN h)
theorem run192 (sA:Option Addr) (sN sC:Nat) (i:Int) (vA:Option Addr) (vN vC:Nat) (R:Value->Heap->Prop) (h:Heap) (hv:VC192 Tryz.prog sA sN sC i vA vN vC R h):CallsH Tryz.prog 192 #[.slice sA sN sC,.int .i64 i,.slice vA vN vC] h R:=calls_of_fnC (Checked.mixed Tryz.checked) Tryz.func192 comp192 (Nat.le_of_ble_eq_true rfl) (Eq.mp (by kernel_rfl) hv)
end Go.Proofs.YtdpbdjdgdmheiaaGreat
