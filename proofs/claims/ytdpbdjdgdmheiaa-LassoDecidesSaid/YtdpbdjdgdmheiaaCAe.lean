/- Words and facts that the claim's proof leans on. No condition. -/
import Derived.Test.YtdpbdjdgdmheiaaHxV
import Derived.Test.YtdpbdjdgdmheiaaChecked
set_option maxRecDepth 100000
set_option linter.unusedVariables false
namespace Go.Proofs.Ytdpbdjdgdmheiaa
open Go.Hx
def loops69:List (List (Nat×Shp)):=[]
noncomputable def code69:SCode:=((compF Try.prog Try.f69 loops69).elim .skip fun x=>x.2.2)
def ret69:List RV:=[.tmp 2,.tmp 3]
theorem comp69:compF Try.prog Try.f69 loops69=some (18,ret69,code69):=by kernel_rfl
def VC69 (P:Program) (c:CV) (R:Value->Heap->Prop) (h:Heap):Prop:=
 let h_:Heap:=(h).push (.cells (Value.cells c.v) 29);LdC h_ ⟨h.size,0,none⟩ fun t=>CallsH P 97 #[t.v] h_ fun v h_1=>
 ∃ (A10:Option Addr) (N10 C10:Nat) (t1:Int),v=(.tuple #[.slice A10 N10 C10,.int .i64 t1])/\PIf (t1=0)
 (LdC h_1 ⟨h.size,0,none⟩ fun t2=>let h_2:Heap:=(h_1).push (.cells (Value.cells (.agg #[.int .i64 t2.mx,.slice t2.i.a t2.i.n t2.i.c,.slice t2.l.a t2.l.n t2.l.c,.slice t2.o.a t2.o.n t2.o.c,.slice t2.b.a t2.b.n t2.b.c,.slice t2.c.a t2.c.n t2.c.c,.slice t2.j.a t2.j.n t2.j.c,.slice t2.f.a t2.f.n t2.f.c,.slice t2.g.a t2.g.n t2.g.c,.slice t2.s.a t2.s.n t2.s.c,.slice t2.m.a t2.m.n t2.m.c,.slice A10 N10 C10])) 145);R (.tuple #[(.pointer (some ⟨h_1.size,0,none⟩)),.int .i64 0]) h_2)
 (R (.tuple #[.pointer none,.int .i64 t1]) h_1)
theorem run69 (c:CV) (R:Value->Heap->Prop) (h:Heap) (hv:VC69 Try.prog c R h):CallsH Try.prog 69 #[c.v] h R:=calls_of_fnC (Checked.mixed Try.checked) Try.func69 comp69 (Nat.le_of_ble_eq_true rfl) (Eq.mp (by kernel_rfl) hv)
def loops70:List (List (Nat×Shp)):=[[(27,.int .i64)],[(52,.int .i64)],[(78,.int .i64)]]
noncomputable def code70:SCode:=((compF Try.prog Try.f70 loops70).elim .skip fun x=>x.2.2)
def ret70:List RV:=[.tmp 6]
theorem comp70:compF Try.prog Try.f70 loops70=some (107,ret70,code70):=by kernel_rfl
def J70_1  (r:(Option Addr)) (rowA:(Option Addr)) (rowN:Nat) (h_:Heap) (t1:Int) (next_:(Int->Heap->Prop)) (h_4:Heap):Prop:=
 ∃ (A1:Option Addr) (N1 C1:Nat),cellH h_4 ⟨h_.size,0,none⟩=some (.slice A1 N1 C1)/\AtP r fun ad2=>∃ (A2:Option Addr) (N2 C2:Nat),cellH h_4 (Addr.add (Addr.add ad2 0) 1)=some (.slice A2 N2 C2)/\0≤t1/\t1<(N2:Nat)/\AtP A2 fun ad3=>∃ (t2:Int),cellH h_4 (Addr.add ad3 (Int.toNat t1*1))=some (.int .i64 t2)/\0≤t1/\t1<(rowN:Nat)/\AtP rowA fun ad4=>∃ (t3:Bool),cellH h_4 (Addr.add ad4 (Int.toNat t1*1))=some (.bool t3)/\0≤((t2 / ((2 ^ 1:Nat):Int)):Int)/\((t2 / ((2 ^ 1:Nat):Int)):Int)<(N1:Nat)/\AtP A1 fun ad5=>StoreH h_4 (Addr.add ad5 (Int.toNat (t2 / ((2 ^ 1:Nat):Int))*1)) [.bool t3] fun h_5=>next_ (IntKind.wrap .i64 (t1+1)) h_5
def J70_4  (r:(Option Addr)) (stateA:(Option Addr)) (stateN:Nat) (h_:Heap) (t4:Int) (next_1:(Int->Heap->Prop)) (h_8:Heap):Prop:=
 ∃ (A4:Option Addr) (N4 C4:Nat),cellH h_8 ⟨h_.size,0,none⟩=some (.slice A4 N4 C4)/\AtP r fun ad7=>∃ (A5:Option Addr) (N5 C5:Nat),cellH h_8 (Addr.add (Addr.add ad7 0) 2)=some (.slice A5 N5 C5)/\0≤t4/\t4<(N5:Nat)/\AtP A5 fun ad8=>∃ (t5:Int),cellH h_8 (Addr.add (Addr.add ad8 (Int.toNat t4*3)) 0)=some (.int .i64 t5)/\0≤t4/\t4<(stateN:Nat)/\AtP stateA fun ad9=>∃ (t6:Bool),cellH h_8 (Addr.add ad9 (Int.toNat t4*1))=some (.bool t6)/\0≤((t5 / ((2 ^ 1:Nat):Int)):Int)/\((t5 / ((2 ^ 1:Nat):Int)):Int)<(N4:Nat)/\AtP A4 fun ad10=>StoreH h_8 (Addr.add ad10 (Int.toNat (t5 / ((2 ^ 1:Nat):Int))*1)) [.bool t6] fun h_9=>next_1 (IntKind.wrap .i64 (t4+1)) h_9
def J70_7  (P:Program) (r:(Option Addr)) (h_:Heap) (A6:(Option Addr)) (N6:Nat) (t7:Int) (next_2:(Int->Heap->Prop)) (h_12:Heap):Prop:=
 0≤t7/\t7<(N6:Nat)/\AtP A6 fun ad12=>∃ (t8:Int),cellH h_12 (Addr.add ad12 (Int.toNat t7*1))=some (.int .i64 t8)/\AtP r fun ad13=>∃ (A7:Option Addr) (N7 C7:Nat),cellH h_12 (Addr.add (Addr.add ad13 0) 8)=some (.slice A7 N7 C7)/\0≤t8/\t8<(N7:Nat)/\AtP A7 fun ad14=>∃ (t9 t10 t11:Int),cellsH h_12 (Addr.add ad14 (Int.toNat t8*3)) 0 [.int .i64 t9,.int .i64 t10,.int .i64 t11]/\let h_13:Heap:=(h_12).push (.cells #[.int .i64 0,.int .i64 0,.int .i64 0] 120);StoreH h_13 ⟨h_12.size,0,none⟩ [.int .i64 t9,.int .i64 t10,.int .i64 t11] fun h_14=>(Addr.block ⟨h_.size,0,none⟩)<(h_14).size/\∃ (A8:Option Addr) (N8 C8:Nat),cellH h_14 ⟨h_.size,0,none⟩=some (.slice A8 N8 C8)/\(Addr.block (Addr.add ⟨h_12.size,0,none⟩ 0))<(h_14).size/\∃ (t12:Int),cellH h_14 (Addr.add ⟨h_12.size,0,none⟩ 0)=some (.int .i64 t12)/\(Addr.block (Addr.add ⟨h_12.size,0,none⟩ 1))<(h_14).size/\∃ (t13:Int),cellH h_14 (Addr.add ⟨h_12.size,0,none⟩ 1)=some (.int .i64 t13)/\callOkP P 98/\CallsH P 98 #[.int .i64 t13,(.pointer (some ⟨h_.size,0,none⟩))] h_14 fun v h_15=>
 ∃ (t14:Bool),v=(.bool t14)/\AgreeH (h_14).size h_14 h_15/\BIf t14 ((Addr.block (Addr.add ⟨h_12.size,0,none⟩ 2))<(h_14).size/\∃ (t15:Int),cellH h_15 (Addr.add ⟨h_12.size,0,none⟩ 2)=some (.int .i64 t15)/\callOkP P 98/\CallsH P 98 #[.int .i64 t15,(.pointer (some ⟨h_.size,0,none⟩))] h_15 fun v1 h_16=>
 ∃ (t16:Bool),v1=(.bool t16)/\AgreeH (h_14).size h_15 h_16/\0≤((t12 / ((2 ^ 1:Nat):Int)):Int)/\((t12 / ((2 ^ 1:Nat):Int)):Int)<(N8:Nat)/\AtP A8 fun ad15=>StoreH h_16 (Addr.add ad15 (Int.toNat (t12 / ((2 ^ 1:Nat):Int))*1)) [.bool t16] fun h_17=>next_2 (IntKind.wrap .i64 (t7+1)) h_17) (0≤((t12 / ((2 ^ 1:Nat):Int)):Int)/\((t12 / ((2 ^ 1:Nat):Int)):Int)<(N8:Nat)/\AtP A8 fun ad16=>StoreH h_15 (Addr.add ad16 (Int.toNat (t12 / ((2 ^ 1:Nat):Int))*1)) [.bool false] fun h_18=>next_2 (IntKind.wrap .i64 (t7+1)) h_18)
def J70_6  (R:Value->Heap->Prop) (h_ h_19:Heap):Prop:=
 ∃ (A9:Option Addr) (N9 C9:Nat),cellH h_19 ⟨h_.size,0,none⟩=some (.slice A9 N9 C9)/\R (.slice A9 N9 C9) h_19
def B70_9 (P:Program) (R:Value->Heap->Prop) (r:(Option Addr)) (h_:Heap) (A6:(Option Addr)) (N6:Nat) (t7:Int) (h_11:Heap) (next_2:Int->Heap->Prop):Prop:=
 PIf (t7<((N6:Nat):Int))
 (J70_7 P r h_ A6 N6 t7 next_2 h_11)
 (J70_6 R h_ h_11)
def J70_3  (P:Program) (R:Value->Heap->Prop) (r:(Option Addr)) (h_ h_10:Heap):Prop:=
 AtP r fun ad11=>∃ (A6:Option Addr) (N6 C6:Nat),cellH h_10 (Addr.add ad11 11)=some (.slice A6 N6 C6)/\LoopT (σ:=Int) (fun st_ h_st nx_st=>B70_9 P R r h_ A6 N6 (st_) h_st nx_st) (0) h_10
def B70_10 (P:Program) (R:Value->Heap->Prop) (r:(Option Addr)) (stateA:(Option Addr)) (stateN:Nat) (h_:Heap) (N3:Nat) (t4:Int) (h_7:Heap) (next_1:Int->Heap->Prop):Prop:=
 PIf (t4<((N3:Nat):Int))
 (J70_4 r stateA stateN h_ t4 next_1 h_7)
 (J70_3 P R r h_ h_7)
def J70_0  (P:Program) (R:Value->Heap->Prop) (r:(Option Addr)) (stateA:(Option Addr)) (stateN:Nat) (h_ h_6:Heap):Prop:=
 AtP r fun ad6=>∃ (A3:Option Addr) (N3 C3:Nat),cellH h_6 (Addr.add (Addr.add ad6 0) 2)=some (.slice A3 N3 C3)/\LoopT (σ:=Int) (fun st_ h_st nx_st=>B70_10 P R r stateA stateN h_ N3 (st_) h_st nx_st) (0) h_6
def B70_11 (P:Program) (R:Value->Heap->Prop) (r:(Option Addr)) (stateA:(Option Addr)) (stateN:Nat) (rowA:(Option Addr)) (rowN:Nat) (h_:Heap) (N:Nat) (t1:Int) (h_3:Heap) (next_:Int->Heap->Prop):Prop:=
 PIf (t1<((N:Nat):Int))
 (J70_1 r rowA rowN h_ t1 next_ h_3)
 (J70_0 P R r stateA stateN h_ h_3)
def VC70 (P:Program) (r stateA:Option Addr) (stateN stateC:Nat) (rowA:Option Addr) (rowN rowC:Nat) (R:Value->Heap->Prop) (h:Heap):Prop:=
 AtP r fun ad=>∃ (t:Int),cellH h (Addr.add (Addr.add ad 0) 0)=some (.int .i64 t)/\0≤((IntKind.wrap .i64 (t+1)):Int)/\((IntKind.wrap .i64 (t+1)):Int)≤(IntKind.wrap .i64 (t+1))/\(1:Int)*(IntKind.wrap .i64 (t+1))≤281474976710656/\let h_:Heap:=(h).push (.cells (zeroRow #[.bool false] (Int.toNat (IntKind.wrap .i64 (t+1))*1)).toArray 4);let h_1:Heap:=(h_).push (.cells #[.slice none 0 0] 44);StoreH h_1 ⟨h_.size,0,none⟩ [(.slice (some ⟨h.size,0,none⟩) (Int.toNat (IntKind.wrap .i64 (t+1))) (Int.toNat (IntKind.wrap .i64 (t+1))))] fun h_2=>AtP r fun ad1=>∃ (A:Option Addr) (N C:Nat),cellH h_2 (Addr.add (Addr.add ad1 0) 1)=some (.slice A N C)/\LoopT (σ:=Int) (fun st_ h_st nx_st=>B70_11 P R r stateA stateN rowA rowN h_ N (st_) h_st nx_st) (0) h_2
theorem run70 (r stateA:Option Addr) (stateN stateC:Nat) (rowA:Option Addr) (rowN rowC:Nat) (R:Value->Heap->Prop) (h:Heap) (hv:VC70 Try.prog r stateA stateN stateC rowA rowN rowC R h):CallsH Try.prog 70 #[.pointer r,.slice stateA stateN stateC,.slice rowA rowN rowC] h R:=calls_of_fnC (Checked.mixed Try.checked) Try.func70 comp70 (Nat.le_of_ble_eq_true rfl) (Eq.mp (by kernel_rfl) hv)
def loops84:List (List (Nat×Shp)):=[[(25,.int .i64)],[(47,.int .i64)]]
noncomputable def code84:SCode:=((compF Try.prog Try.f84 loops84).elim .skip fun x=>x.2.2)
def ret84:List RV:=[.cellN 6 [.slice,.bool,.slice,.slice]]
theorem comp84:compF Try.prog Try.f84 loops84=some (65,ret84,code84):=by kernel_rfl
def J84_1  (P:Program) (h:Heap) (b:Nat) (A2:(Option Addr)) (N2:Nat) (t1:Int) (next_:(Int->Heap->Prop)) (h_10:Heap):Prop:=
 0≤t1/\t1<(N2:Nat)/\AtP A2 fun ad1=>∃ (t2:Int),cellH h_10 (Addr.add ad1 (Int.toNat t1*1))=some (.int .i64 t2)/\∃ (A3:Option Addr) (N3 C3:Nat),cellH h_10 ⟨h.size,0,none⟩=some (.slice A3 N3 C3)/\CallsH P 72 #[.slice A3 N3 C3,.int .i64 t2] h_10 fun v2 h_11=>
 ∃ (t3:Bool),v2=(.bool t3)/\BIf t3 (∃ (A4:Option Addr) (N4 C4:Nat),cellH h_11 (Addr.add (Addr.mk b 0 none) 2)=some (.slice A4 N4 C4)/\let h_12:Heap:=(h_11).push (.cells #[.int .i64 t1] 3);∃ ys:List Value,ReadL h_12 (some ⟨h_11.size,0,none⟩) ys/\ys.length=1*1/\AppS h_12 A4 N4 C4 3 8 1 #[.int .i64 0] ys 1 fun apA apN apC h_13=>StoreH h_13 (Addr.add (Addr.mk b 0 none) 2) [.slice apA apN apC] fun h_14=>next_ (IntKind.wrap .i64 (t1+1)) h_14) (next_ (IntKind.wrap .i64 (t1+1)) h_11)
def J84_4  (P:Program) (h:Heap) (b:Nat) (A5:(Option Addr)) (N5:Nat) (t4:Int) (next_1:(Int->Heap->Prop)) (h_17:Heap):Prop:=
 0≤t4/\t4<(N5:Nat)/\AtP A5 fun ad3=>∃ (A6:Option Addr) (N6 C6:Nat),cellH h_17 (Addr.add ad3 (Int.toNat t4*1))=some (.slice A6 N6 C6)/\callOkP P 115/\CallsH P 115 #[.int .i64 t4,.slice A6 N6 C6,(.pointer (some ⟨h.size,0,none⟩)),(.pointer (some (Addr.mk b 0 none)))] h_17 fun v3 h_18=>
 v3=(.tuple #[])/\next_1 (IntKind.wrap .i64 (t4+1)) h_18
def J84_3  (P:Program) (R:Value->Heap->Prop) (h:Heap) (r:(Option Addr)) (h_:Heap) (b:Nat) (h_19:Heap):Prop:=
 AtP r fun ad4=>∃ (A7:Option Addr) (N7 C7:Nat),cellH h_19 (Addr.add (Addr.add ad4 0) 7)=some (.slice A7 N7 C7)/\callOkP P 115/\CallsH P 115 #[(.int .i64 (-1)),.slice A7 N7 C7,(.pointer (some ⟨h.size,0,none⟩)),(.pointer (some (Addr.mk b 0 none)))] h_19 fun v4 h_20=>
 v4=(.tuple #[])/\∃ (A8:Option Addr) (N8 C8:Nat) (t5:Bool) (A9:Option Addr) (N9 C9:Nat) (A10:Option Addr) (N10 C10:Nat),cellsH h_20 (Addr.mk b 0 none) 0 [.slice A8 N8 C8,.bool t5,.slice A9 N9 C9,.slice A10 N10 C10]/\StoreH h_20 ⟨h_.size,0,none⟩ [.slice A8 N8 C8,.bool t5,.slice A9 N9 C9,.slice A10 N10 C10] fun h_21=>∃ (A11:Option Addr) (N11 C11:Nat) (t6:Bool) (A12:Option Addr) (N12 C12:Nat) (A13:Option Addr) (N13 C13:Nat),cellsH h_21 ⟨h_.size,0,none⟩ 0 [.slice A11 N11 C11,.bool t6,.slice A12 N12 C12,.slice A13 N13 C13]/\R (.agg #[.slice A11 N11 C11,.bool t6,.slice A12 N12 C12,.slice A13 N13 C13]) h_21
def B84_6 (P:Program) (R:Value->Heap->Prop) (h:Heap) (r:(Option Addr)) (h_:Heap) (b:Nat) (A5:(Option Addr)) (N5:Nat) (t4:Int) (h_16:Heap) (next_1:Int->Heap->Prop):Prop:=
 PIf (t4<((N5:Nat):Int))
 (J84_4 P h b A5 N5 t4 next_1 h_16)
 (J84_3 P R h r h_ b h_16)
def J84_0  (P:Program) (R:Value->Heap->Prop) (h:Heap) (r:(Option Addr)) (h_:Heap) (b:Nat) (h_15:Heap):Prop:=
 AtP r fun ad2=>∃ (A5:Option Addr) (N5 C5:Nat),cellH h_15 (Addr.add (Addr.add ad2 0) 6)=some (.slice A5 N5 C5)/\LoopT (σ:=Int) (fun st_ h_st nx_st=>B84_6 P R h r h_ b A5 N5 (st_) h_st nx_st) (0) h_15
def B84_7 (P:Program) (R:Value->Heap->Prop) (h:Heap) (r:(Option Addr)) (h_:Heap) (b:Nat) (A2:(Option Addr)) (N2:Nat) (t1:Int) (h_9:Heap) (next_:Int->Heap->Prop):Prop:=
 PIf (t1<((N2:Nat):Int))
 (J84_1 P h b A2 N2 t1 next_ h_9)
 (J84_0 P R h r h_ b h_9)
def VC84 (P:Program) (r stateA:Option Addr) (stateN stateC:Nat) (vA:Option Addr) (vN vC:Nat) (R:Value->Heap->Prop) (h:Heap):Prop:=
 let h_:Heap:=(h).push (.cells #[.slice vA vN vC] 44);let h_1:Heap:=(h_).push (.cells #[.slice none 0 0,.bool false,.slice none 0 0,.slice none 0 0] 116);∀ (U:Nat->Prop) (h_2:Heap),GrowH none' h_1 U h_2->CallsH P 51 #[.slice stateA stateN stateC] h_2 fun v h_3=>
 ∃ (A:Option Addr) (N C:Nat),v=(.slice A N C)/\Keeps (h_1).size U h_2 h_3/\(Addr.block ⟨h.size,0,none⟩)<(h_1).size/\∃ (A1:Option Addr) (N1 C1:Nat),cellH h_3 ⟨h.size,0,none⟩=some (.slice A1 N1 C1)/\∀ (U1:Nat->Prop) (h_4:Heap),GrowH U h_3 U1 h_4->CallsH P 42 #[.pointer r,.slice A1 N1 C1] h_4 fun v1 h_5=>
 ∃ (t:Bool),v1=(.bool t)/\Keeps (h_1).size U1 h_4 h_5/\∀ (U2:Nat->Prop) (h_6:Heap) (b:Nat),GrowH U1 h_5 U2 h_6->U2 b->(h_6)[b]?=some (Obj.cells #[.slice none 0 0,.bool false,.slice none 0 0,.slice none 0 0] 116)->∀ (U3:Nat->Prop) (h_7:Heap),GrowH (minus U2 b) h_6 U3 h_7->StoreH h_7 (Addr.mk b 0 none) [.slice A N C,.bool t,.slice none 0 0,.slice none 0 0] fun h_8=>(h_7).size≤(h_8).size/\AtP r fun ad=>∃ (A2:Option Addr) (N2 C2:Nat),cellH h_8 (Addr.add (Addr.add ad 0) 4)=some (.slice A2 N2 C2)/\LoopT (σ:=Int) (fun st_ h_st nx_st=>B84_7 P R h r h_ b A2 N2 (st_) h_st nx_st) (0) h_8
theorem run84 (r stateA:Option Addr) (stateN stateC:Nat) (vA:Option Addr) (vN vC:Nat) (R:Value->Heap->Prop) (h:Heap) (hv:VC84 Try.prog r stateA stateN stateC vA vN vC R h):CallsH Try.prog 84 #[.pointer r,.slice stateA stateN stateC,.slice vA vN vC] h R:=calls_of_fnC (Checked.mixed Try.checked) Try.func84 comp84 (Nat.le_of_ble_eq_true rfl) (Eq.mp (by kernel_rfl) hv)
def loops43:List (List (Nat×Shp)):=[[(21,.int .i64)]]
noncomputable def code43:SCode:=((compF Try.prog Try.f43 loops43).elim .skip fun x=>x.2.2)
def ret43:List RV:=[.tmp 4]
theorem comp43:compF Try.prog Try.f43 loops43=some (35,ret43,code43):=by kernel_rfl
def J43_1  (P:Program) (h:Heap) (vA:(Option Addr)) (vN vC N:Nat) (A1:(Option Addr)) (N1:Nat) (t:Int) (next_:(Int->Heap->Prop)) (h_2:Heap):Prop:=
 0≤t/\t<(N1:Nat)/\AtP A1 fun ad2=>∃ (t1 t2 t3:Int),cellsH h_2 (Addr.add ad2 (Int.toNat t*3)) 0 [.int .i64 t1,.int .i64 t2,.int .i64 t3]/\let h_3:Heap:=(h_2).push (.cells #[.int .i64 0,.int .i64 0,.int .i64 0] 63);StoreH h_3 ⟨h_2.size,0,none⟩ [.int .i64 t1,.int .i64 t2,.int .i64 t3] fun h_4=>∃ (t4:Int),cellH h_4 (Addr.add ⟨h_2.size,0,none⟩ 1)=some (.int .i64 t4)/\CallsH P 72 #[.slice vA vN vC,.int .i64 t4] h_4 fun v h_5=>
 ∃ (t5:Bool),v=(.bool t5)/\0≤t/\t<((Int.toNat ((N:Nat):Int)):Nat)/\StoreH h_5 (Addr.add ⟨h.size,0,none⟩ (Int.toNat t*1)) [.bool t5] fun h_6=>next_ (IntKind.wrap .i64 (t+1)) h_6
def J43_0  (R:Value->Heap->Prop) (h:Heap) (N:Nat) (h_7:Heap):Prop:=
 R (.slice (some ⟨h.size,0,none⟩) (Int.toNat ((N:Nat):Int)) (Int.toNat ((N:Nat):Int))) h_7
def B43_3 (P:Program) (R:Value->Heap->Prop) (h:Heap) (vA:(Option Addr)) (vN vC N:Nat) (A1:(Option Addr)) (N1:Nat) (t:Int) (h_1:Heap) (next_:Int->Heap->Prop):Prop:=
 PIf (t<((N1:Nat):Int))
 (J43_1 P h vA vN vC N A1 N1 t next_ h_1)
 (J43_0 R h N h_1)
def VC43 (P:Program) (r vA:Option Addr) (vN vC:Nat) (R:Value->Heap->Prop) (h:Heap):Prop:=
 AtP r fun ad=>∃ (A:Option Addr) (N C:Nat),cellH h (Addr.add (Addr.add ad 0) 2)=some (.slice A N C)/\0≤(((N:Nat):Int):Int)/\(((N:Nat):Int):Int)≤((N:Nat):Int)/\(1:Int)*((N:Nat):Int)≤281474976710656/\let h_:Heap:=(h).push (.cells (zeroRow #[.bool false] (Int.toNat ((N:Nat):Int)*1)).toArray 4);AtP r fun ad1=>∃ (A1:Option Addr) (N1 C1:Nat),cellH h_ (Addr.add (Addr.add ad1 0) 2)=some (.slice A1 N1 C1)/\LoopT (σ:=Int) (fun st_ h_st nx_st=>B43_3 P R h vA vN vC N A1 N1 (st_) h_st nx_st) (0) h_
theorem run43 (r vA:Option Addr) (vN vC:Nat) (R:Value->Heap->Prop) (h:Heap) (hv:VC43 Try.prog r vA vN vC R h):CallsH Try.prog 43 #[.pointer r,.slice vA vN vC] h R:=calls_of_fnC (Checked.mixed Try.checked) Try.func43 comp43 (Nat.le_of_ble_eq_true rfl) (Eq.mp (by kernel_rfl) hv)
def loops41:List (List (Nat×Shp)):=[]
noncomputable def code41:SCode:=((compF Try.prog Try.f41 loops41).elim .skip fun x=>x.2.2)
def ret41:List RV:=[.tmp 6,.tmp 7,.tmp 8]
theorem comp41:compF Try.prog Try.f41 loops41=some (38,ret41,code41):=by kernel_rfl
def J41_0  (P:Program) (R:Value->Heap->Prop) (h:Heap) (stateA:(Option Addr)) (stateN stateC:Nat) (rowA:(Option Addr)) (rowN rowC:Nat) (t1:(Option Addr)) (h_2:Heap):Prop:=
 ∃ (A10:Option Addr) (N10 C10:Nat),cellH h_2 (Addr.add ⟨h.size,0,none⟩ 2)=some (.slice A10 N10 C10)/\PIf ((((stateN:Nat):Int):Int)=((N10:Nat):Int))
 (∃ (A11:Option Addr) (N11 C11:Nat),cellH h_2 (Addr.add ⟨h.size,0,none⟩ 1)=some (.slice A11 N11 C11)/\PIf ((((rowN:Nat):Int):Int)=((N11:Nat):Int))
 (CallsH P 70 #[.pointer t1,.slice stateA stateN stateC,.slice rowA rowN rowC] h_2 fun v1 h_3=>
 ∃ (A12:Option Addr) (N12 C12:Nat),v1=(.slice A12 N12 C12)/\R (.tuple #[.pointer t1,.slice A12 N12 C12,.int .i64 0]) h_3)
 (R (.tuple #[.pointer none,.slice none 0 0,.int .i64 4]) h_2))
 (R (.tuple #[.pointer none,.slice none 0 0,.int .i64 4]) h_2)
def VC41 (P:Program) (c:CV) (stateA:Option Addr) (stateN stateC:Nat) (rowA:Option Addr) (rowN rowC:Nat) (R:Value->Heap->Prop) (h:Heap):Prop:=
 let h_:Heap:=(h).push (.cells (Value.cells c.v) 29);LdC h_ ⟨h.size,0,none⟩ fun t=>CallsH P 69 #[t.v] h_ fun v h_1=>
 ∃ (t1:Option Addr) (t2:Int),v=(.tuple #[.pointer t1,.int .i64 t2])/\PIf (t2=0)
 (J41_0 P R h stateA stateN stateC rowA rowN rowC t1 h_1)
 (R (.tuple #[.pointer none,.slice none 0 0,.int .i64 t2]) h_1)
theorem run41 (c:CV) (stateA:Option Addr) (stateN stateC:Nat) (rowA:Option Addr) (rowN rowC:Nat) (R:Value->Heap->Prop) (h:Heap) (hv:VC41 Try.prog c stateA stateN stateC rowA rowN rowC R h):CallsH Try.prog 41 #[c.v,.slice stateA stateN stateC,.slice rowA rowN rowC] h R:=calls_of_fnC (Checked.mixed Try.checked) Try.func41 comp41 (Nat.le_of_ble_eq_true rfl) (Eq.mp (by kernel_rfl) hv)
def loops42:List (List (Nat×Shp)):=[]
noncomputable def code42:SCode:=((compF Try.prog Try.f42 loops42).elim .skip fun x=>x.2.2)
def ret42:List RV:=[.tmp 4]
theorem comp42:compF Try.prog Try.f42 loops42=some (13,ret42,code42):=by kernel_rfl
def VC42 (P:Program) (r vA:Option Addr) (vN vC:Nat) (R:Value->Heap->Prop) (h:Heap):Prop:=
 let h_:Heap:=(h).push (.cells #[.slice vA vN vC] 44);AtP r fun ad=>∃ (A:Option Addr) (N C:Nat),cellH h_ (Addr.add (Addr.add ad 0) 5)=some (.slice A N C)/\CallsH P 60 #[.slice A N C,(.func (.func 71) #[] #[(.pointer (some ⟨h.size,0,none⟩))])] h_ fun v h_1=>
 ∃ (t:Bool),v=(.bool t)/\R (.bool (!t)) h_1
theorem run42 (r vA:Option Addr) (vN vC:Nat) (R:Value->Heap->Prop) (h:Heap) (hv:VC42 Try.prog r vA vN vC R h):CallsH Try.prog 42 #[.pointer r,.slice vA vN vC] h R:=calls_of_fnC (Checked.mixed Try.checked) Try.func42 comp42 (Nat.le_of_ble_eq_true rfl) (Eq.mp (by kernel_rfl) hv)
def loops99:List (List (Nat×Shp)):=[[(25,.int .i64)],[(11,.int .i64),(48,.int .i64)]]
noncomputable def code99:SCode:=((compF Try.prog Try.f99 loops99).elim .skip fun x=>x.2.2)
def ret99:List RV:=[.tmp 4,.tmp 5,.tmp 6]
theorem comp99:compF Try.prog Try.f99 loops99=some (63,ret99,code99):=by kernel_rfl
def J99_2  (R:Value->Heap->Prop) (h_:Heap) (A13:(Option Addr)) (N13:Nat) (t4:Int) (next_:(Int->Heap->Prop)) (h_5:Heap):Prop:=
 0≤t4/\t4<(N13:Nat)/\AtP A13 fun ad=>∃ (t5 t6 t7:Int),cellsH h_5 (Addr.add ad (Int.toNat t4*3)) 0 [.int .i64 t5,.int .i64 t6,.int .i64 t7]/\let h_6:Heap:=(h_5).push (.cells #[.int .i64 0,.int .i64 0,.int .i64 0] 63);StoreH h_6 ⟨h_5.size,0,none⟩ [.int .i64 t5,.int .i64 t6,.int .i64 t7] fun h_7=>∃ (t8:Int),cellH h_7 (Addr.add ⟨h_5.size,0,none⟩ 2)=some (.int .i64 t8)/\PIf (t8<2)
 (∃ (A14:Option Addr) (N14 C14:Nat),cellH h_7 (Addr.add ⟨h_.size,0,none⟩ 0)=some (.slice A14 N14 C14)/\0≤t4/\t4<(N14:Nat)/\AtP A14 fun ad1=>∃ (t9:Bool),cellH h_7 (Addr.add ad1 (Int.toNat t4*1))=some (.bool t9)/\∃ (t10:Int),cellH h_7 (Addr.add ⟨h_5.size,0,none⟩ 2)=some (.int .i64 t10)/\PIf (t10=1)
 (PIf ((t9:Bool)=true)
 (next_ (IntKind.wrap .i64 (t4+1)) h_7)
 (R (.tuple #[.slice none 0 0,.int .i64 t4,.int .i64 134]) h_7))
 (PIf ((t9:Bool)=false)
 (next_ (IntKind.wrap .i64 (t4+1)) h_7)
 (R (.tuple #[.slice none 0 0,.int .i64 t4,.int .i64 134]) h_7)))
 (next_ (IntKind.wrap .i64 (t4+1)) h_7)
def J99_4  (R:Value->Heap->Prop) (A12:(Option Addr)) (N12 C12:Nat) (at_1:Int) (h_11:Heap):Prop:=
 PIf ((0:Int)≤at_1)
 (R (.tuple #[.slice none 0 0,.int .i64 at_1,.int .i64 130]) h_11)
 (R (.tuple #[.slice A12 N12 C12,.int .i64 0,.int .i64 0]) h_11)
def J99_5  (R:Value->Heap->Prop) (A12:(Option Addr)) (N12 C12:Nat) (at_ t11:Int) (next_1:(Int×Int->Heap->Prop)) (h_10:Heap):Prop:=
 0≤t11/\t11<(N12:Nat)/\AtP A12 fun ad2=>∃ (t12:Bool),cellH h_10 (Addr.add (Addr.add ad2 (Int.toNat t11*4)) 1)=some (.bool t12)/\BIf (!t12) (J99_4 R A12 N12 C12 (t11) h_10) (next_1 (at_,(IntKind.wrap .i64 (t11+1))) h_10)
def B99_7 (R:Value->Heap->Prop) (A12:(Option Addr)) (N12 C12:Nat) (at_ t11:Int) (h_9:Heap) (next_1:Int×Int->Heap->Prop):Prop:=
 PIf (t11<((N12:Nat):Int))
 (J99_5 R A12 N12 C12 at_ t11 next_1 h_9)
 (J99_4 R A12 N12 C12 (at_) h_9)
def J99_1  (R:Value->Heap->Prop) (A12:(Option Addr)) (N12 C12:Nat) (h_8:Heap):Prop:=
 LoopT (σ:=Int×Int) (fun st_ h_st nx_st=>B99_7 R A12 N12 C12 (st_.1) (st_.2) h_st nx_st) ((-1),0) h_8
def B99_8 (R:Value->Heap->Prop) (h_:Heap) (A12:(Option Addr)) (N12 C12:Nat) (A13:(Option Addr)) (N13:Nat) (t4:Int) (h_4:Heap) (next_:Int->Heap->Prop):Prop:=
 PIf (t4<((N13:Nat):Int))
 (J99_2 R h_ A13 N13 t4 next_ h_4)
 (J99_1 R A12 N12 C12 h_4)
def J99_0  (R:Value->Heap->Prop) (h h_:Heap) (A12:(Option Addr)) (N12 C12:Nat) (h_3:Heap):Prop:=
 ∃ (A13:Option Addr) (N13 C13:Nat),cellH h_3 (Addr.add ⟨h.size,0,none⟩ 2)=some (.slice A13 N13 C13)/\LoopT (σ:=Int) (fun st_ h_st nx_st=>B99_8 R h_ A12 N12 C12 A13 N13 (st_) h_st nx_st) (0) h_3
def VC99 (P:Program) (c:CV) (t:TV) (R:Value->Heap->Prop) (h:Heap):Prop:=
 let h_:Heap:=(h).push (.cells (Value.cells c.v) 29);let h_1:Heap:=(h_).push (.cells (Value.cells t.v) 53);LdC h_1 ⟨h.size,0,none⟩ fun t1=>LdT h_1 ⟨h_.size,0,none⟩ fun t2=>CallsH P 53 #[t1.v,t2.v] h_1 fun v h_2=>
 ∃ (A12:Option Addr) (N12 C12:Nat) (t3:Int),v=(.tuple #[.slice A12 N12 C12,.int .i64 t3])/\PIf (t3=0)
 (J99_0 R h h_ A12 N12 C12 h_2)
 (R (.tuple #[.slice none 0 0,.int .i64 0,.int .i64 t3]) h_2)
theorem run99 (c:CV) (t:TV) (R:Value->Heap->Prop) (h:Heap) (hv:VC99 Try.prog c t R h):CallsH Try.prog 99 #[c.v,t.v] h R:=calls_of_fnC (Checked.mixed Try.checked) Try.func99 comp99 (Nat.le_of_ble_eq_true rfl) (Eq.mp (by kernel_rfl) hv)
def loops53:List (List (Nat×Shp)):=[[(56,.int .i64)],[(11,.slice),(12,.slice),(74,.int .i64)]]
noncomputable def code53:SCode:=((compF Try.prog Try.f53 loops53).elim .skip fun x=>x.2.2)
def ret53:List RV:=[.tmp 4,.tmp 5]
theorem comp53:compF Try.prog Try.f53 loops53=some (94,ret53,code53):=by kernel_rfl
def J53_3  (R:Value->Heap->Prop) (h:Heap) (A13:(Option Addr)) (N13:Nat) (t6:Int) (next_:(Int->Heap->Prop)) (h_6:Heap):Prop:=
 0≤t6/\t6<(N13:Nat)/\AtP A13 fun ad=>∃ (A14:Option Addr) (N14 C14:Nat),cellH h_6 (Addr.add ad (Int.toNat t6*1))=some (.slice A14 N14 C14)/\∃ (A15:Option Addr) (N15 C15:Nat),cellH h_6 (Addr.add ⟨h.size,0,none⟩ 1)=some (.slice A15 N15 C15)/\PIf ((((N14:Nat):Int):Int)=((N15:Nat):Int))
 (next_ (IntKind.wrap .i64 (t6+1)) h_6)
 (R (.tuple #[.slice none 0 0,.int .i64 4]) h_6)
def J53_6  (P:Program) (t2:(Option Addr)) (A17:(Option Addr)) (N17:Nat) (outA:(Option Addr)) (outN outC:Nat) (stateA:(Option Addr)) (stateN stateC:Nat) (t7:Int) (next_1:((Option Addr×Nat×Nat)×(Option Addr×Nat×Nat)×Int->Heap->Prop)) (h_10:Heap):Prop:=
 0≤t7/\t7<(N17:Nat)/\AtP A17 fun ad1=>∃ (A18:Option Addr) (N18 C18:Nat),cellH h_10 (Addr.add ad1 (Int.toNat t7*1))=some (.slice A18 N18 C18)/\CallsH P 70 #[.pointer t2,.slice stateA stateN stateC,.slice A18 N18 C18] h_10 fun v1 h_11=>
 ∃ (A19:Option Addr) (N19 C19:Nat),v1=(.slice A19 N19 C19)/\CallsH P 84 #[.pointer t2,.slice stateA stateN stateC,.slice A19 N19 C19] h_11 fun v2 h_12=>
 ∃ (A20:Option Addr) (N20 C20:Nat) (t8:Bool) (A21:Option Addr) (N21 C21:Nat) (A22:Option Addr) (N22 C22:Nat),v2=(.agg #[.slice A20 N20 C20,.bool t8,.slice A21 N21 C21,.slice A22 N22 C22])/\let h_13:Heap:=(h_12).push (.cells #[.slice A20 N20 C20,.bool t8,.slice A21 N21 C21,.slice A22 N22 C22] 116);∃ ys:List Value,ReadL h_13 (some ⟨h_12.size,0,none⟩) ys/\ys.length=1*4/\AppS h_13 outA outN outC 116 80 4 #[.slice none 0 0,.bool false,.slice none 0 0,.slice none 0 0] ys 1 fun apA apN apC h_14=>CallsH P 43 #[.pointer t2,.slice A19 N19 C19] h_14 fun v3 h_15=>
 ∃ (A23:Option Addr) (N23 C23:Nat),v3=(.slice A23 N23 C23)/\next_1 ((apA,apN,apC),(A23,N23,C23),(IntKind.wrap .i64 (t7+1))) h_15
def J53_5  (R:Value->Heap->Prop) (outA1:Option Addr) (outN1 outC1:Nat) (h_16:Heap):Prop:=
 R (.tuple #[.slice outA1 outN1 outC1,.int .i64 0]) h_16
def B53_8 (P:Program) (R:Value->Heap->Prop) (t2:(Option Addr)) (A17:(Option Addr)) (N17:Nat) (outA:Option Addr) (outN outC:Nat) (stateA:Option Addr) (stateN stateC:Nat) (t7:Int) (h_9:Heap) (next_1:(Option Addr×Nat×Nat)×(Option Addr×Nat×Nat)×Int->Heap->Prop):Prop:=
 PIf (t7<((N17:Nat):Int))
 (J53_6 P t2 A17 N17 outA outN outC stateA stateN stateC t7 next_1 h_9)
 (J53_5 R (outA) (outN) (outC) h_9)
def J53_2  (P:Program) (R:Value->Heap->Prop) (h_:Heap) (t2:(Option Addr)) (N10:Nat) (h_7:Heap):Prop:=
 0≤(0:Int)/\(0:Int)≤((N10:Nat):Int)/\(80:Int)*((N10:Nat):Int)≤281474976710656/\let h_8:Heap:=(h_7).push (.cells (zeroRow #[.slice none 0 0,.bool false,.slice none 0 0,.slice none 0 0] (Int.toNat ((N10:Nat):Int)*4)).toArray 116);∃ (A16:Option Addr) (N16 C16:Nat),cellH h_8 (Addr.add ⟨h_.size,0,none⟩ 0)=some (.slice A16 N16 C16)/\∃ (A17:Option Addr) (N17 C17:Nat),cellH h_8 (Addr.add ⟨h_.size,0,none⟩ 1)=some (.slice A17 N17 C17)/\LoopT (σ:=(Option Addr×Nat×Nat)×(Option Addr×Nat×Nat)×Int) (fun st_ h_st nx_st=>B53_8 P R t2 A17 N17 (st_.1.1) (st_.1.2.1) (st_.1.2.2) (st_.2.1.1) (st_.2.1.2.1) (st_.2.1.2.2) (st_.2.2) h_st nx_st) (((some ⟨h_7.size,0,none⟩),(Int.toNat 0),(Int.toNat ((N10:Nat):Int))),(A16,N16,C16),0) h_8
def B53_9 (P:Program) (R:Value->Heap->Prop) (h h_:Heap) (t2:(Option Addr)) (N10:Nat) (A13:(Option Addr)) (N13:Nat) (t6:Int) (h_5:Heap) (next_:Int->Heap->Prop):Prop:=
 PIf (t6<((N13:Nat):Int))
 (J53_3 R h A13 N13 t6 next_ h_5)
 (J53_2 P R h_ t2 N10 h_5)
def J53_1  (P:Program) (R:Value->Heap->Prop) (h h_:Heap) (t2:(Option Addr)) (N10:Nat) (h_4:Heap):Prop:=
 ∃ (A13:Option Addr) (N13 C13:Nat),cellH h_4 (Addr.add ⟨h_.size,0,none⟩ 1)=some (.slice A13 N13 C13)/\LoopT (σ:=Int) (fun st_ h_st nx_st=>B53_9 P R h h_ t2 N10 A13 N13 (st_) h_st nx_st) (0) h_4
def J53_0  (P:Program) (R:Value->Heap->Prop) (h h_:Heap) (t2:(Option Addr)) (h_3:Heap):Prop:=
 ∃ (A10:Option Addr) (N10 C10:Nat),cellH h_3 (Addr.add ⟨h_.size,0,none⟩ 1)=some (.slice A10 N10 C10)/\PIf ((((N10:Nat):Int):Int)<1)
 (R (.tuple #[.slice none 0 0,.int .i64 4]) h_3)
 (PIf ((512:Int)<((N10:Nat):Int))
 (R (.tuple #[.slice none 0 0,.int .i64 4]) h_3)
 (∃ (t4:Int),cellH h_3 (Addr.add ⟨h_.size,0,none⟩ 2)=some (.int .i64 t4)/\PIf (t4<(-1))
 (R (.tuple #[.slice none 0 0,.int .i64 4]) h_3)
 (∃ (t5:Int),cellH h_3 (Addr.add ⟨h_.size,0,none⟩ 2)=some (.int .i64 t5)/\PIf ((((N10:Nat):Int):Int)≤t5)
 (R (.tuple #[.slice none 0 0,.int .i64 4]) h_3)
 (∃ (A11:Option Addr) (N11 C11:Nat),cellH h_3 (Addr.add ⟨h_.size,0,none⟩ 0)=some (.slice A11 N11 C11)/\∃ (A12:Option Addr) (N12 C12:Nat),cellH h_3 (Addr.add ⟨h.size,0,none⟩ 2)=some (.slice A12 N12 C12)/\PIf ((((N11:Nat):Int):Int)=((N12:Nat):Int))
 (J53_1 P R h h_ t2 N10 h_3)
 (R (.tuple #[.slice none 0 0,.int .i64 4]) h_3)))))
def VC53 (P:Program) (c:CV) (t:TV) (R:Value->Heap->Prop) (h:Heap):Prop:=
 let h_:Heap:=(h).push (.cells (Value.cells c.v) 29);let h_1:Heap:=(h_).push (.cells (Value.cells t.v) 53);LdC h_1 ⟨h.size,0,none⟩ fun t1=>CallsH P 69 #[t1.v] h_1 fun v h_2=>
 ∃ (t2:Option Addr) (t3:Int),v=(.tuple #[.pointer t2,.int .i64 t3])/\PIf (t3=0)
 (J53_0 P R h h_ t2 h_2)
 (R (.tuple #[.slice none 0 0,.int .i64 t3]) h_2)
theorem run53 (c:CV) (t:TV) (R:Value->Heap->Prop) (h:Heap) (hv:VC53 Try.prog c t R h):CallsH Try.prog 53 #[c.v,t.v] h R:=calls_of_fnC (Checked.mixed Try.checked) Try.func53 comp53 (Nat.le_of_ble_eq_true rfl) (Eq.mp (by kernel_rfl) hv)
def loops19:List (List (Nat×Shp)):=[]
noncomputable def code19:SCode:=((compF Try.prog Try.f19 loops19).elim .skip fun x=>x.2.2)
def ret19:List RV:=[.tmp 6,.tmp 7]
theorem comp19:compF Try.prog Try.f19 loops19=some (25,ret19,code19):=by kernel_rfl
def VC19 (P:Program) (c:CV) (stateA:Option Addr) (stateN stateC:Nat) (rowA:Option Addr) (rowN rowC:Nat) (R:Value->Heap->Prop) (h:Heap):Prop:=
 let h_:Heap:=(h).push (.cells (Value.cells c.v) 29);LdC h_ ⟨h.size,0,none⟩ fun t=>CallsH P 41 #[t.v,.slice stateA stateN stateC,.slice rowA rowN rowC] h_ fun v h_1=>
 ∃ (t1 A10:Option Addr) (N10 C10:Nat) (t2:Int),v=(.tuple #[.pointer t1,.slice A10 N10 C10,.int .i64 t2])/\PIf (t2=0)
 (CallsH P 43 #[.pointer t1,.slice A10 N10 C10] h_1 fun v1 h_2=>
 ∃ (A11:Option Addr) (N11 C11:Nat),v1=(.slice A11 N11 C11)/\R (.tuple #[.slice A11 N11 C11,.int .i64 0]) h_2)
 (R (.tuple #[.slice none 0 0,.int .i64 t2]) h_1)
theorem run19 (c:CV) (stateA:Option Addr) (stateN stateC:Nat) (rowA:Option Addr) (rowN rowC:Nat) (R:Value->Heap->Prop) (h:Heap) (hv:VC19 Try.prog c stateA stateN stateC rowA rowN rowC R h):CallsH Try.prog 19 #[c.v,.slice stateA stateN stateC,.slice rowA rowN rowC] h R:=calls_of_fnC (Checked.mixed Try.checked) Try.func19 comp19 (Nat.le_of_ble_eq_true rfl) (Eq.mp (by kernel_rfl) hv)
def loops59:List (List (Nat×Shp)):=[]
noncomputable def code59:SCode:=((compF Try.prog Try.f59 loops59).elim .skip fun x=>x.2.2)
def ret59:List RV:=[.tmp 6,.tmp 7]
theorem comp59:compF Try.prog Try.f59 loops59=some (21,ret59,code59):=by kernel_rfl
def VC59 (P:Program) (c:CV) (stateA:Option Addr) (stateN stateC:Nat) (rowA:Option Addr) (rowN rowC:Nat) (R:Value->Heap->Prop) (h:Heap):Prop:=
 let h_:Heap:=(h).push (.cells (Value.cells c.v) 29);LdC h_ ⟨h.size,0,none⟩ fun t=>CallsH P 41 #[t.v,.slice stateA stateN stateC,.slice rowA rowN rowC] h_ fun v h_1=>
 ∃ (t1 A10:Option Addr) (N10 C10:Nat) (t2:Int),v=(.tuple #[.pointer t1,.slice A10 N10 C10,.int .i64 t2])/\R (.tuple #[.slice A10 N10 C10,.int .i64 t2]) h_1
theorem run59 (c:CV) (stateA:Option Addr) (stateN stateC:Nat) (rowA:Option Addr) (rowN rowC:Nat) (R:Value->Heap->Prop) (h:Heap) (hv:VC59 Try.prog c stateA stateN stateC rowA rowN rowC R h):CallsH Try.prog 59 #[c.v,.slice stateA stateN stateC,.slice rowA rowN rowC] h R:=calls_of_fnC (Checked.mixed Try.checked) Try.func59 comp59 (Nat.le_of_ble_eq_true rfl) (Eq.mp (by kernel_rfl) hv)
def loops98:List (List (Nat×Shp)):=[]
noncomputable def code98:SCode:=((compF Try.prog Try.f98 loops98).elim .skip fun x=>x.2.2)
def ret98:List RV:=[.tmp 3]
theorem comp98:compF Try.prog Try.f98 loops98=some (13,ret98,code98):=by kernel_rfl
def VC98 (P:Program) (l:Int) (t:Option Addr) (R:Value->Heap->Prop) (h:Heap):Prop:=
 AtP t fun ad=>∃ (A:Option Addr) (N C:Nat),cellH h ad=some (.slice A N C)/\0≤((l / ((2 ^ 1:Nat):Int)):Int)/\((l / ((2 ^ 1:Nat):Int)):Int)<(N:Nat)/\AtP A fun ad1=>∃ (t1:Bool),cellH h (Addr.add ad1 (Int.toNat (l / ((2 ^ 1:Nat):Int))*1))=some (.bool t1)/\PIf (((bop .and .i64 l 1):Int)=1)
 (PIf ((t1:Bool)=true)
 (R (.bool false) h)
 (R (.bool true) h))
 (PIf ((t1:Bool)=false)
 (R (.bool false) h)
 (R (.bool true) h))
theorem run98 (l:Int) (t:Option Addr) (R:Value->Heap->Prop) (h:Heap) (hv:VC98 Try.prog l t R h):CallsH Try.prog 98 #[.int .i64 l,.pointer t] h R:=calls_of_fnC (Checked.mixed Try.checked) Try.func98 comp98 (Nat.le_of_ble_eq_true rfl) (Eq.mp (by kernel_rfl) hv)
def loops72:List (List (Nat×Shp)):=[]
noncomputable def code72:SCode:=((compF Try.prog Try.f72 loops72).elim .skip fun x=>x.2.2)
def ret72:List RV:=[.tmp 4]
theorem comp72:compF Try.prog Try.f72 loops72=some (14,ret72,code72):=by kernel_rfl
def VC72 (P:Program) (vA:Option Addr) (vN vC:Nat) (l:Int) (R:Value->Heap->Prop) (h:Heap):Prop:=
 0≤((l / ((2 ^ 1:Nat):Int)):Int)/\((l / ((2 ^ 1:Nat):Int)):Int)<(vN:Nat)/\AtP vA fun ad=>∃ (t:Bool),cellH h (Addr.add ad (Int.toNat (l / ((2 ^ 1:Nat):Int))*1))=some (.bool t)/\PIf (((bop .and .i64 l 1):Int)=1)
 (PIf ((t:Bool)=true)
 (R (.bool false) h)
 (R (.bool true) h))
 (PIf ((t:Bool)=false)
 (R (.bool false) h)
 (R (.bool true) h))
theorem run72 (vA:Option Addr) (vN vC:Nat) (l:Int) (R:Value->Heap->Prop) (h:Heap) (hv:VC72 Try.prog vA vN vC l R h):CallsH Try.prog 72 #[.slice vA vN vC,.int .i64 l] h R:=calls_of_fnC (Checked.mixed Try.checked) Try.func72 comp72 (Nat.le_of_ble_eq_true rfl) (Eq.mp (by kernel_rfl) hv)
def loops115:List (List (Nat×Shp)):=[[(10,.int .i64)]]
noncomputable def code115:SCode:=((compF Try.prog Try.f115 loops115).elim .skip fun x=>x.2.2)
def ret115:List RV:=[]
theorem comp115:compF Try.prog Try.f115 loops115=some (27,ret115,code115):=by kernel_rfl
def J115_0  (P:Program) (at_:Int) (lA:(Option Addr)) (lN:Nat) (t:(Option Addr)) (t1:(Option Addr)) (t2:Int) (next_:(Int->Heap->Prop)) (h_1:Heap):Prop:=
 0≤t2/\t2<(lN:Nat)/\AtP lA fun ad=>∃ (t3:Int),cellH h_1 (Addr.add ad (Int.toNat t2*1))=some (.int .i64 t3)/\AtP t fun ad1=>∃ (A:Option Addr) (N C:Nat),cellH h_1 ad1=some (.slice A N C)/\CallsH P 72 #[.slice A N C,.int .i64 t3] h_1 fun v h_2=>
 ∃ (t4:Bool),v=(.bool t4)/\BIf t4 (AtP t1 fun ad2=>∃ (A1:Option Addr) (N1 C1:Nat),cellH h_2 (Addr.add ad2 3)=some (.slice A1 N1 C1)/\let h_3:Heap:=(h_2).push (.cells #[.int .i64 at_,.int .i64 t2] 177);∃ ys:List Value,ReadL h_3 (some ⟨h_2.size,0,none⟩) ys/\ys.length=1*2/\AppS h_3 A1 N1 C1 177 16 2 #[.int .i64 0,.int .i64 0] ys 1 fun apA apN apC h_4=>AtP t1 fun ad3=>StoreH h_4 (Addr.add ad3 3) [.slice apA apN apC] fun h_5=>next_ (IntKind.wrap .i64 (t2+1)) h_5) (next_ (IntKind.wrap .i64 (t2+1)) h_2)
def B115_2 (P:Program) (R:Value->Heap->Prop) (at_:Int) (lA:(Option Addr)) (lN:Nat) (t:(Option Addr)) (t1:(Option Addr)) (t2:Int) (h_:Heap) (next_:Int->Heap->Prop):Prop:=
 PIf (t2<((lN:Nat):Int))
 (J115_0 P at_ lA lN t t1 t2 next_ h_)
 (R (.tuple #[]) h_)
def VC115 (P:Program) (at_:Int) (lA:Option Addr) (lN lC:Nat) (t t1:Option Addr) (R:Value->Heap->Prop) (h:Heap):Prop:=
 LoopT (σ:=Int) (fun st_ h_st nx_st=>B115_2 P R at_ lA lN t t1 (st_) h_st nx_st) (0) h
theorem run115 (at_:Int) (lA:Option Addr) (lN lC:Nat) (t t1:Option Addr) (R:Value->Heap->Prop) (h:Heap) (hv:VC115 Try.prog at_ lA lN lC t t1 R h):CallsH Try.prog 115 #[.int .i64 at_,.slice lA lN lC,.pointer t,.pointer t1] h R:=calls_of_fnC (Checked.mixed Try.checked) Try.func115 comp115 (Nat.le_of_ble_eq_true rfl) (Eq.mp (by kernel_rfl) hv)
def loops71:List (List (Nat×Shp)):=[]
noncomputable def code71:SCode:=((compF Try.prog Try.f71 loops71).elim .skip fun x=>x.2.2)
def ret71:List RV:=[.tmp 3]
theorem comp71:compF Try.prog Try.f71 loops71=some (8,ret71,code71):=by kernel_rfl
def VC71 (P:Program) (l:Int) (t:Option Addr) (R:Value->Heap->Prop) (h:Heap):Prop:=
 AtP t fun ad=>∃ (A:Option Addr) (N C:Nat),cellH h ad=some (.slice A N C)/\CallsH P 72 #[.slice A N C,.int .i64 l] h fun v h_=>
 ∃ (t1:Bool),v=(.bool t1)/\R (.bool (!t1)) h_
theorem run71 (l:Int) (t:Option Addr) (R:Value->Heap->Prop) (h:Heap) (hv:VC71 Try.prog l t R h):CallsH Try.prog 71 #[.int .i64 l,.pointer t] h R:=calls_of_fnC (Checked.mixed Try.checked) Try.func71 comp71 (Nat.le_of_ble_eq_true rfl) (Eq.mp (by kernel_rfl) hv)
end Go.Proofs.Ytdpbdjdgdmheiaa
