/- Words and facts that the claim's proof leans on. No condition. -/
import Derived.Test.YtdpbdjdgdmheiaaGreatHxV
import Derived.Test.YtdpbdjdgdmheiaaGreatChecked
set_option maxRecDepth 100000
set_option linter.unusedVariables false
namespace Go.Proofs.YtdpbdjdgdmheiaaGreat
open Go.Hx
def loops123:List (List (Nat×Shp)):=[]
noncomputable def code123:SCode:=((compF Tryz.prog Tryz.f123 loops123).elim .skip fun x=>x.2.2)
def ret123:List RV:=[.tmp 2,.tmp 3]
theorem comp123:compF Tryz.prog Tryz.f123 loops123=some (18,ret123,code123):=by kernel_rfl
def VC123 (P:Program) (c:CV) (R:Value->Heap->Prop) (h:Heap):Prop:=
 let h_:Heap:=(h).push (.cells (Value.cells c.v) 29);LdC h_ ⟨h.size,0,none⟩ fun t=>CallsH P 161 #[t.v] h_ fun v h_1=>
 ∃ (A10:Option Addr) (N10 C10:Nat) (t1:Int),v=(.tuple #[.slice A10 N10 C10,.int .i64 t1])/\PIf (t1=0)
 (LdC h_1 ⟨h.size,0,none⟩ fun t2=>let h_2:Heap:=(h_1).push (.cells (Value.cells (.agg #[.int .i64 t2.mx,.slice t2.i.a t2.i.n t2.i.c,.slice t2.l.a t2.l.n t2.l.c,.slice t2.o.a t2.o.n t2.o.c,.slice t2.b.a t2.b.n t2.b.c,.slice t2.c.a t2.c.n t2.c.c,.slice t2.j.a t2.j.n t2.j.c,.slice t2.f.a t2.f.n t2.f.c,.slice t2.g.a t2.g.n t2.g.c,.slice t2.s.a t2.s.n t2.s.c,.slice t2.m.a t2.m.n t2.m.c,.slice A10 N10 C10])) 213);R (.tuple #[(.pointer (some ⟨h_1.size,0,none⟩)),.int .i64 0]) h_2)
 (R (.tuple #[.pointer none,.int .i64 t1]) h_1)
theorem run123 (c:CV) (R:Value->Heap->Prop) (h:Heap) (hv:VC123 Tryz.prog c R h):CallsH Tryz.prog 123 #[c.v] h R:=calls_of_fnC (Checked.mixed Tryz.checked) Tryz.func123 comp123 (Nat.le_of_ble_eq_true rfl) (Eq.mp (by kernel_rfl) hv)
def loops124:List (List (Nat×Shp)):=[[(27,.int .i64)],[(52,.int .i64)],[(78,.int .i64)]]
noncomputable def code124:SCode:=((compF Tryz.prog Tryz.f124 loops124).elim .skip fun x=>x.2.2)
def ret124:List RV:=[.tmp 6]
theorem comp124:compF Tryz.prog Tryz.f124 loops124=some (107,ret124,code124):=by kernel_rfl
def J124_1  (r:(Option Addr)) (rowA:(Option Addr)) (rowN:Nat) (h_:Heap) (t1:Int) (next_:(Int->Heap->Prop)) (h_4:Heap):Prop:=
 ∃ (A1:Option Addr) (N1 C1:Nat),cellH h_4 ⟨h_.size,0,none⟩=some (.slice A1 N1 C1)/\AtP r fun ad2=>∃ (A2:Option Addr) (N2 C2:Nat),cellH h_4 (Addr.add (Addr.add ad2 0) 1)=some (.slice A2 N2 C2)/\0≤t1/\t1<(N2:Nat)/\AtP A2 fun ad3=>∃ (t2:Int),cellH h_4 (Addr.add ad3 (Int.toNat t1*1))=some (.int .i64 t2)/\0≤t1/\t1<(rowN:Nat)/\AtP rowA fun ad4=>∃ (t3:Bool),cellH h_4 (Addr.add ad4 (Int.toNat t1*1))=some (.bool t3)/\0≤((t2 / ((2 ^ 1:Nat):Int)):Int)/\((t2 / ((2 ^ 1:Nat):Int)):Int)<(N1:Nat)/\AtP A1 fun ad5=>StoreH h_4 (Addr.add ad5 (Int.toNat (t2 / ((2 ^ 1:Nat):Int))*1)) [.bool t3] fun h_5=>next_ (IntKind.wrap .i64 (t1+1)) h_5
def J124_4  (r:(Option Addr)) (stateA:(Option Addr)) (stateN:Nat) (h_:Heap) (t4:Int) (next_1:(Int->Heap->Prop)) (h_8:Heap):Prop:=
 ∃ (A4:Option Addr) (N4 C4:Nat),cellH h_8 ⟨h_.size,0,none⟩=some (.slice A4 N4 C4)/\AtP r fun ad7=>∃ (A5:Option Addr) (N5 C5:Nat),cellH h_8 (Addr.add (Addr.add ad7 0) 2)=some (.slice A5 N5 C5)/\0≤t4/\t4<(N5:Nat)/\AtP A5 fun ad8=>∃ (t5:Int),cellH h_8 (Addr.add (Addr.add ad8 (Int.toNat t4*3)) 0)=some (.int .i64 t5)/\0≤t4/\t4<(stateN:Nat)/\AtP stateA fun ad9=>∃ (t6:Bool),cellH h_8 (Addr.add ad9 (Int.toNat t4*1))=some (.bool t6)/\0≤((t5 / ((2 ^ 1:Nat):Int)):Int)/\((t5 / ((2 ^ 1:Nat):Int)):Int)<(N4:Nat)/\AtP A4 fun ad10=>StoreH h_8 (Addr.add ad10 (Int.toNat (t5 / ((2 ^ 1:Nat):Int))*1)) [.bool t6] fun h_9=>next_1 (IntKind.wrap .i64 (t4+1)) h_9
def J124_7  (P:Program) (r:(Option Addr)) (h_:Heap) (A6:(Option Addr)) (N6:Nat) (t7:Int) (next_2:(Int->Heap->Prop)) (h_12:Heap):Prop:=
 0≤t7/\t7<(N6:Nat)/\AtP A6 fun ad12=>∃ (t8:Int),cellH h_12 (Addr.add ad12 (Int.toNat t7*1))=some (.int .i64 t8)/\AtP r fun ad13=>∃ (A7:Option Addr) (N7 C7:Nat),cellH h_12 (Addr.add (Addr.add ad13 0) 8)=some (.slice A7 N7 C7)/\0≤t8/\t8<(N7:Nat)/\AtP A7 fun ad14=>∃ (t9 t10 t11:Int),cellsH h_12 (Addr.add ad14 (Int.toNat t8*3)) 0 [.int .i64 t9,.int .i64 t10,.int .i64 t11]/\let h_13:Heap:=(h_12).push (.cells #[.int .i64 0,.int .i64 0,.int .i64 0] 67);StoreH h_13 ⟨h_12.size,0,none⟩ [.int .i64 t9,.int .i64 t10,.int .i64 t11] fun h_14=>(Addr.block ⟨h_.size,0,none⟩)<(h_14).size/\∃ (A8:Option Addr) (N8 C8:Nat),cellH h_14 ⟨h_.size,0,none⟩=some (.slice A8 N8 C8)/\(Addr.block (Addr.add ⟨h_12.size,0,none⟩ 0))<(h_14).size/\∃ (t12:Int),cellH h_14 (Addr.add ⟨h_12.size,0,none⟩ 0)=some (.int .i64 t12)/\(Addr.block (Addr.add ⟨h_12.size,0,none⟩ 1))<(h_14).size/\∃ (t13:Int),cellH h_14 (Addr.add ⟨h_12.size,0,none⟩ 1)=some (.int .i64 t13)/\callOkP P 162/\CallsH P 162 #[.int .i64 t13,(.pointer (some ⟨h_.size,0,none⟩))] h_14 fun v h_15=>
 ∃ (t14:Bool),v=(.bool t14)/\AgreeH (h_14).size h_14 h_15/\BIf t14 ((Addr.block (Addr.add ⟨h_12.size,0,none⟩ 2))<(h_14).size/\∃ (t15:Int),cellH h_15 (Addr.add ⟨h_12.size,0,none⟩ 2)=some (.int .i64 t15)/\callOkP P 162/\CallsH P 162 #[.int .i64 t15,(.pointer (some ⟨h_.size,0,none⟩))] h_15 fun v1 h_16=>
 ∃ (t16:Bool),v1=(.bool t16)/\AgreeH (h_14).size h_15 h_16/\0≤((t12 / ((2 ^ 1:Nat):Int)):Int)/\((t12 / ((2 ^ 1:Nat):Int)):Int)<(N8:Nat)/\AtP A8 fun ad15=>StoreH h_16 (Addr.add ad15 (Int.toNat (t12 / ((2 ^ 1:Nat):Int))*1)) [.bool t16] fun h_17=>next_2 (IntKind.wrap .i64 (t7+1)) h_17) (0≤((t12 / ((2 ^ 1:Nat):Int)):Int)/\((t12 / ((2 ^ 1:Nat):Int)):Int)<(N8:Nat)/\AtP A8 fun ad16=>StoreH h_15 (Addr.add ad16 (Int.toNat (t12 / ((2 ^ 1:Nat):Int))*1)) [.bool false] fun h_18=>next_2 (IntKind.wrap .i64 (t7+1)) h_18)
def J124_6  (R:Value->Heap->Prop) (h_ h_19:Heap):Prop:=
 ∃ (A9:Option Addr) (N9 C9:Nat),cellH h_19 ⟨h_.size,0,none⟩=some (.slice A9 N9 C9)/\R (.slice A9 N9 C9) h_19
def B124_9 (P:Program) (R:Value->Heap->Prop) (r:(Option Addr)) (h_:Heap) (A6:(Option Addr)) (N6:Nat) (t7:Int) (h_11:Heap) (next_2:Int->Heap->Prop):Prop:=
 PIf (t7<((N6:Nat):Int))
 (J124_7 P r h_ A6 N6 t7 next_2 h_11)
 (J124_6 R h_ h_11)
def J124_3  (P:Program) (R:Value->Heap->Prop) (r:(Option Addr)) (h_ h_10:Heap):Prop:=
 AtP r fun ad11=>∃ (A6:Option Addr) (N6 C6:Nat),cellH h_10 (Addr.add ad11 11)=some (.slice A6 N6 C6)/\LoopT (σ:=Int) (fun st_ h_st nx_st=>B124_9 P R r h_ A6 N6 (st_) h_st nx_st) (0) h_10
def B124_10 (P:Program) (R:Value->Heap->Prop) (r:(Option Addr)) (stateA:(Option Addr)) (stateN:Nat) (h_:Heap) (N3:Nat) (t4:Int) (h_7:Heap) (next_1:Int->Heap->Prop):Prop:=
 PIf (t4<((N3:Nat):Int))
 (J124_4 r stateA stateN h_ t4 next_1 h_7)
 (J124_3 P R r h_ h_7)
def J124_0  (P:Program) (R:Value->Heap->Prop) (r:(Option Addr)) (stateA:(Option Addr)) (stateN:Nat) (h_ h_6:Heap):Prop:=
 AtP r fun ad6=>∃ (A3:Option Addr) (N3 C3:Nat),cellH h_6 (Addr.add (Addr.add ad6 0) 2)=some (.slice A3 N3 C3)/\LoopT (σ:=Int) (fun st_ h_st nx_st=>B124_10 P R r stateA stateN h_ N3 (st_) h_st nx_st) (0) h_6
def B124_11 (P:Program) (R:Value->Heap->Prop) (r:(Option Addr)) (stateA:(Option Addr)) (stateN:Nat) (rowA:(Option Addr)) (rowN:Nat) (h_:Heap) (N:Nat) (t1:Int) (h_3:Heap) (next_:Int->Heap->Prop):Prop:=
 PIf (t1<((N:Nat):Int))
 (J124_1 r rowA rowN h_ t1 next_ h_3)
 (J124_0 P R r stateA stateN h_ h_3)
def VC124 (P:Program) (r stateA:Option Addr) (stateN stateC:Nat) (rowA:Option Addr) (rowN rowC:Nat) (R:Value->Heap->Prop) (h:Heap):Prop:=
 AtP r fun ad=>∃ (t:Int),cellH h (Addr.add (Addr.add ad 0) 0)=some (.int .i64 t)/\0≤((IntKind.wrap .i64 (t+1)):Int)/\((IntKind.wrap .i64 (t+1)):Int)≤(IntKind.wrap .i64 (t+1))/\(1:Int)*(IntKind.wrap .i64 (t+1))≤281474976710656/\let h_:Heap:=(h).push (.cells (zeroRow #[.bool false] (Int.toNat (IntKind.wrap .i64 (t+1))*1)).toArray 4);let h_1:Heap:=(h_).push (.cells #[.slice none 0 0] 46);StoreH h_1 ⟨h_.size,0,none⟩ [(.slice (some ⟨h.size,0,none⟩) (Int.toNat (IntKind.wrap .i64 (t+1))) (Int.toNat (IntKind.wrap .i64 (t+1))))] fun h_2=>AtP r fun ad1=>∃ (A:Option Addr) (N C:Nat),cellH h_2 (Addr.add (Addr.add ad1 0) 1)=some (.slice A N C)/\LoopT (σ:=Int) (fun st_ h_st nx_st=>B124_11 P R r stateA stateN rowA rowN h_ N (st_) h_st nx_st) (0) h_2
theorem run124 (r stateA:Option Addr) (stateN stateC:Nat) (rowA:Option Addr) (rowN rowC:Nat) (R:Value->Heap->Prop) (h:Heap) (hv:VC124 Tryz.prog r stateA stateN stateC rowA rowN rowC R h):CallsH Tryz.prog 124 #[.pointer r,.slice stateA stateN stateC,.slice rowA rowN rowC] h R:=calls_of_fnC (Checked.mixed Tryz.checked) Tryz.func124 comp124 (Nat.le_of_ble_eq_true rfl) (Eq.mp (by kernel_rfl) hv)
def loops129:List (List (Nat×Shp)):=[]
noncomputable def code129:SCode:=((compF Tryz.prog Tryz.f129 loops129).elim .skip fun x=>x.2.2)
def ret129:List RV:=[.tmp 6,.tmp 7,.tmp 8]
theorem comp129:compF Tryz.prog Tryz.f129 loops129=some (38,ret129,code129):=by kernel_rfl
def J129_0  (P:Program) (R:Value->Heap->Prop) (h:Heap) (stateA:(Option Addr)) (stateN stateC:Nat) (rowA:(Option Addr)) (rowN rowC:Nat) (t1:(Option Addr)) (h_2:Heap):Prop:=
 ∃ (A10:Option Addr) (N10 C10:Nat),cellH h_2 (Addr.add ⟨h.size,0,none⟩ 2)=some (.slice A10 N10 C10)/\PIf ((((stateN:Nat):Int):Int)=((N10:Nat):Int))
 (∃ (A11:Option Addr) (N11 C11:Nat),cellH h_2 (Addr.add ⟨h.size,0,none⟩ 1)=some (.slice A11 N11 C11)/\PIf ((((rowN:Nat):Int):Int)=((N11:Nat):Int))
 (CallsH P 124 #[.pointer t1,.slice stateA stateN stateC,.slice rowA rowN rowC] h_2 fun v1 h_3=>
 ∃ (A12:Option Addr) (N12 C12:Nat),v1=(.slice A12 N12 C12)/\R (.tuple #[.pointer t1,.slice A12 N12 C12,.int .i64 0]) h_3)
 (R (.tuple #[.pointer none,.slice none 0 0,.int .i64 4]) h_2))
 (R (.tuple #[.pointer none,.slice none 0 0,.int .i64 4]) h_2)
def VC129 (P:Program) (c:CV) (stateA:Option Addr) (stateN stateC:Nat) (rowA:Option Addr) (rowN rowC:Nat) (R:Value->Heap->Prop) (h:Heap):Prop:=
 let h_:Heap:=(h).push (.cells (Value.cells c.v) 29);LdC h_ ⟨h.size,0,none⟩ fun t=>CallsH P 123 #[t.v] h_ fun v h_1=>
 ∃ (t1:Option Addr) (t2:Int),v=(.tuple #[.pointer t1,.int .i64 t2])/\PIf (t2=0)
 (J129_0 P R h stateA stateN stateC rowA rowN rowC t1 h_1)
 (R (.tuple #[.pointer none,.slice none 0 0,.int .i64 t2]) h_1)
theorem run129 (c:CV) (stateA:Option Addr) (stateN stateC:Nat) (rowA:Option Addr) (rowN rowC:Nat) (R:Value->Heap->Prop) (h:Heap) (hv:VC129 Tryz.prog c stateA stateN stateC rowA rowN rowC R h):CallsH Tryz.prog 129 #[c.v,.slice stateA stateN stateC,.slice rowA rowN rowC] h R:=calls_of_fnC (Checked.mixed Tryz.checked) Tryz.func129 comp129 (Nat.le_of_ble_eq_true rfl) (Eq.mp (by kernel_rfl) hv)
def loops89:List (List (Nat×Shp)):=[]
noncomputable def code89:SCode:=((compF Tryz.prog Tryz.f89 loops89).elim .skip fun x=>x.2.2)
def ret89:List RV:=[.tmp 6,.tmp 7]
theorem comp89:compF Tryz.prog Tryz.f89 loops89=some (21,ret89,code89):=by kernel_rfl
def VC89 (P:Program) (c:CV) (stateA:Option Addr) (stateN stateC:Nat) (rowA:Option Addr) (rowN rowC:Nat) (R:Value->Heap->Prop) (h:Heap):Prop:=
 let h_:Heap:=(h).push (.cells (Value.cells c.v) 29);LdC h_ ⟨h.size,0,none⟩ fun t=>CallsH P 129 #[t.v,.slice stateA stateN stateC,.slice rowA rowN rowC] h_ fun v h_1=>
 ∃ (t1 A10:Option Addr) (N10 C10:Nat) (t2:Int),v=(.tuple #[.pointer t1,.slice A10 N10 C10,.int .i64 t2])/\R (.tuple #[.slice A10 N10 C10,.int .i64 t2]) h_1
theorem run89 (c:CV) (stateA:Option Addr) (stateN stateC:Nat) (rowA:Option Addr) (rowN rowC:Nat) (R:Value->Heap->Prop) (h:Heap) (hv:VC89 Tryz.prog c stateA stateN stateC rowA rowN rowC R h):CallsH Tryz.prog 89 #[c.v,.slice stateA stateN stateC,.slice rowA rowN rowC] h R:=calls_of_fnC (Checked.mixed Tryz.checked) Tryz.func89 comp89 (Nat.le_of_ble_eq_true rfl) (Eq.mp (by kernel_rfl) hv)
def loops162:List (List (Nat×Shp)):=[]
noncomputable def code162:SCode:=((compF Tryz.prog Tryz.f162 loops162).elim .skip fun x=>x.2.2)
def ret162:List RV:=[.tmp 3]
theorem comp162:compF Tryz.prog Tryz.f162 loops162=some (13,ret162,code162):=by kernel_rfl
def VC162 (P:Program) (l:Int) (t:Option Addr) (R:Value->Heap->Prop) (h:Heap):Prop:=
 AtP t fun ad=>∃ (A:Option Addr) (N C:Nat),cellH h ad=some (.slice A N C)/\0≤((l / ((2 ^ 1:Nat):Int)):Int)/\((l / ((2 ^ 1:Nat):Int)):Int)<(N:Nat)/\AtP A fun ad1=>∃ (t1:Bool),cellH h (Addr.add ad1 (Int.toNat (l / ((2 ^ 1:Nat):Int))*1))=some (.bool t1)/\PIf (((bop .and .i64 l 1):Int)=1)
 (PIf ((t1:Bool)=true)
 (R (.bool false) h)
 (R (.bool true) h))
 (PIf ((t1:Bool)=false)
 (R (.bool false) h)
 (R (.bool true) h))
theorem run162 (l:Int) (t:Option Addr) (R:Value->Heap->Prop) (h:Heap) (hv:VC162 Tryz.prog l t R h):CallsH Tryz.prog 162 #[.int .i64 l,.pointer t] h R:=calls_of_fnC (Checked.mixed Tryz.checked) Tryz.func162 comp162 (Nat.le_of_ble_eq_true rfl) (Eq.mp (by kernel_rfl) hv)
end Go.Proofs.YtdpbdjdgdmheiaaGreat
