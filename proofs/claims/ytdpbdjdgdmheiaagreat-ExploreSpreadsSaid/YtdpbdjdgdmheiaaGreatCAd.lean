/- Words and facts that the claim's proof leans on. No condition. -/
import Derived.Test.YtdpbdjdgdmheiaaGreatHxV
import Derived.Test.YtdpbdjdgdmheiaaGreatChecked
set_option maxRecDepth 100000
set_option linter.unusedVariables false
namespace Go.Proofs.YtdpbdjdgdmheiaaGreat
open Go.Hx
def loops23:List (List (Nat×Shp)):=[[(5,.int .i64)]]
noncomputable def code23:SCode:=((compF Tryz.prog Tryz.f23 loops23).elim .skip fun x=>x.2.2)
def ret23:List RV:=[.tmp 4]
theorem comp23:compF Tryz.prog Tryz.f23 loops23=some (47,ret23,code23):=by kernel_rfl
def J23_2  (P:Program) (R:Value->Heap->Prop) (h h_:Heap) (i:Int) (next_:(Int->Heap->Prop)) (h_5:Heap):Prop:=
 ∃ (A5:Option Addr) (N5 C5:Nat),cellH h_5 (Addr.add ⟨h.size,0,none⟩ 1)=some (.slice A5 N5 C5)/\0≤i/\i<(N5:Nat)/\AtP A5 fun ad=>∃ (A6:Option Addr) (N6 C6:Nat),cellH h_5 (Addr.add ad (Int.toNat i*1))=some (.slice A6 N6 C6)/\∃ (A7:Option Addr) (N7 C7:Nat),cellH h_5 (Addr.add ⟨h_.size,0,none⟩ 1)=some (.slice A7 N7 C7)/\0≤i/\i<(N7:Nat)/\AtP A7 fun ad1=>∃ (A8:Option Addr) (N8 C8:Nat),cellH h_5 (Addr.add ad1 (Int.toNat i*1))=some (.slice A8 N8 C8)/\CallsH P 59 #[.slice A6 N6 C6,.slice A8 N8 C8] h_5 fun v1 h_6=>
 ∃ (t3:Bool),v1=(.bool t3)/\BIf (!t3) (R (.bool false) h_6) (next_ (IntKind.wrap .i64 (i+1)) h_6)
def J23_1  (R:Value->Heap->Prop) (h_7:Heap):Prop:=
 R (.bool true) h_7
def B23_3 (P:Program) (R:Value->Heap->Prop) (h h_:Heap) (i:Int) (h_4:Heap) (next_:Int->Heap->Prop):Prop:=
 ∃ (A4:Option Addr) (N4 C4:Nat),cellH h_4 (Addr.add ⟨h.size,0,none⟩ 1)=some (.slice A4 N4 C4)/\PIf (i<((N4:Nat):Int))
 (J23_2 P R h h_ i next_ h_4)
 (J23_1 R h_4)
def J23_0  (P:Program) (R:Value->Heap->Prop) (h h_ h_3:Heap):Prop:=
 LoopT (σ:=Int) (fun st_ h_st nx_st=>B23_3 P R h h_ (st_) h_st nx_st) (0) h_3
def VC23 (P:Program) (a b:TV) (R:Value->Heap->Prop) (h:Heap):Prop:=
 let h_:Heap:=(h).push (.cells (Value.cells a.v) 49);let h_1:Heap:=(h_).push (.cells (Value.cells b.v) 49);∃ (t:Int),cellH h_1 (Addr.add ⟨h.size,0,none⟩ 2)=some (.int .i64 t)/\∃ (t1:Int),cellH h_1 (Addr.add ⟨h_.size,0,none⟩ 2)=some (.int .i64 t1)/\PIf (t=t1)
 (∃ (A:Option Addr) (N C:Nat),cellH h_1 (Addr.add ⟨h.size,0,none⟩ 0)=some (.slice A N C)/\∃ (A1:Option Addr) (N1 C1:Nat),cellH h_1 (Addr.add ⟨h_.size,0,none⟩ 0)=some (.slice A1 N1 C1)/\CallsH P 59 #[.slice A N C,.slice A1 N1 C1] h_1 fun v h_2=>
 ∃ (t2:Bool),v=(.bool t2)/\BIf (!t2) (R (.bool false) h_2) (∃ (A2:Option Addr) (N2 C2:Nat),cellH h_2 (Addr.add ⟨h.size,0,none⟩ 1)=some (.slice A2 N2 C2)/\∃ (A3:Option Addr) (N3 C3:Nat),cellH h_2 (Addr.add ⟨h_.size,0,none⟩ 1)=some (.slice A3 N3 C3)/\PIf ((((N2:Nat):Int):Int)=((N3:Nat):Int))
 (J23_0 P R h h_ h_2)
 (R (.bool false) h_2)))
 (R (.bool false) h_1)
theorem run23 (a b:TV) (R:Value->Heap->Prop) (h:Heap) (hv:VC23 Tryz.prog a b R h):CallsH Tryz.prog 23 #[a.v,b.v] h R:=calls_of_fnC (Checked.mixed Tryz.checked) Tryz.func23 comp23 (Nat.le_of_ble_eq_true rfl) (Eq.mp (by kernel_rfl) hv)
def loops59:List (List (Nat×Shp)):=[[(5,.int .i64)]]
noncomputable def code59:SCode:=((compF Tryz.prog Tryz.f59 loops59).elim .skip fun x=>x.2.2)
def ret59:List RV:=[.tmp 4]
theorem comp59:compF Tryz.prog Tryz.f59 loops59=some (26,ret59,code59):=by kernel_rfl
def J59_2  (R:Value->Heap->Prop) (aA:(Option Addr)) (aN:Nat) (bA:(Option Addr)) (bN:Nat) (i:Int) (next_:(Int->Heap->Prop)) (h_2:Heap):Prop:=
 0≤i/\i<(aN:Nat)/\AtP aA fun ad=>∃ (t:Bool),cellH h_2 (Addr.add ad (Int.toNat i*1))=some (.bool t)/\0≤i/\i<(bN:Nat)/\AtP bA fun ad1=>∃ (t1:Bool),cellH h_2 (Addr.add ad1 (Int.toNat i*1))=some (.bool t1)/\PIf ((t:Bool)=t1)
 (next_ (IntKind.wrap .i64 (i+1)) h_2)
 (R (.bool false) h_2)
def J59_1  (R:Value->Heap->Prop) (h_3:Heap):Prop:=
 R (.bool true) h_3
def B59_3 (R:Value->Heap->Prop) (aA:(Option Addr)) (aN:Nat) (bA:(Option Addr)) (bN:Nat) (i:Int) (h_1:Heap) (next_:Int->Heap->Prop):Prop:=
 PIf (i<((aN:Nat):Int))
 (J59_2 R aA aN bA bN i next_ h_1)
 (J59_1 R h_1)
def J59_0  (R:Value->Heap->Prop) (aA:(Option Addr)) (aN:Nat) (bA:(Option Addr)) (bN:Nat) (h_:Heap):Prop:=
 LoopT (σ:=Int) (fun st_ h_st nx_st=>B59_3 R aA aN bA bN (st_) h_st nx_st) (0) h_
def VC59 (P:Program) (aA:Option Addr) (aN aC:Nat) (bA:Option Addr) (bN bC:Nat) (R:Value->Heap->Prop) (h:Heap):Prop:=
 PIf ((((aN:Nat):Int):Int)=((bN:Nat):Int))
 (J59_0 R aA aN bA bN h)
 (R (.bool false) h)
theorem run59 (aA:Option Addr) (aN aC:Nat) (bA:Option Addr) (bN bC:Nat) (R:Value->Heap->Prop) (h:Heap) (hv:VC59 Tryz.prog aA aN aC bA bN bC R h):CallsH Tryz.prog 59 #[.slice aA aN aC,.slice bA bN bC] h R:=calls_of_fnC (Checked.mixed Tryz.checked) Tryz.func59 comp59 (Nat.le_of_ble_eq_true rfl) (Eq.mp (by kernel_rfl) hv)
def loops25:List (List (Nat×Shp)):=[[(2,.int .i64)]]
noncomputable def code25:SCode:=((compF Tryz.prog Tryz.f25 loops25).elim .skip fun x=>x.2.2)
def ret25:List RV:=[]
theorem comp25:compF Tryz.prog Tryz.f25 loops25=some (19,ret25,code25):=by kernel_rfl
def J25_0  (P:Program) (h:Heap) (i:Int) (next_:(Int->Heap->Prop)) (h_3:Heap):Prop:=
 ∃ (A2:Option Addr) (N2 C2:Nat),cellH h_3 (Addr.add ⟨h.size,0,none⟩ 1)=some (.slice A2 N2 C2)/\0≤i/\i<(N2:Nat)/\AtP A2 fun ad=>∃ (A3:Option Addr) (N3 C3:Nat),cellH h_3 (Addr.add ad (Int.toNat i*1))=some (.slice A3 N3 C3)/\CallsH P 60 #[.slice A3 N3 C3] h_3 fun v1 h_4=>
 v1=(.tuple #[])/\next_ (IntKind.wrap .i64 (i+1)) h_4
def B25_1 (P:Program) (R:Value->Heap->Prop) (h:Heap) (i:Int) (h_2:Heap) (next_:Int->Heap->Prop):Prop:=
 ∃ (A1:Option Addr) (N1 C1:Nat),cellH h_2 (Addr.add ⟨h.size,0,none⟩ 1)=some (.slice A1 N1 C1)/\PIf (i<((N1:Nat):Int))
 (J25_0 P h i next_ h_2)
 (R (.tuple #[]) h_2)
def VC25 (P:Program) (t:TV) (R:Value->Heap->Prop) (h:Heap):Prop:=
 let h_:Heap:=(h).push (.cells (Value.cells t.v) 49);∃ (A:Option Addr) (N C:Nat),cellH h_ (Addr.add ⟨h.size,0,none⟩ 0)=some (.slice A N C)/\CallsH P 60 #[.slice A N C] h_ fun v h_1=>
 v=(.tuple #[])/\LoopT (σ:=Int) (fun st_ h_st nx_st=>B25_1 P R h (st_) h_st nx_st) (0) h_1
theorem run25 (t:TV) (R:Value->Heap->Prop) (h:Heap) (hv:VC25 Tryz.prog t R h):CallsH Tryz.prog 25 #[t.v] h R:=calls_of_fnC (Checked.mixed Tryz.checked) Tryz.func25 comp25 (Nat.le_of_ble_eq_true rfl) (Eq.mp (by kernel_rfl) hv)
def loops60:List (List (Nat×Shp)):=[[(2,.int .i64)]]
noncomputable def code60:SCode:=((compF Tryz.prog Tryz.f60 loops60).elim .skip fun x=>x.2.2)
def ret60:List RV:=[]
theorem comp60:compF Tryz.prog Tryz.f60 loops60=some (17,ret60,code60):=by kernel_rfl
def J60_0  (lA:(Option Addr)) (lN:Nat) (i:Int) (next_:(Int->Heap->Prop)) (h_1:Heap):Prop:=
 0≤i/\i<(lN:Nat)/\AtP lA fun ad=>∃ (t:Bool),cellH h_1 (Addr.add ad (Int.toNat i*1))=some (.bool t)/\0≤i/\i<(lN:Nat)/\AtP lA fun ad1=>StoreH h_1 (Addr.add ad1 (Int.toNat i*1)) [(.bool (!t))] fun h_2=>next_ (IntKind.wrap .i64 (i+1)) h_2
def B60_1 (R:Value->Heap->Prop) (lA:(Option Addr)) (lN:Nat) (i:Int) (h_:Heap) (next_:Int->Heap->Prop):Prop:=
 PIf (i<((lN:Nat):Int))
 (J60_0 lA lN i next_ h_)
 (R (.tuple #[]) h_)
def VC60 (P:Program) (lA:Option Addr) (lN lC:Nat) (R:Value->Heap->Prop) (h:Heap):Prop:=
 LoopT (σ:=Int) (fun st_ h_st nx_st=>B60_1 R lA lN (st_) h_st nx_st) (0) h
theorem run60 (lA:Option Addr) (lN lC:Nat) (R:Value->Heap->Prop) (h:Heap) (hv:VC60 Tryz.prog lA lN lC R h):CallsH Tryz.prog 60 #[.slice lA lN lC] h R:=calls_of_fnC (Checked.mixed Tryz.checked) Tryz.func60 comp60 (Nat.le_of_ble_eq_true rfl) (Eq.mp (by kernel_rfl) hv)
end Go.Proofs.YtdpbdjdgdmheiaaGreat
