/- Words and facts that the claim's proof leans on. No condition. -/
import Derived.Test.YtdpbdjdgdmheiaaGreatHxV
import Derived.Test.YtdpbdjdgdmheiaaGreatChecked
set_option maxRecDepth 100000
set_option linter.unusedVariables false
namespace Go.Proofs.YtdpbdjdgdmheiaaGreat
open Go.Hx
def loops45:List (List (Nat×Shp)):=[[(5,.int .i64)],[(6,.bool),(7,.int .i64)]]
noncomputable def code45:SCode:=((compF Tryz.prog Tryz.f45 loops45).elim .skip fun x=>x.2.2)
def ret45:List RV:=[.tmp 4]
theorem comp45:compF Tryz.prog Tryz.f45 loops45=some (48,ret45,code45):=by kernel_rfl
def J45_4  (h:Heap) (lA:(Option Addr)) (lN:Nat) (i:Int) (ok:Bool) (k:Int) (next_1:(Bool×Int->Heap->Prop)) (h_4:Heap):Prop:=
 ∃ (A1:Option Addr) (N1 C1:Nat),cellH h_4 (Addr.add ⟨h.size,0,none⟩ 2)=some (.slice A1 N1 C1)/\0≤k/\k<(N1:Nat)/\AtP A1 fun ad=>∃ (t:Int),cellH h_4 (Addr.add (Addr.add ad (Int.toNat k*3)) 0)=some (.int .i64 t)/\BIf ok (next_1 (true,(IntKind.wrap .i64 (k+1))) h_4) (0≤i/\i<(lN:Nat)/\AtP lA fun ad1=>∃ (t1:Int),cellH h_4 (Addr.add ad1 (Int.toNat i*1))=some (.int .i64 t1)/\PIf (t1=t)
 (next_1 (true,(IntKind.wrap .i64 (k+1))) h_4)
 (0≤i/\i<(lN:Nat)/\AtP lA fun ad2=>∃ (t2:Int),cellH h_4 (Addr.add ad2 (Int.toNat i*1))=some (.int .i64 t2)/\PIf (t2=(IntKind.wrap .i64 (t+1)))
 (next_1 (true,(IntKind.wrap .i64 (k+1))) h_4)
 (next_1 (false,(IntKind.wrap .i64 (k+1))) h_4)))
def J45_2  (i:Int) (next_:(Int->Heap->Prop)) (h_6:Heap):Prop:=
 next_ (IntKind.wrap .i64 (i+1)) h_6
def J45_3  (R:Value->Heap->Prop) (i:Int) (next_:(Int->Heap->Prop)) (ok1:Bool) (h_5:Heap):Prop:=
 BIf (!ok1) (R (.bool false) h_5) (J45_2 i next_ h_5)
def B45_5 (R:Value->Heap->Prop) (h:Heap) (lA:(Option Addr)) (lN:Nat) (i:Int) (next_:(Int->Heap->Prop)) (ok:Bool) (k:Int) (h_3:Heap) (next_1:Bool×Int->Heap->Prop):Prop:=
 ∃ (A:Option Addr) (N C:Nat),cellH h_3 (Addr.add ⟨h.size,0,none⟩ 2)=some (.slice A N C)/\PIf (k<((N:Nat):Int))
 (J45_4 h lA lN i ok k next_1 h_3)
 (J45_3 R i next_ (ok) h_3)
def J45_1  (R:Value->Heap->Prop) (h:Heap) (lA:(Option Addr)) (lN:Nat) (i:Int) (next_:(Int->Heap->Prop)) (h_2:Heap):Prop:=
 LoopT (σ:=Bool×Int) (fun st_ h_st nx_st=>B45_5 R h lA lN i next_ (st_.1) (st_.2) h_st nx_st) (false,0) h_2
def J45_0  (R:Value->Heap->Prop) (h_7:Heap):Prop:=
 R (.bool true) h_7
def B45_6 (R:Value->Heap->Prop) (h:Heap) (lA:(Option Addr)) (lN:Nat) (i:Int) (h_1:Heap) (next_:Int->Heap->Prop):Prop:=
 PIf (i<((lN:Nat):Int))
 (J45_1 R h lA lN i next_ h_1)
 (J45_0 R h_1)
def VC45 (P:Program) (c:CV) (lA:Option Addr) (lN lC:Nat) (R:Value->Heap->Prop) (h:Heap):Prop:=
 let h_:Heap:=(h).push (.cells (Value.cells c.v) 29);LoopT (σ:=Int) (fun st_ h_st nx_st=>B45_6 R h lA lN (st_) h_st nx_st) (0) h_
theorem run45 (c:CV) (lA:Option Addr) (lN lC:Nat) (R:Value->Heap->Prop) (h:Heap) (hv:VC45 Tryz.prog c lA lN lC R h):CallsH Tryz.prog 45 #[c.v,.slice lA lN lC] h R:=calls_of_fnC (Checked.mixed Tryz.checked) Tryz.func45 comp45 (Nat.le_of_ble_eq_true rfl) (Eq.mp (by kernel_rfl) hv)
end Go.Proofs.YtdpbdjdgdmheiaaGreat
