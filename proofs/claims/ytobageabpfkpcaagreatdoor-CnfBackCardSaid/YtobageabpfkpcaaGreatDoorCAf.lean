/- Words and facts that the claim's proof leans on. No condition. -/
import Derived.Test.YtobageabpfkpcaaGreatDoorHxV
import Derived.Test.YtobageabpfkpcaaGreatDoorChecked
set_option maxRecDepth 100000
set_option linter.unusedVariables false
namespace Go.Proofs.YtobageabpfkpcaaGreatDoor
open Go.Hx
def loops39:List (List (Nat×Shp)):=[]
noncomputable def code39:SCode:=((compF Tryz.prog Tryz.f39 loops39).elim .skip fun x=>x.2.2)
def ret39:List RV:=[.tmp 4]
theorem comp39:compF Tryz.prog Tryz.f39 loops39=some (17,ret39,code39):=by kernel_rfl
def VC39 (P:Program) (a:Int) (aA:Option Addr) (aN aC:Nat) (b:Int) (bA:Option Addr) (bN bC:Nat) (R:Value->Heap->Prop) (h:Heap):Prop:=
 let h_:Heap:=(h).push (.cells (Value.cells (.agg #[.int .i64 a,.slice aA aN aC])) 24);let h_1:Heap:=(h_).push (.cells (Value.cells (.agg #[.int .i64 b,.slice bA bN bC])) 24);∃ (t:Int),cellH h_1 (Addr.add ⟨h.size,0,none⟩ 0)=some (.int .i64 t)/\∃ (t1:Int),cellH h_1 (Addr.add ⟨h_.size,0,none⟩ 0)=some (.int .i64 t1)/\PIf (t=t1)
 (∃ (A:Option Addr) (N C:Nat),cellH h_1 (Addr.add ⟨h.size,0,none⟩ 1)=some (.slice A N C)/\∃ (A1:Option Addr) (N1 C1:Nat),cellH h_1 (Addr.add ⟨h_.size,0,none⟩ 1)=some (.slice A1 N1 C1)/\CallsH P 74 #[.slice A N C,.slice A1 N1 C1,(.func (.func 75) #[] #[])] h_1 fun v h_2=>
 ∃ (t2:Bool),v=(.bool t2)/\R (.bool t2) h_2)
 (R (.bool false) h_1)
theorem vc39 (P:Program) (a:Int) (aA:Option Addr) (aN aC:Nat) (b:Int) (bA:Option Addr) (bN bC:Nat) (R:Value->Heap->Prop) (h:Heap):fnC P ret39 code39 [(.agg #[.int .i64 a,.slice aA aN aC]),(.agg #[.int .i64 b,.slice bA bN bC])] h R=VC39 P a aA aN aC b bA bN bC R h:=by kernel_rfl
theorem run39 (a:Int) (aA:Option Addr) (aN aC:Nat) (b:Int) (bA:Option Addr) (bN bC:Nat) (R:Value->Heap->Prop) (h:Heap) (hv:VC39 Tryz.prog a aA aN aC b bA bN bC R h):CallsH Tryz.prog 39 #[(.agg #[.int .i64 a,.slice aA aN aC]),(.agg #[.int .i64 b,.slice bA bN bC])] h R:=calls_of_fnC (Checked.mixed Tryz.checked) Tryz.func39 comp39 (Nat.le_of_ble_eq_true rfl) (by rw [vc39];exact hv)
def loops74:List (List (Nat×Shp)):=[[(17,.int .i64)]]
noncomputable def code74:SCode:=((compF Tryz.prog Tryz.f74 loops74).elim .skip fun x=>x.2.2)
def ret74:List RV:=[.tmp 6]
theorem comp74:compF Tryz.prog Tryz.f74 loops74=some (32,ret74,code74):=by kernel_rfl
def J74_2  (P:Program) (R:Value->Heap->Prop) (s1A:(Option Addr)) (s1N:Nat) (s2A:(Option Addr)) (s2N:Nat) (eq:Value) (t:Int) (next_:(Int->Heap->Prop)) (h_2:Heap):Prop:=
 0≤t/\t<(s1N:Nat)/\AtP s1A fun ad=>∃ (A:Option Addr) (N C:Nat),cellH h_2 (Addr.add ad (Int.toNat t*1))=some (.slice A N C)/\0≤t/\t<(s2N:Nat)/\AtP s2A fun ad1=>∃ (A1:Option Addr) (N1 C1:Nat),cellH h_2 (Addr.add ad1 (Int.toNat t*1))=some (.slice A1 N1 C1)/\CallV P eq [.slice A N C,.slice A1 N1 C1] h_2 fun v h_3=>
 ∃ (t1:Bool),v=(.bool t1)/\BIf (!t1) (R (.bool false) h_3) (next_ (IntKind.wrap .i64 (t+1)) h_3)
def J74_1  (R:Value->Heap->Prop) (h_4:Heap):Prop:=
 R (.bool true) h_4
def B74_4 (P:Program) (R:Value->Heap->Prop) (s1A:(Option Addr)) (s1N:Nat) (s2A:(Option Addr)) (s2N:Nat) (eq:Value) (t:Int) (h_1:Heap) (next_:Int->Heap->Prop):Prop:=
 PIf (t<((s1N:Nat):Int))
 (J74_2 P R s1A s1N s2A s2N eq t next_ h_1)
 (J74_1 R h_1)
def J74_0  (P:Program) (R:Value->Heap->Prop) (s1A:(Option Addr)) (s1N:Nat) (s2A:(Option Addr)) (s2N:Nat) (eq:Value) (h_:Heap):Prop:=
 LoopT (σ:=Int) (fun st_ h_st nx_st=>B74_4 P R s1A s1N s2A s2N eq (st_) h_st nx_st) (0) h_
def VC74 (P:Program) (s1A:Option Addr) (s1N s1C:Nat) (s2A:Option Addr) (s2N s2C:Nat) (eq:Value) (R:Value->Heap->Prop) (h:Heap):Prop:=
 PIf ((((s1N:Nat):Int):Int)=((s2N:Nat):Int))
 (J74_0 P R s1A s1N s2A s2N eq h)
 (R (.bool false) h)
theorem vc74 (P:Program) (s1A:Option Addr) (s1N s1C:Nat) (s2A:Option Addr) (s2N s2C:Nat) (eq:Value) (R:Value->Heap->Prop) (h:Heap):fnC P ret74 code74 [.slice s1A s1N s1C,.slice s2A s2N s2C,eq] h R=VC74 P s1A s1N s1C s2A s2N s2C eq R h:=by kernel_rfl
theorem run74 (s1A:Option Addr) (s1N s1C:Nat) (s2A:Option Addr) (s2N s2C:Nat) (eq:Value) (R:Value->Heap->Prop) (h:Heap) (hv:VC74 Tryz.prog s1A s1N s1C s2A s2N s2C eq R h):CallsH Tryz.prog 74 #[.slice s1A s1N s1C,.slice s2A s2N s2C,eq] h R:=calls_of_fnC (Checked.mixed Tryz.checked) Tryz.func74 comp74 (Nat.le_of_ble_eq_true rfl) (by rw [vc74];exact hv)
def loops75:List (List (Nat×Shp)):=[]
noncomputable def code75:SCode:=((compF Tryz.prog Tryz.f75 loops75).elim .skip fun x=>x.2.2)
def ret75:List RV:=[.tmp 4]
theorem comp75:compF Tryz.prog Tryz.f75 loops75=some (8,ret75,code75):=by kernel_rfl
def VC75 (P:Program) (xA:Option Addr) (xN xC:Nat) (yA:Option Addr) (yN yC:Nat) (R:Value->Heap->Prop) (h:Heap):Prop:=
 CallsH P 76 #[.slice xA xN xC,.slice yA yN yC] h fun v h_=>
 ∃ (t:Bool),v=(.bool t)/\R (.bool t) h_
theorem vc75 (P:Program) (xA:Option Addr) (xN xC:Nat) (yA:Option Addr) (yN yC:Nat) (R:Value->Heap->Prop) (h:Heap):fnC P ret75 code75 [.slice xA xN xC,.slice yA yN yC] h R=VC75 P xA xN xC yA yN yC R h:=by kernel_rfl
theorem run75 (xA:Option Addr) (xN xC:Nat) (yA:Option Addr) (yN yC:Nat) (R:Value->Heap->Prop) (h:Heap) (hv:VC75 Tryz.prog xA xN xC yA yN yC R h):CallsH Tryz.prog 75 #[.slice xA xN xC,.slice yA yN yC] h R:=calls_of_fnC (Checked.mixed Tryz.checked) Tryz.func75 comp75 (Nat.le_of_ble_eq_true rfl) (by rw [vc75];exact hv)
def loops76:List (List (Nat×Shp)):=[[(13,.int .i64)]]
noncomputable def code76:SCode:=((compF Tryz.prog Tryz.f76 loops76).elim .skip fun x=>x.2.2)
def ret76:List RV:=[.tmp 4]
theorem comp76:compF Tryz.prog Tryz.f76 loops76=some (26,ret76,code76):=by kernel_rfl
def J76_2  (R:Value->Heap->Prop) (s1A:(Option Addr)) (s1N:Nat) (s2A:(Option Addr)) (s2N:Nat) (t:Int) (next_:(Int->Heap->Prop)) (h_2:Heap):Prop:=
 0≤t/\t<(s1N:Nat)/\AtP s1A fun ad=>∃ (t1:Int),cellH h_2 (Addr.add ad (Int.toNat t*1))=some (.int .i64 t1)/\0≤t/\t<(s2N:Nat)/\AtP s2A fun ad1=>∃ (t2:Int),cellH h_2 (Addr.add ad1 (Int.toNat t*1))=some (.int .i64 t2)/\PIf (t1=t2)
 (next_ (IntKind.wrap .i64 (t+1)) h_2)
 (R (.bool false) h_2)
def J76_1  (R:Value->Heap->Prop) (h_3:Heap):Prop:=
 R (.bool true) h_3
def B76_4 (R:Value->Heap->Prop) (s1A:(Option Addr)) (s1N:Nat) (s2A:(Option Addr)) (s2N:Nat) (t:Int) (h_1:Heap) (next_:Int->Heap->Prop):Prop:=
 PIf (t<((s1N:Nat):Int))
 (J76_2 R s1A s1N s2A s2N t next_ h_1)
 (J76_1 R h_1)
def J76_0  (R:Value->Heap->Prop) (s1A:(Option Addr)) (s1N:Nat) (s2A:(Option Addr)) (s2N:Nat) (h_:Heap):Prop:=
 LoopT (σ:=Int) (fun st_ h_st nx_st=>B76_4 R s1A s1N s2A s2N (st_) h_st nx_st) (0) h_
def VC76 (P:Program) (s1A:Option Addr) (s1N s1C:Nat) (s2A:Option Addr) (s2N s2C:Nat) (R:Value->Heap->Prop) (h:Heap):Prop:=
 PIf ((((s1N:Nat):Int):Int)=((s2N:Nat):Int))
 (J76_0 R s1A s1N s2A s2N h)
 (R (.bool false) h)
theorem vc76 (P:Program) (s1A:Option Addr) (s1N s1C:Nat) (s2A:Option Addr) (s2N s2C:Nat) (R:Value->Heap->Prop) (h:Heap):fnC P ret76 code76 [.slice s1A s1N s1C,.slice s2A s2N s2C] h R=VC76 P s1A s1N s1C s2A s2N s2C R h:=by kernel_rfl
theorem run76 (s1A:Option Addr) (s1N s1C:Nat) (s2A:Option Addr) (s2N s2C:Nat) (R:Value->Heap->Prop) (h:Heap) (hv:VC76 Tryz.prog s1A s1N s1C s2A s2N s2C R h):CallsH Tryz.prog 76 #[.slice s1A s1N s1C,.slice s2A s2N s2C] h R:=calls_of_fnC (Checked.mixed Tryz.checked) Tryz.func76 comp76 (Nat.le_of_ble_eq_true rfl) (by rw [vc76];exact hv)
end Go.Proofs.YtobageabpfkpcaaGreatDoor
