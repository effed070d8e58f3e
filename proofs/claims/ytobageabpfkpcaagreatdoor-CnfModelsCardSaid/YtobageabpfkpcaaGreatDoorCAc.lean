/- Words and facts that the claim's proof leans on. No condition. -/
import Derived.Test.YtobageabpfkpcaaGreatDoorHxV
import Derived.Test.YtobageabpfkpcaaGreatDoorChecked
set_option maxRecDepth 100000
set_option linter.unusedVariables false
namespace Go.Proofs.YtobageabpfkpcaaGreatDoor
open Go.Hx
def loops25:List (List (Nat×Shp)):=[]
noncomputable def code25:SCode:=((compF Tryz.prog Tryz.f25 loops25).elim .skip fun x=>x.2.2)
def ret25:List RV:=[.tmp 4,.tmp 5,.tmp 6]
theorem comp25:compF Tryz.prog Tryz.f25 loops25=some (29,ret25,code25):=by kernel_rfl
def J25_1  (P:Program) (R:Value->Heap->Prop) (h:Heap) (modelA:(Option Addr)) (modelN modelC:Nat) (h_3:Heap):Prop:=
 ∃ (t4:Int) (A1:Option Addr) (N1 C1:Nat),cellsH h_3 ⟨h.size,0,none⟩ 0 [.int .i64 t4,.slice A1 N1 C1]/\CallsH P 63 #[(.agg #[.int .i64 t4,.slice A1 N1 C1]),.slice modelA modelN modelC] h_3 fun v1 h_4=>
 ∃ (t5:Int),v1=(.int .i64 t5)/\PIf ((0:Int)≤t5)
 (R (.tuple #[.bool false,.int .i64 t5,.int .i64 0]) h_4)
 (R (.tuple #[.bool true,.int .i64 0,.int .i64 0]) h_4)
def J25_0  (P:Program) (R:Value->Heap->Prop) (h:Heap) (modelA:(Option Addr)) (modelN modelC:Nat) (h_2:Heap):Prop:=
 ∃ (t3:Int),cellH h_2 (Addr.add ⟨h.size,0,none⟩ 0)=some (.int .i64 t3)/\PIf ((((modelN:Nat):Int):Int)=t3)
 (J25_1 P R h modelA modelN modelC h_2)
 (R (.tuple #[.bool false,.int .i64 0,.int .i64 4]) h_2)
def VC25 (P:Program) (f:Int) (fA:Option Addr) (fN fC:Nat) (modelA:Option Addr) (modelN modelC:Nat) (R:Value->Heap->Prop) (h:Heap):Prop:=
 let h_:Heap:=(h).push (.cells (Value.cells (.agg #[.int .i64 f,.slice fA fN fC])) 24);∃ (t:Int) (A:Option Addr) (N C:Nat),cellsH h_ ⟨h.size,0,none⟩ 0 [.int .i64 t,.slice A N C]/\CallsH P 34 #[(.agg #[.int .i64 t,.slice A N C])] h_ fun v h_1=>
 ∃ (t1 t2:Int),v=(.tuple #[.int .i64 t1,.int .i64 t2])/\PIf (t2=0)
 (J25_0 P R h modelA modelN modelC h_1)
 (R (.tuple #[.bool false,.int .i64 0,.int .i64 t2]) h_1)
theorem vc25 (P:Program) (f:Int) (fA:Option Addr) (fN fC:Nat) (modelA:Option Addr) (modelN modelC:Nat) (R:Value->Heap->Prop) (h:Heap):fnC P ret25 code25 [(.agg #[.int .i64 f,.slice fA fN fC]),.slice modelA modelN modelC] h R=VC25 P f fA fN fC modelA modelN modelC R h:=by kernel_rfl
theorem run25 (f:Int) (fA:Option Addr) (fN fC:Nat) (modelA:Option Addr) (modelN modelC:Nat) (R:Value->Heap->Prop) (h:Heap) (hv:VC25 Tryz.prog f fA fN fC modelA modelN modelC R h):CallsH Tryz.prog 25 #[(.agg #[.int .i64 f,.slice fA fN fC]),.slice modelA modelN modelC] h R:=calls_of_fnC (Checked.mixed Tryz.checked) Tryz.func25 comp25 (Nat.le_of_ble_eq_true rfl) (by rw [vc25];exact hv)
def loops26:List (List (Nat×Shp)):=[]
noncomputable def code26:SCode:=((compF Tryz.prog Tryz.f26 loops26).elim .skip fun x=>x.2.2)
def ret26:List RV:=[.tmp 4,.tmp 5,.tmp 6]
theorem comp26:compF Tryz.prog Tryz.f26 loops26=some (29,ret26,code26):=by kernel_rfl
def J26_1  (P:Program) (R:Value->Heap->Prop) (h:Heap) (modelA:(Option Addr)) (modelN modelC:Nat) (h_3:Heap):Prop:=
 ∃ (t4:Int) (A1:Option Addr) (N1 C1:Nat),cellsH h_3 ⟨h.size,0,none⟩ 0 [.int .i64 t4,.slice A1 N1 C1]/\CallsH P 64 #[(.agg #[.int .i64 t4,.slice A1 N1 C1]),.slice modelA modelN modelC] h_3 fun v1 h_4=>
 ∃ (t5:Int),v1=(.int .i64 t5)/\PIf ((0:Int)≤t5)
 (R (.tuple #[.bool false,.int .i64 t5,.int .i64 0]) h_4)
 (R (.tuple #[.bool true,.int .i64 0,.int .i64 0]) h_4)
def J26_0  (P:Program) (R:Value->Heap->Prop) (h:Heap) (modelA:(Option Addr)) (modelN modelC:Nat) (h_2:Heap):Prop:=
 ∃ (t3:Int),cellH h_2 (Addr.add ⟨h.size,0,none⟩ 0)=some (.int .i64 t3)/\PIf ((((modelN:Nat):Int):Int)=t3)
 (J26_1 P R h modelA modelN modelC h_2)
 (R (.tuple #[.bool false,.int .i64 0,.int .i64 4]) h_2)
def VC26 (P:Program) (f:Int) (fA:Option Addr) (fN fC:Nat) (modelA:Option Addr) (modelN modelC:Nat) (R:Value->Heap->Prop) (h:Heap):Prop:=
 let h_:Heap:=(h).push (.cells (Value.cells (.agg #[.int .i64 f,.slice fA fN fC])) 24);∃ (t:Int) (A:Option Addr) (N C:Nat),cellsH h_ ⟨h.size,0,none⟩ 0 [.int .i64 t,.slice A N C]/\CallsH P 35 #[(.agg #[.int .i64 t,.slice A N C])] h_ fun v h_1=>
 ∃ (t1 t2:Int),v=(.tuple #[.int .i64 t1,.int .i64 t2])/\PIf (t2=0)
 (J26_0 P R h modelA modelN modelC h_1)
 (R (.tuple #[.bool false,.int .i64 0,.int .i64 t2]) h_1)
theorem vc26 (P:Program) (f:Int) (fA:Option Addr) (fN fC:Nat) (modelA:Option Addr) (modelN modelC:Nat) (R:Value->Heap->Prop) (h:Heap):fnC P ret26 code26 [(.agg #[.int .i64 f,.slice fA fN fC]),.slice modelA modelN modelC] h R=VC26 P f fA fN fC modelA modelN modelC R h:=by kernel_rfl
theorem run26 (f:Int) (fA:Option Addr) (fN fC:Nat) (modelA:Option Addr) (modelN modelC:Nat) (R:Value->Heap->Prop) (h:Heap) (hv:VC26 Tryz.prog f fA fN fC modelA modelN modelC R h):CallsH Tryz.prog 26 #[(.agg #[.int .i64 f,.slice fA fN fC]),.slice modelA modelN modelC] h R:=calls_of_fnC (Checked.mixed Tryz.checked) Tryz.func26 comp26 (Nat.le_of_ble_eq_true rfl) (by rw [vc26];exact hv)
def loops27:List (List (Nat×Shp)):=[]
noncomputable def code27:SCode:=((compF Tryz.prog Tryz.f27 loops27).elim .skip fun x=>x.2.2)
def ret27:List RV:=[.tmp 2,.tmp 3]
theorem comp27:compF Tryz.prog Tryz.f27 loops27=some (11,ret27,code27):=by kernel_rfl
def VC27 (P:Program) (f:Int) (fA:Option Addr) (fN fC:Nat) (R:Value->Heap->Prop) (h:Heap):Prop:=
 let h_:Heap:=(h).push (.cells (Value.cells (.agg #[.int .i64 f,.slice fA fN fC])) 24);let h_1:Heap:=(h_).push (.cells #[.int .i64 0] 3);StoreH h_1 ⟨h_.size,0,none⟩ [.int .i64 0] fun h_2=>∃ (t:Int) (A:Option Addr) (N C:Nat),cellsH h_2 ⟨h.size,0,none⟩ 0 [.int .i64 t,.slice A N C]/\CallsH P 65 #[(.agg #[.int .i64 t,.slice A N C]),(.func (.func 66) #[] #[(.pointer (some ⟨h_.size,0,none⟩))])] h_2 fun v h_3=>
 ∃ (t1:Int),v=(.int .i64 t1)/\∃ (t2:Int),cellH h_3 ⟨h_.size,0,none⟩=some (.int .i64 t2)/\R (.tuple #[.int .i64 t2,.int .i64 t1]) h_3
theorem vc27 (P:Program) (f:Int) (fA:Option Addr) (fN fC:Nat) (R:Value->Heap->Prop) (h:Heap):fnC P ret27 code27 [(.agg #[.int .i64 f,.slice fA fN fC])] h R=VC27 P f fA fN fC R h:=by kernel_rfl
theorem run27 (f:Int) (fA:Option Addr) (fN fC:Nat) (R:Value->Heap->Prop) (h:Heap) (hv:VC27 Tryz.prog f fA fN fC R h):CallsH Tryz.prog 27 #[(.agg #[.int .i64 f,.slice fA fN fC])] h R:=calls_of_fnC (Checked.mixed Tryz.checked) Tryz.func27 comp27 (Nat.le_of_ble_eq_true rfl) (by rw [vc27];exact hv)
def loops28:List (List (Nat×Shp)):=[]
noncomputable def code28:SCode:=((compF Tryz.prog Tryz.f28 loops28).elim .skip fun x=>x.2.2)
def ret28:List RV:=[.tmp 2,.tmp 3]
theorem comp28:compF Tryz.prog Tryz.f28 loops28=some (25,ret28,code28):=by kernel_rfl
def J28_1  (P:Program) (R:Value->Heap->Prop) (h h_3:Heap):Prop:=
 ∃ (t4:Int) (A1:Option Addr) (N1 C1:Nat),cellsH h_3 ⟨h.size,0,none⟩ 0 [.int .i64 t4,.slice A1 N1 C1]/\CallsH P 67 #[(.agg #[.int .i64 t4,.slice A1 N1 C1])] h_3 fun v1 h_4=>
 ∃ (t5:Int) (A2:Option Addr) (N2 C2:Nat),v1=(.tuple #[.int .i64 t5,.slice A2 N2 C2])/\R (.tuple #[.int .i64 t5,.int .i64 0]) h_4
def J28_0  (P:Program) (R:Value->Heap->Prop) (h h_2:Heap):Prop:=
 ∃ (t3:Int),cellH h_2 (Addr.add ⟨h.size,0,none⟩ 0)=some (.int .i64 t3)/\PIf ((16:Int)<t3)
 (R (.tuple #[.int .i64 0,.int .i64 6]) h_2)
 (J28_1 P R h h_2)
def VC28 (P:Program) (f:Int) (fA:Option Addr) (fN fC:Nat) (R:Value->Heap->Prop) (h:Heap):Prop:=
 let h_:Heap:=(h).push (.cells (Value.cells (.agg #[.int .i64 f,.slice fA fN fC])) 24);∃ (t:Int) (A:Option Addr) (N C:Nat),cellsH h_ ⟨h.size,0,none⟩ 0 [.int .i64 t,.slice A N C]/\CallsH P 35 #[(.agg #[.int .i64 t,.slice A N C])] h_ fun v h_1=>
 ∃ (t1 t2:Int),v=(.tuple #[.int .i64 t1,.int .i64 t2])/\PIf (t2=0)
 (J28_0 P R h h_1)
 (R (.tuple #[.int .i64 0,.int .i64 t2]) h_1)
theorem vc28 (P:Program) (f:Int) (fA:Option Addr) (fN fC:Nat) (R:Value->Heap->Prop) (h:Heap):fnC P ret28 code28 [(.agg #[.int .i64 f,.slice fA fN fC])] h R=VC28 P f fA fN fC R h:=by kernel_rfl
theorem run28 (f:Int) (fA:Option Addr) (fN fC:Nat) (R:Value->Heap->Prop) (h:Heap) (hv:VC28 Tryz.prog f fA fN fC R h):CallsH Tryz.prog 28 #[(.agg #[.int .i64 f,.slice fA fN fC])] h R:=calls_of_fnC (Checked.mixed Tryz.checked) Tryz.func28 comp28 (Nat.le_of_ble_eq_true rfl) (by rw [vc28];exact hv)
def loops29:List (List (Nat×Shp)):=[]
noncomputable def code29:SCode:=((compF Tryz.prog Tryz.f29 loops29).elim .skip fun x=>x.2.2)
def ret29:List RV:=[.tmp 2,.tmp 3]
theorem comp29:compF Tryz.prog Tryz.f29 loops29=some (18,ret29,code29):=by kernel_rfl
def VC29 (P:Program) (f:Int) (fA:Option Addr) (fN fC:Nat) (R:Value->Heap->Prop) (h:Heap):Prop:=
 let h_:Heap:=(h).push (.cells (Value.cells (.agg #[.int .i64 f,.slice fA fN fC])) 24);let h_1:Heap:=(h_).push (.cells #[.slice none 0 0] 42);let h_2:Heap:=(h_1).push (.cells #[.bool false] 4);StoreH h_2 ⟨h_1.size,0,none⟩ [.bool false] fun h_3=>∃ (t:Int) (A:Option Addr) (N C:Nat),cellsH h_3 ⟨h.size,0,none⟩ 0 [.int .i64 t,.slice A N C]/\CallsH P 65 #[(.agg #[.int .i64 t,.slice A N C]),(.func (.func 68) #[] #[(.pointer (some ⟨h_.size,0,none⟩)),(.pointer (some ⟨h_1.size,0,none⟩))])] h_3 fun v h_4=>
 ∃ (t1:Int),v=(.int .i64 t1)/\PIf (t1=0)
 (∃ (t2:Bool),cellH h_4 ⟨h_1.size,0,none⟩=some (.bool t2)/\BIf (!t2) (∃ (A1:Option Addr) (N1 C1:Nat),cellH h_4 ⟨h_.size,0,none⟩=some (.slice A1 N1 C1)/\R (.tuple #[.slice A1 N1 C1,.int .i64 5]) h_4) (∃ (A2:Option Addr) (N2 C2:Nat),cellH h_4 ⟨h_.size,0,none⟩=some (.slice A2 N2 C2)/\R (.tuple #[.slice A2 N2 C2,.int .i64 t1]) h_4))
 (∃ (A3:Option Addr) (N3 C3:Nat),cellH h_4 ⟨h_.size,0,none⟩=some (.slice A3 N3 C3)/\R (.tuple #[.slice A3 N3 C3,.int .i64 t1]) h_4)
theorem vc29 (P:Program) (f:Int) (fA:Option Addr) (fN fC:Nat) (R:Value->Heap->Prop) (h:Heap):fnC P ret29 code29 [(.agg #[.int .i64 f,.slice fA fN fC])] h R=VC29 P f fA fN fC R h:=by kernel_rfl
theorem run29 (f:Int) (fA:Option Addr) (fN fC:Nat) (R:Value->Heap->Prop) (h:Heap) (hv:VC29 Tryz.prog f fA fN fC R h):CallsH Tryz.prog 29 #[(.agg #[.int .i64 f,.slice fA fN fC])] h R:=calls_of_fnC (Checked.mixed Tryz.checked) Tryz.func29 comp29 (Nat.le_of_ble_eq_true rfl) (by rw [vc29];exact hv)
def loops30:List (List (Nat×Shp)):=[]
noncomputable def code30:SCode:=((compF Tryz.prog Tryz.f30 loops30).elim .skip fun x=>x.2.2)
def ret30:List RV:=[.tmp 2,.tmp 3]
theorem comp30:compF Tryz.prog Tryz.f30 loops30=some (27,ret30,code30):=by kernel_rfl
def J30_1  (P:Program) (R:Value->Heap->Prop) (h h_3:Heap):Prop:=
 ∃ (t4:Int) (A1:Option Addr) (N1 C1:Nat),cellsH h_3 ⟨h.size,0,none⟩ 0 [.int .i64 t4,.slice A1 N1 C1]/\CallsH P 67 #[(.agg #[.int .i64 t4,.slice A1 N1 C1])] h_3 fun v1 h_4=>
 ∃ (t5:Int) (A2:Option Addr) (N2 C2:Nat),v1=(.tuple #[.int .i64 t5,.slice A2 N2 C2])/\PIf (t5=0)
 (R (.tuple #[.slice none 0 0,.int .i64 5]) h_4)
 (R (.tuple #[.slice A2 N2 C2,.int .i64 0]) h_4)
def J30_0  (P:Program) (R:Value->Heap->Prop) (h h_2:Heap):Prop:=
 ∃ (t3:Int),cellH h_2 (Addr.add ⟨h.size,0,none⟩ 0)=some (.int .i64 t3)/\PIf ((16:Int)<t3)
 (R (.tuple #[.slice none 0 0,.int .i64 6]) h_2)
 (J30_1 P R h h_2)
def VC30 (P:Program) (f:Int) (fA:Option Addr) (fN fC:Nat) (R:Value->Heap->Prop) (h:Heap):Prop:=
 let h_:Heap:=(h).push (.cells (Value.cells (.agg #[.int .i64 f,.slice fA fN fC])) 24);∃ (t:Int) (A:Option Addr) (N C:Nat),cellsH h_ ⟨h.size,0,none⟩ 0 [.int .i64 t,.slice A N C]/\CallsH P 35 #[(.agg #[.int .i64 t,.slice A N C])] h_ fun v h_1=>
 ∃ (t1 t2:Int),v=(.tuple #[.int .i64 t1,.int .i64 t2])/\PIf (t2=0)
 (J30_0 P R h h_1)
 (R (.tuple #[.slice none 0 0,.int .i64 t2]) h_1)
theorem vc30 (P:Program) (f:Int) (fA:Option Addr) (fN fC:Nat) (R:Value->Heap->Prop) (h:Heap):fnC P ret30 code30 [(.agg #[.int .i64 f,.slice fA fN fC])] h R=VC30 P f fA fN fC R h:=by kernel_rfl
theorem run30 (f:Int) (fA:Option Addr) (fN fC:Nat) (R:Value->Heap->Prop) (h:Heap) (hv:VC30 Tryz.prog f fA fN fC R h):CallsH Tryz.prog 30 #[(.agg #[.int .i64 f,.slice fA fN fC])] h R:=calls_of_fnC (Checked.mixed Tryz.checked) Tryz.func30 comp30 (Nat.le_of_ble_eq_true rfl) (by rw [vc30];exact hv)
def loops63:List (List (Nat×Shp)):=[]
noncomputable def code63:SCode:=((compF Tryz.prog Tryz.f63 loops63).elim .skip fun x=>x.2.2)
def ret63:List RV:=[.tmp 4]
theorem comp63:compF Tryz.prog Tryz.f63 loops63=some (9,ret63,code63):=by kernel_rfl
def VC63 (P:Program) (f:Int) (fA:Option Addr) (fN fC:Nat) (modelA:Option Addr) (modelN modelC:Nat) (R:Value->Heap->Prop) (h:Heap):Prop:=
 let h_:Heap:=(h).push (.cells (Value.cells (.agg #[.int .i64 f,.slice fA fN fC])) 24);let h_1:Heap:=(h_).push (.cells #[.slice modelA modelN modelC] 42);∃ (A:Option Addr) (N C:Nat),cellH h_1 (Addr.add ⟨h.size,0,none⟩ 1)=some (.slice A N C)/\CallsH P 100 #[.slice A N C,(.func (.func 101) #[] #[(.pointer (some ⟨h_.size,0,none⟩))])] h_1 fun v h_2=>
 ∃ (t:Int),v=(.int .i64 t)/\R (.int .i64 t) h_2
theorem vc63 (P:Program) (f:Int) (fA:Option Addr) (fN fC:Nat) (modelA:Option Addr) (modelN modelC:Nat) (R:Value->Heap->Prop) (h:Heap):fnC P ret63 code63 [(.agg #[.int .i64 f,.slice fA fN fC]),.slice modelA modelN modelC] h R=VC63 P f fA fN fC modelA modelN modelC R h:=by kernel_rfl
theorem run63 (f:Int) (fA:Option Addr) (fN fC:Nat) (modelA:Option Addr) (modelN modelC:Nat) (R:Value->Heap->Prop) (h:Heap) (hv:VC63 Tryz.prog f fA fN fC modelA modelN modelC R h):CallsH Tryz.prog 63 #[(.agg #[.int .i64 f,.slice fA fN fC]),.slice modelA modelN modelC] h R:=calls_of_fnC (Checked.mixed Tryz.checked) Tryz.func63 comp63 (Nat.le_of_ble_eq_true rfl) (by rw [vc63];exact hv)
def loops64:List (List (Nat×Shp)):=[[(5,.int .i64)]]
noncomputable def code64:SCode:=((compF Tryz.prog Tryz.f64 loops64).elim .skip fun x=>x.2.2)
def ret64:List RV:=[.tmp 4]
theorem comp64:compF Tryz.prog Tryz.f64 loops64=some (22,ret64,code64):=by kernel_rfl
def J64_1  (P:Program) (R:Value->Heap->Prop) (h:Heap) (modelA:(Option Addr)) (modelN modelC:Nat) (i:Int) (next_:(Int->Heap->Prop)) (h_2:Heap):Prop:=
 ∃ (A1:Option Addr) (N1 C1:Nat),cellH h_2 (Addr.add ⟨h.size,0,none⟩ 1)=some (.slice A1 N1 C1)/\0≤i/\i<(N1:Nat)/\AtP A1 fun ad=>∃ (A2:Option Addr) (N2 C2:Nat),cellH h_2 (Addr.add ad (Int.toNat i*1))=some (.slice A2 N2 C2)/\CallsH P 103 #[.slice A2 N2 C2,.slice modelA modelN modelC] h_2 fun v h_3=>
 ∃ (t:Bool),v=(.bool t)/\BIf (!t) (R (.int .i64 i) h_3) (next_ (IntKind.wrap .i64 (i+1)) h_3)
def J64_0  (R:Value->Heap->Prop) (h_4:Heap):Prop:=
 R (.int .i64 (-1)) h_4
def B64_2 (P:Program) (R:Value->Heap->Prop) (h:Heap) (modelA:(Option Addr)) (modelN modelC:Nat) (i:Int) (h_1:Heap) (next_:Int->Heap->Prop):Prop:=
 ∃ (A:Option Addr) (N C:Nat),cellH h_1 (Addr.add ⟨h.size,0,none⟩ 1)=some (.slice A N C)/\PIf (i<((N:Nat):Int))
 (J64_1 P R h modelA modelN modelC i next_ h_1)
 (J64_0 R h_1)
def VC64 (P:Program) (f:Int) (fA:Option Addr) (fN fC:Nat) (modelA:Option Addr) (modelN modelC:Nat) (R:Value->Heap->Prop) (h:Heap):Prop:=
 let h_:Heap:=(h).push (.cells (Value.cells (.agg #[.int .i64 f,.slice fA fN fC])) 24);LoopT (σ:=Int) (fun st_ h_st nx_st=>B64_2 P R h modelA modelN modelC (st_) h_st nx_st) (0) h_
theorem vc64 (P:Program) (f:Int) (fA:Option Addr) (fN fC:Nat) (modelA:Option Addr) (modelN modelC:Nat) (R:Value->Heap->Prop) (h:Heap):fnC P ret64 code64 [(.agg #[.int .i64 f,.slice fA fN fC]),.slice modelA modelN modelC] h R=VC64 P f fA fN fC modelA modelN modelC R h:=by kernel_rfl
theorem run64 (f:Int) (fA:Option Addr) (fN fC:Nat) (modelA:Option Addr) (modelN modelC:Nat) (R:Value->Heap->Prop) (h:Heap) (hv:VC64 Tryz.prog f fA fN fC modelA modelN modelC R h):CallsH Tryz.prog 64 #[(.agg #[.int .i64 f,.slice fA fN fC]),.slice modelA modelN modelC] h R:=calls_of_fnC (Checked.mixed Tryz.checked) Tryz.func64 comp64 (Nat.le_of_ble_eq_true rfl) (by rw [vc64];exact hv)
def loops65:List (List (Nat×Shp)):=[[(27,.int .i64)],[(32,.int .i64)]]
noncomputable def code65:SCode:=((compF Tryz.prog Tryz.f65 loops65).elim .skip fun x=>x.2.2)
def ret65:List RV:=[.tmp 4]
theorem comp65:compF Tryz.prog Tryz.f65 loops65=some (59,ret65,code65):=by kernel_rfl
def J65_6  (h h_3:Heap) (t4 t6 t7:Int) (next_1:(Int->Heap->Prop)) (h_8:Heap):Prop:=
 ∃ (t8:Int),cellH h_8 (Addr.add ⟨h.size,0,none⟩ 0)=some (.int .i64 t8)/\0≤((IntKind.wrap .i64 ((IntKind.wrap .i64 (t8-1))-t7)):Int)/\PIf (((bop .and .i64 (t6 / 2 ^ min (Int.toNat (IntKind.wrap .i64 ((IntKind.wrap .i64 (t8-1))-t7))) (IntKind.bits .i64)) 1):Int)=1)
 (0≤t7/\t7<((Int.toNat t4):Nat)/\StoreH h_8 (Addr.add ⟨h_3.size,0,none⟩ (Int.toNat t7*1)) [.bool true] fun h_9=>next_1 (IntKind.wrap .i64 (t7+1)) h_9)
 (0≤t7/\t7<((Int.toNat t4):Nat)/\StoreH h_8 (Addr.add ⟨h_3.size,0,none⟩ (Int.toNat t7*1)) [.bool false] fun h_10=>next_1 (IntKind.wrap .i64 (t7+1)) h_10)
def J65_2  (R:Value->Heap->Prop) (h_14:Heap):Prop:=
 R (.int .i64 0) h_14
def J65_4  (t6:Int) (next_:(Int->Heap->Prop)) (h_15:Heap):Prop:=
 next_ (IntKind.wrap .i64 (t6+1)) h_15
def J65_5  (P:Program) (R:Value->Heap->Prop) (h:Heap) (do_:Value) (h_3:Heap) (t4 t6:Int) (next_:(Int->Heap->Prop)) (h_11:Heap):Prop:=
 ∃ (t9:Int) (A1:Option Addr) (N1 C1:Nat),cellsH h_11 ⟨h.size,0,none⟩ 0 [.int .i64 t9,.slice A1 N1 C1]/\CallsH P 63 #[(.agg #[.int .i64 t9,.slice A1 N1 C1]),(.slice (some ⟨h_3.size,0,none⟩) (Int.toNat t4) (Int.toNat t4))] h_11 fun v1 h_12=>
 ∃ (t10:Int),v1=(.int .i64 t10)/\PIf (t10<0)
 (CallV P do_ [(.slice (some ⟨h_3.size,0,none⟩) (Int.toNat t4) (Int.toNat t4))] h_12 fun v2 h_13=>
 ∃ (t11:Bool),v2=(.bool t11)/\BIf (!t11) (J65_2 R h_13) (J65_4 t6 next_ h_13))
 (J65_4 t6 next_ h_12)
def B65_8 (P:Program) (R:Value->Heap->Prop) (h:Heap) (do_:Value) (h_3:Heap) (t4 t6:Int) (next_:(Int->Heap->Prop)) (t7:Int) (h_7:Heap) (next_1:Int->Heap->Prop):Prop:=
 PIf (t7<(((Int.toNat t4):Nat):Int))
 (J65_6 h h_3 t4 t6 t7 next_1 h_7)
 (J65_5 P R h do_ h_3 t4 t6 next_ h_7)
def J65_3  (P:Program) (R:Value->Heap->Prop) (h:Heap) (do_:Value) (h_3:Heap) (t4 t6:Int) (next_:(Int->Heap->Prop)) (h_6:Heap):Prop:=
 LoopT (σ:=Int) (fun st_ h_st nx_st=>B65_8 P R h do_ h_3 t4 t6 next_ (st_) h_st nx_st) (0) h_6
def B65_10 (P:Program) (R:Value->Heap->Prop) (h:Heap) (do_:Value) (h_3:Heap) (t4 t5 t6:Int) (h_5:Heap) (next_:Int->Heap->Prop):Prop:=
 PIf (t6<(IntKind.wrap .i64 (1*2 ^ min (Int.toNat t5) (IntKind.bits .i64))))
 (J65_3 P R h do_ h_3 t4 t6 next_ h_5)
 (J65_2 R h_5)
def J65_1  (P:Program) (R:Value->Heap->Prop) (h:Heap) (do_:Value) (h_3:Heap):Prop:=
 ∃ (t4:Int),cellH h_3 (Addr.add ⟨h.size,0,none⟩ 0)=some (.int .i64 t4)/\0≤t4/\t4≤t4/\(1:Int)*t4≤281474976710656/\let h_4:Heap:=(h_3).push (.cells (zeroRow #[.bool false] (Int.toNat t4*1)).toArray 4);∃ (t5:Int),cellH h_4 (Addr.add ⟨h.size,0,none⟩ 0)=some (.int .i64 t5)/\0≤t5/\LoopT (σ:=Int) (fun st_ h_st nx_st=>B65_10 P R h do_ h_3 t4 t5 (st_) h_st nx_st) (0) h_4
def J65_0  (P:Program) (R:Value->Heap->Prop) (h:Heap) (do_:Value) (h_2:Heap):Prop:=
 ∃ (t3:Int),cellH h_2 (Addr.add ⟨h.size,0,none⟩ 0)=some (.int .i64 t3)/\PIf ((16:Int)<t3)
 (R (.int .i64 6) h_2)
 (J65_1 P R h do_ h_2)
def VC65 (P:Program) (f:Int) (fA:Option Addr) (fN fC:Nat) (do_:Value) (R:Value->Heap->Prop) (h:Heap):Prop:=
 let h_:Heap:=(h).push (.cells (Value.cells (.agg #[.int .i64 f,.slice fA fN fC])) 24);∃ (t:Int) (A:Option Addr) (N C:Nat),cellsH h_ ⟨h.size,0,none⟩ 0 [.int .i64 t,.slice A N C]/\CallsH P 34 #[(.agg #[.int .i64 t,.slice A N C])] h_ fun v h_1=>
 ∃ (t1 t2:Int),v=(.tuple #[.int .i64 t1,.int .i64 t2])/\PIf (t2=0)
 (J65_0 P R h do_ h_1)
 (R (.int .i64 t2) h_1)
theorem vc65 (P:Program) (f:Int) (fA:Option Addr) (fN fC:Nat) (do_:Value) (R:Value->Heap->Prop) (h:Heap):fnC P ret65 code65 [(.agg #[.int .i64 f,.slice fA fN fC]),do_] h R=VC65 P f fA fN fC do_ R h:=by kernel_rfl
theorem run65 (f:Int) (fA:Option Addr) (fN fC:Nat) (do_:Value) (R:Value->Heap->Prop) (h:Heap) (hv:VC65 Tryz.prog f fA fN fC do_ R h):CallsH Tryz.prog 65 #[(.agg #[.int .i64 f,.slice fA fN fC]),do_] h R:=calls_of_fnC (Checked.mixed Tryz.checked) Tryz.func65 comp65 (Nat.le_of_ble_eq_true rfl) (by rw [vc65];exact hv)
def loops66:List (List (Nat×Shp)):=[]
noncomputable def code66:SCode:=((compF Tryz.prog Tryz.f66 loops66).elim .skip fun x=>x.2.2)
def ret66:List RV:=[.tmp 3]
theorem comp66:compF Tryz.prog Tryz.f66 loops66=some (6,ret66,code66):=by kernel_rfl
def VC66 (P:Program) (A:Option Addr) (N C:Nat) (t:Option Addr) (R:Value->Heap->Prop) (h:Heap):Prop:=
 AtP t fun ad=>∃ (t1:Int),cellH h ad=some (.int .i64 t1)/\AtP t fun ad1=>StoreH h ad1 [(.int .i64 (IntKind.wrap .i64 (t1+1)))] fun h_=>R (.bool true) h_
theorem vc66 (P:Program) (A:Option Addr) (N C:Nat) (t:Option Addr) (R:Value->Heap->Prop) (h:Heap):fnC P ret66 code66 [.slice A N C,.pointer t] h R=VC66 P A N C t R h:=by kernel_rfl
theorem run66 (A:Option Addr) (N C:Nat) (t:Option Addr) (R:Value->Heap->Prop) (h:Heap) (hv:VC66 Tryz.prog A N C t R h):CallsH Tryz.prog 66 #[.slice A N C,.pointer t] h R:=calls_of_fnC (Checked.mixed Tryz.checked) Tryz.func66 comp66 (Nat.le_of_ble_eq_true rfl) (by rw [vc66];exact hv)
def loops67:List (List (Nat×Shp)):=[[(4,.int .i64),(5,.slice),(6,.int .i64)]]
noncomputable def code67:SCode:=((compF Tryz.prog Tryz.f67 loops67).elim .skip fun x=>x.2.2)
def ret67:List RV:=[.tmp 2,.tmp 3]
theorem comp67:compF Tryz.prog Tryz.f67 loops67=some (31,ret67,code67):=by kernel_rfl
def J67_1  (P:Program) (h:Heap) (many:Int) (firstA:(Option Addr)) (firstN firstC:Nat) (n:Int) (next_:(Int×(Option Addr×Nat×Nat)×Int->Heap->Prop)) (h_3:Heap):Prop:=
 ∃ (t2:Int),cellH h_3 (Addr.add ⟨h.size,0,none⟩ 0)=some (.int .i64 t2)/\CallsH P 105 #[.int .i64 n,.int .i64 t2] h_3 fun v1 h_4=>
 ∃ (A:Option Addr) (N C:Nat),v1=(.slice A N C)/\∃ (t3:Int) (A1:Option Addr) (N1 C1:Nat),cellsH h_4 ⟨h.size,0,none⟩ 0 [.int .i64 t3,.slice A1 N1 C1]/\CallsH P 64 #[(.agg #[.int .i64 t3,.slice A1 N1 C1]),.slice A N C] h_4 fun v2 h_5=>
 ∃ (t4:Int),v2=(.int .i64 t4)/\PIf (t4<0)
 (PIf (many=0)
 (next_ ((IntKind.wrap .i64 (many+1)),(A,N,C),(IntKind.wrap .i64 (n+1))) h_5)
 (next_ ((IntKind.wrap .i64 (many+1)),(firstA,firstN,firstC),(IntKind.wrap .i64 (n+1))) h_5))
 (next_ (many,(firstA,firstN,firstC),(IntKind.wrap .i64 (n+1))) h_5)
def J67_0  (R:Value->Heap->Prop) (many1:Int) (firstA1:Option Addr) (firstN1 firstC1:Nat) (h_6:Heap):Prop:=
 R (.tuple #[.int .i64 many1,.slice firstA1 firstN1 firstC1]) h_6
def B67_2 (P:Program) (R:Value->Heap->Prop) (h:Heap) (many:Int) (firstA:Option Addr) (firstN firstC:Nat) (n:Int) (h_1:Heap) (next_:Int×(Option Addr×Nat×Nat)×Int->Heap->Prop):Prop:=
 ∃ (t:Int),cellH h_1 (Addr.add ⟨h.size,0,none⟩ 0)=some (.int .i64 t)/\CallsH P 104 #[.int .i64 t] h_1 fun v h_2=>
 ∃ (t1:Int),v=(.int .u64 t1)/\PIf (n<(IntKind.wrap .i64 t1))
 (J67_1 P h many firstA firstN firstC n next_ h_2)
 (J67_0 R (many) (firstA) (firstN) (firstC) h_2)
def VC67 (P:Program) (f:Int) (fA:Option Addr) (fN fC:Nat) (R:Value->Heap->Prop) (h:Heap):Prop:=
 let h_:Heap:=(h).push (.cells (Value.cells (.agg #[.int .i64 f,.slice fA fN fC])) 24);LoopT (σ:=Int×(Option Addr×Nat×Nat)×Int) (fun st_ h_st nx_st=>B67_2 P R h (st_.1) (st_.2.1.1) (st_.2.1.2.1) (st_.2.1.2.2) (st_.2.2) h_st nx_st) (0,(none,0,0),0) h_
theorem vc67 (P:Program) (f:Int) (fA:Option Addr) (fN fC:Nat) (R:Value->Heap->Prop) (h:Heap):fnC P ret67 code67 [(.agg #[.int .i64 f,.slice fA fN fC])] h R=VC67 P f fA fN fC R h:=by kernel_rfl
theorem run67 (f:Int) (fA:Option Addr) (fN fC:Nat) (R:Value->Heap->Prop) (h:Heap) (hv:VC67 Tryz.prog f fA fN fC R h):CallsH Tryz.prog 67 #[(.agg #[.int .i64 f,.slice fA fN fC])] h R:=calls_of_fnC (Checked.mixed Tryz.checked) Tryz.func67 comp67 (Nat.le_of_ble_eq_true rfl) (by rw [vc67];exact hv)
def loops68:List (List (Nat×Shp)):=[]
noncomputable def code68:SCode:=((compF Tryz.prog Tryz.f68 loops68).elim .skip fun x=>x.2.2)
def ret68:List RV:=[.tmp 4]
theorem comp68:compF Tryz.prog Tryz.f68 loops68=some (7,ret68,code68):=by kernel_rfl
def VC68 (P:Program) (mA:Option Addr) (mN mC:Nat) (t t1:Option Addr) (R:Value->Heap->Prop) (h:Heap):Prop:=
 CallsH P 69 #[.slice mA mN mC] h fun v h_=>
 ∃ (A:Option Addr) (N C:Nat),v=(.slice A N C)/\AtP t fun ad=>StoreH h_ ad [.slice A N C] fun h_1=>AtP t1 fun ad1=>StoreH h_1 ad1 [.bool true] fun h_2=>R (.bool false) h_2
theorem vc68 (P:Program) (mA:Option Addr) (mN mC:Nat) (t t1:Option Addr) (R:Value->Heap->Prop) (h:Heap):fnC P ret68 code68 [.slice mA mN mC,.pointer t,.pointer t1] h R=VC68 P mA mN mC t t1 R h:=by kernel_rfl
theorem run68 (mA:Option Addr) (mN mC:Nat) (t t1:Option Addr) (R:Value->Heap->Prop) (h:Heap) (hv:VC68 Tryz.prog mA mN mC t t1 R h):CallsH Tryz.prog 68 #[.slice mA mN mC,.pointer t,.pointer t1] h R:=calls_of_fnC (Checked.mixed Tryz.checked) Tryz.func68 comp68 (Nat.le_of_ble_eq_true rfl) (by rw [vc68];exact hv)
def loops69:List (List (Nat×Shp)):=[]
noncomputable def code69:SCode:=((compF Tryz.prog Tryz.f69 loops69).elim .skip fun x=>x.2.2)
def ret69:List RV:=[.tmp 2]
theorem comp69:compF Tryz.prog Tryz.f69 loops69=some (8,ret69,code69):=by kernel_rfl
def VC69 (P:Program) (sA:Option Addr) (sN sC:Nat) (R:Value->Heap->Prop) (h:Heap):Prop:=
 PIf ((sA:Option Addr)=none)
 (R (.slice none 0 0) h)
 (let h_:Heap:=(h).push (.cells #[] 4);∃ ys:List Value,ReadL h_ sA ys/\ys.length=sN*1/\AppS h_ (some ⟨h.size,0,none⟩) 0 0 4 1 1 #[.bool false] ys sN fun apA apN apC h_1=>R (.slice apA apN apC) h_1)
theorem vc69 (P:Program) (sA:Option Addr) (sN sC:Nat) (R:Value->Heap->Prop) (h:Heap):fnC P ret69 code69 [.slice sA sN sC] h R=VC69 P sA sN sC R h:=by kernel_rfl
theorem run69 (sA:Option Addr) (sN sC:Nat) (R:Value->Heap->Prop) (h:Heap) (hv:VC69 Tryz.prog sA sN sC R h):CallsH Tryz.prog 69 #[.slice sA sN sC] h R:=calls_of_fnC (Checked.mixed Tryz.checked) Tryz.func69 comp69 (Nat.le_of_ble_eq_true rfl) (by rw [vc69];exact hv)
def loops100:List (List (Nat×Shp)):=[[(8,.int .i64)]]
noncomputable def code100:SCode:=((compF Tryz.prog Tryz.f100 loops100).elim .skip fun x=>x.2.2)
def ret100:List RV:=[.tmp 4]
theorem comp100:compF Tryz.prog Tryz.f100 loops100=some (19,ret100,code100):=by kernel_rfl
def J100_1  (P:Program) (R:Value->Heap->Prop) (sA:(Option Addr)) (sN:Nat) (f:Value) (t:Int) (next_:(Int->Heap->Prop)) (h_1:Heap):Prop:=
 0≤t/\t<(sN:Nat)/\AtP sA fun ad=>∃ (A:Option Addr) (N C:Nat),cellH h_1 (Addr.add ad (Int.toNat t*1))=some (.slice A N C)/\CallV P f [.slice A N C] h_1 fun v h_2=>
 ∃ (t1:Bool),v=(.bool t1)/\BIf t1 (R (.int .i64 t) h_2) (next_ (IntKind.wrap .i64 (t+1)) h_2)
def J100_0  (R:Value->Heap->Prop) (h_3:Heap):Prop:=
 R (.int .i64 (-1)) h_3
def B100_3 (P:Program) (R:Value->Heap->Prop) (sA:(Option Addr)) (sN:Nat) (f:Value) (t:Int) (h_:Heap) (next_:Int->Heap->Prop):Prop:=
 PIf (t<((sN:Nat):Int))
 (J100_1 P R sA sN f t next_ h_)
 (J100_0 R h_)
def VC100 (P:Program) (sA:Option Addr) (sN sC:Nat) (f:Value) (R:Value->Heap->Prop) (h:Heap):Prop:=
 LoopT (σ:=Int) (fun st_ h_st nx_st=>B100_3 P R sA sN f (st_) h_st nx_st) (0) h
theorem vc100 (P:Program) (sA:Option Addr) (sN sC:Nat) (f:Value) (R:Value->Heap->Prop) (h:Heap):fnC P ret100 code100 [.slice sA sN sC,f] h R=VC100 P sA sN sC f R h:=by kernel_rfl
theorem run100 (sA:Option Addr) (sN sC:Nat) (f:Value) (R:Value->Heap->Prop) (h:Heap) (hv:VC100 Tryz.prog sA sN sC f R h):CallsH Tryz.prog 100 #[.slice sA sN sC,f] h R:=calls_of_fnC (Checked.mixed Tryz.checked) Tryz.func100 comp100 (Nat.le_of_ble_eq_true rfl) (by rw [vc100];exact hv)
def loops101:List (List (Nat×Shp)):=[]
noncomputable def code101:SCode:=((compF Tryz.prog Tryz.f101 loops101).elim .skip fun x=>x.2.2)
def ret101:List RV:=[.tmp 3]
theorem comp101:compF Tryz.prog Tryz.f101 loops101=some (8,ret101,code101):=by kernel_rfl
def VC101 (P:Program) (cA:Option Addr) (cN cC:Nat) (t:Option Addr) (R:Value->Heap->Prop) (h:Heap):Prop:=
 AtP t fun ad=>∃ (A:Option Addr) (N C:Nat),cellH h ad=some (.slice A N C)/\CallsH P 102 #[.slice cA cN cC,.slice A N C] h fun v h_=>
 ∃ (t1:Bool),v=(.bool t1)/\R (.bool (!t1)) h_
theorem vc101 (P:Program) (cA:Option Addr) (cN cC:Nat) (t:Option Addr) (R:Value->Heap->Prop) (h:Heap):fnC P ret101 code101 [.slice cA cN cC,.pointer t] h R=VC101 P cA cN cC t R h:=by kernel_rfl
theorem run101 (cA:Option Addr) (cN cC:Nat) (t:Option Addr) (R:Value->Heap->Prop) (h:Heap) (hv:VC101 Tryz.prog cA cN cC t R h):CallsH Tryz.prog 101 #[.slice cA cN cC,.pointer t] h R:=calls_of_fnC (Checked.mixed Tryz.checked) Tryz.func101 comp101 (Nat.le_of_ble_eq_true rfl) (by rw [vc101];exact hv)
def loops102:List (List (Nat×Shp)):=[]
noncomputable def code102:SCode:=((compF Tryz.prog Tryz.f102 loops102).elim .skip fun x=>x.2.2)
def ret102:List RV:=[.tmp 4]
theorem comp102:compF Tryz.prog Tryz.f102 loops102=some (8,ret102,code102):=by kernel_rfl
def VC102 (P:Program) (cA:Option Addr) (cN cC:Nat) (modelA:Option Addr) (modelN modelC:Nat) (R:Value->Heap->Prop) (h:Heap):Prop:=
 let h_:Heap:=(h).push (.cells #[.slice modelA modelN modelC] 42);CallsH P 132 #[.slice cA cN cC,(.func (.func 133) #[] #[(.pointer (some ⟨h.size,0,none⟩))])] h_ fun v h_1=>
 ∃ (t:Bool),v=(.bool t)/\R (.bool t) h_1
theorem vc102 (P:Program) (cA:Option Addr) (cN cC:Nat) (modelA:Option Addr) (modelN modelC:Nat) (R:Value->Heap->Prop) (h:Heap):fnC P ret102 code102 [.slice cA cN cC,.slice modelA modelN modelC] h R=VC102 P cA cN cC modelA modelN modelC R h:=by kernel_rfl
theorem run102 (cA:Option Addr) (cN cC:Nat) (modelA:Option Addr) (modelN modelC:Nat) (R:Value->Heap->Prop) (h:Heap) (hv:VC102 Tryz.prog cA cN cC modelA modelN modelC R h):CallsH Tryz.prog 102 #[.slice cA cN cC,.slice modelA modelN modelC] h R:=calls_of_fnC (Checked.mixed Tryz.checked) Tryz.func102 comp102 (Nat.le_of_ble_eq_true rfl) (by rw [vc102];exact hv)
def loops103:List (List (Nat×Shp)):=[[(5,.int .i64)]]
noncomputable def code103:SCode:=((compF Tryz.prog Tryz.f103 loops103).elim .skip fun x=>x.2.2)
def ret103:List RV:=[.tmp 4]
theorem comp103:compF Tryz.prog Tryz.f103 loops103=some (27,ret103,code103):=by kernel_rfl
def J103_1  (P:Program) (R:Value->Heap->Prop) (cA:(Option Addr)) (cN:Nat) (modelA:(Option Addr)) (modelN:Nat) (i:Int) (next_:(Int->Heap->Prop)) (h_1:Heap):Prop:=
 0≤i/\i<(cN:Nat)/\AtP cA fun ad=>(Addr.block (Addr.add ad (Int.toNat i*1)))<(h_1).size/\∃ (t:Int),cellH h_1 (Addr.add ad (Int.toNat i*1))=some (.int .i64 t)/\CallsH P 99 #[.int .i64 t] h_1 fun v h_2=>
 ∃ (t1:Int),v=(.int .i64 t1)/\AgreeH (h_1).size h_1 h_2/\0≤((IntKind.wrap .i64 (t1-1)):Int)/\((IntKind.wrap .i64 (t1-1)):Int)<(modelN:Nat)/\AtP modelA fun ad1=>(Addr.block (Addr.add ad1 (Int.toNat (IntKind.wrap .i64 (t1-1))*1)))<(h_1).size/\∃ (t2:Bool),cellH h_2 (Addr.add ad1 (Int.toNat (IntKind.wrap .i64 (t1-1))*1))=some (.bool t2)/\0≤i/\i<(cN:Nat)/\AtP cA fun ad2=>(Addr.block (Addr.add ad2 (Int.toNat i*1)))<(h_1).size/\∃ (t3:Int),cellH h_2 (Addr.add ad2 (Int.toNat i*1))=some (.int .i64 t3)/\PIf ((0:Int)<t3)
 (PIf ((t2:Bool)=true)
 (R (.bool true) h_2)
 (next_ (IntKind.wrap .i64 (i+1)) h_2))
 (PIf ((t2:Bool)=false)
 (R (.bool true) h_2)
 (next_ (IntKind.wrap .i64 (i+1)) h_2))
def J103_0  (R:Value->Heap->Prop) (h_3:Heap):Prop:=
 R (.bool false) h_3
def B103_2 (P:Program) (R:Value->Heap->Prop) (cA:(Option Addr)) (cN:Nat) (modelA:(Option Addr)) (modelN:Nat) (i:Int) (h_:Heap) (next_:Int->Heap->Prop):Prop:=
 PIf (i<((cN:Nat):Int))
 (J103_1 P R cA cN modelA modelN i next_ h_)
 (J103_0 R h_)
def VC103 (P:Program) (cA:Option Addr) (cN cC:Nat) (modelA:Option Addr) (modelN modelC:Nat) (R:Value->Heap->Prop) (h:Heap):Prop:=
 LoopT (σ:=Int) (fun st_ h_st nx_st=>B103_2 P R cA cN modelA modelN (st_) h_st nx_st) (0) h
theorem vc103 (P:Program) (cA:Option Addr) (cN cC:Nat) (modelA:Option Addr) (modelN modelC:Nat) (R:Value->Heap->Prop) (h:Heap):fnC P ret103 code103 [.slice cA cN cC,.slice modelA modelN modelC] h R=VC103 P cA cN cC modelA modelN modelC R h:=by kernel_rfl
theorem run103 (cA:Option Addr) (cN cC:Nat) (modelA:Option Addr) (modelN modelC:Nat) (R:Value->Heap->Prop) (h:Heap) (hv:VC103 Tryz.prog cA cN cC modelA modelN modelC R h):CallsH Tryz.prog 103 #[.slice cA cN cC,.slice modelA modelN modelC] h R:=calls_of_fnC (Checked.mixed Tryz.checked) Tryz.func103 comp103 (Nat.le_of_ble_eq_true rfl) (by rw [vc103];exact hv)
def loops104:List (List (Nat×Shp)):=[[(3,.int .u64),(4,.int .i64)]]
noncomputable def code104:SCode:=((compF Tryz.prog Tryz.f104 loops104).elim .skip fun x=>x.2.2)
def ret104:List RV:=[.tmp 2]
theorem comp104:compF Tryz.prog Tryz.f104 loops104=some (13,ret104,code104):=by kernel_rfl
def J104_0  (R:Value->Heap->Prop) (out1:Int) (h_1:Heap):Prop:=
 R (.int .u64 out1) h_1
def B104_1 (R:Value->Heap->Prop) (n out i:Int) (h_:Heap) (next_:Int×Int->Heap->Prop):Prop:=
 PIf (i<n)
 (next_ ((IntKind.wrap .u64 (out*2)),(IntKind.wrap .i64 (i+1))) h_)
 (J104_0 R (out) h_)
def VC104 (P:Program) (n:Int) (R:Value->Heap->Prop) (h:Heap):Prop:=
 LoopT (σ:=Int×Int) (fun st_ h_st nx_st=>B104_1 R n (st_.1) (st_.2) h_st nx_st) (1,0) h
theorem vc104 (P:Program) (n:Int) (R:Value->Heap->Prop) (h:Heap):fnC P ret104 code104 [.int .i64 n] h R=VC104 P n R h:=by kernel_rfl
theorem run104 (n:Int) (R:Value->Heap->Prop) (h:Heap) (hv:VC104 Tryz.prog n R h):CallsH Tryz.prog 104 #[.int .i64 n] h R:=calls_of_fnC (Checked.mixed Tryz.checked) Tryz.func104 comp104 (Nat.le_of_ble_eq_true rfl) (by rw [vc104];exact hv)
def loops105:List (List (Nat×Shp)):=[[(7,.int .i64)]]
noncomputable def code105:SCode:=((compF Tryz.prog Tryz.f105 loops105).elim .skip fun x=>x.2.2)
def ret105:List RV:=[.tmp 4]
theorem comp105:compF Tryz.prog Tryz.f105 loops105=some (29,ret105,code105):=by kernel_rfl
def J105_1  (vars:Int) (A:(Option Addr)) (N:Nat) (h_:Heap) (i:Int) (next_:(Int->Heap->Prop)) (h_3:Heap):Prop:=
 0≤((IntKind.wrap .i64 ((IntKind.wrap .i64 (vars-1))-i)):Int)/\((IntKind.wrap .i64 ((IntKind.wrap .i64 (vars-1))-i)):Int)<(N:Nat)/\AtP A fun ad=>∃ (t:Bool),cellH h_3 (Addr.add ad (Int.toNat (IntKind.wrap .i64 ((IntKind.wrap .i64 (vars-1))-i))*1))=some (.bool t)/\0≤i/\i<((Int.toNat vars):Nat)/\StoreH h_3 (Addr.add ⟨h_.size,0,none⟩ (Int.toNat i*1)) [.bool t] fun h_4=>next_ (IntKind.wrap .i64 (i+1)) h_4
def J105_0  (R:Value->Heap->Prop) (vars:Int) (h_ h_5:Heap):Prop:=
 R (.slice (some ⟨h_.size,0,none⟩) (Int.toNat vars) (Int.toNat vars)) h_5
def B105_2 (R:Value->Heap->Prop) (vars:Int) (A:(Option Addr)) (N:Nat) (h_:Heap) (i:Int) (h_2:Heap) (next_:Int->Heap->Prop):Prop:=
 PIf (i<vars)
 (J105_1 vars A N h_ i next_ h_2)
 (J105_0 R vars h_ h_2)
def VC105 (P:Program) (n vars:Int) (R:Value->Heap->Prop) (h:Heap):Prop:=
 CallsH P 134 #[.int .i64 n,.int .i64 vars] h fun v h_=>
 ∃ (A:Option Addr) (N C:Nat),v=(.slice A N C)/\0≤vars/\vars≤vars/\(1:Int)*vars≤281474976710656/\let h_1:Heap:=(h_).push (.cells (zeroRow #[.bool false] (Int.toNat vars*1)).toArray 4);LoopT (σ:=Int) (fun st_ h_st nx_st=>B105_2 R vars A N h_ (st_) h_st nx_st) (0) h_1
theorem vc105 (P:Program) (n vars:Int) (R:Value->Heap->Prop) (h:Heap):fnC P ret105 code105 [.int .i64 n,.int .i64 vars] h R=VC105 P n vars R h:=by kernel_rfl
theorem run105 (n vars:Int) (R:Value->Heap->Prop) (h:Heap) (hv:VC105 Tryz.prog n vars R h):CallsH Tryz.prog 105 #[.int .i64 n,.int .i64 vars] h R:=calls_of_fnC (Checked.mixed Tryz.checked) Tryz.func105 comp105 (Nat.le_of_ble_eq_true rfl) (by rw [vc105];exact hv)
def loops132:List (List (Nat×Shp)):=[]
noncomputable def code132:SCode:=((compF Tryz.prog Tryz.f132 loops132).elim .skip fun x=>x.2.2)
def ret132:List RV:=[.tmp 4]
theorem comp132:compF Tryz.prog Tryz.f132 loops132=some (9,ret132,code132):=by kernel_rfl
def VC132 (P:Program) (sA:Option Addr) (sN sC:Nat) (f:Value) (R:Value->Heap->Prop) (h:Heap):Prop:=
 CallsH P 156 #[.slice sA sN sC,f] h fun v h_=>
 ∃ (t:Int),v=(.int .i64 t)/\PIf ((0:Int)≤t)
 (R (.bool true) h_)
 (R (.bool false) h_)
theorem vc132 (P:Program) (sA:Option Addr) (sN sC:Nat) (f:Value) (R:Value->Heap->Prop) (h:Heap):fnC P ret132 code132 [.slice sA sN sC,f] h R=VC132 P sA sN sC f R h:=by kernel_rfl
theorem run132 (sA:Option Addr) (sN sC:Nat) (f:Value) (R:Value->Heap->Prop) (h:Heap) (hv:VC132 Tryz.prog sA sN sC f R h):CallsH Tryz.prog 132 #[.slice sA sN sC,f] h R:=calls_of_fnC (Checked.mixed Tryz.checked) Tryz.func132 comp132 (Nat.le_of_ble_eq_true rfl) (by rw [vc132];exact hv)
def loops133:List (List (Nat×Shp)):=[]
noncomputable def code133:SCode:=((compF Tryz.prog Tryz.f133 loops133).elim .skip fun x=>x.2.2)
def ret133:List RV:=[.tmp 3]
theorem comp133:compF Tryz.prog Tryz.f133 loops133=some (18,ret133,code133):=by kernel_rfl
def J133_0  (R:Value->Heap->Prop) (x:Int) (t:(Option Addr)) (h_:Heap):Prop:=
 AtP t fun ad2=>∃ (A1:Option Addr) (N1 C1:Nat),cellH h_ ad2=some (.slice A1 N1 C1)/\0≤((IntKind.wrap .i64 (x-1)):Int)/\((IntKind.wrap .i64 (x-1)):Int)<(N1:Nat)/\AtP A1 fun ad3=>∃ (t2:Bool),cellH h_ (Addr.add ad3 (Int.toNat (IntKind.wrap .i64 (x-1))*1))=some (.bool t2)/\R (.bool t2) h_
def VC133 (P:Program) (x:Int) (t:Option Addr) (R:Value->Heap->Prop) (h:Heap):Prop:=
 PIf (x<0)
 (AtP t fun ad=>∃ (A:Option Addr) (N C:Nat),cellH h ad=some (.slice A N C)/\0≤((IntKind.wrap .i64 ((IntKind.wrap .i64 (0-x))-1)):Int)/\((IntKind.wrap .i64 ((IntKind.wrap .i64 (0-x))-1)):Int)<(N:Nat)/\AtP A fun ad1=>∃ (t1:Bool),cellH h (Addr.add ad1 (Int.toNat (IntKind.wrap .i64 ((IntKind.wrap .i64 (0-x))-1))*1))=some (.bool t1)/\R (.bool (!t1)) h)
 (J133_0 R x t h)
theorem vc133 (P:Program) (x:Int) (t:Option Addr) (R:Value->Heap->Prop) (h:Heap):fnC P ret133 code133 [.int .i64 x,.pointer t] h R=VC133 P x t R h:=by kernel_rfl
theorem run133 (x:Int) (t:Option Addr) (R:Value->Heap->Prop) (h:Heap) (hv:VC133 Tryz.prog x t R h):CallsH Tryz.prog 133 #[.int .i64 x,.pointer t] h R:=calls_of_fnC (Checked.mixed Tryz.checked) Tryz.func133 comp133 (Nat.le_of_ble_eq_true rfl) (by rw [vc133];exact hv)
def loops134:List (List (Nat×Shp)):=[[(0,.int .i64),(6,.int .i64)]]
noncomputable def code134:SCode:=((compF Tryz.prog Tryz.f134 loops134).elim .skip fun x=>x.2.2)
def ret134:List RV:=[.tmp 4]
theorem comp134:compF Tryz.prog Tryz.f134 loops134=some (23,ret134,code134):=by kernel_rfl
def J134_1  (h:Heap) (n index1 i:Int) (next_:(Int×Int->Heap->Prop)) (h_2:Heap):Prop:=
 PIf (((Int.tmod index1 2):Int)=1)
 (0≤i/\i<((Int.toNat n):Nat)/\StoreH h_2 (Addr.add ⟨h.size,0,none⟩ (Int.toNat i*1)) [.bool true] fun h_3=>next_ ((IntKind.wrap .i64 (Int.tdiv index1 2)),(IntKind.wrap .i64 (i+1))) h_3)
 (0≤i/\i<((Int.toNat n):Nat)/\StoreH h_2 (Addr.add ⟨h.size,0,none⟩ (Int.toNat i*1)) [.bool false] fun h_4=>next_ ((IntKind.wrap .i64 (Int.tdiv index1 2)),(IntKind.wrap .i64 (i+1))) h_4)
def J134_0  (R:Value->Heap->Prop) (h:Heap) (n:Int) (h_5:Heap):Prop:=
 R (.slice (some ⟨h.size,0,none⟩) (Int.toNat n) (Int.toNat n)) h_5
def B134_2 (R:Value->Heap->Prop) (h:Heap) (n index1 i:Int) (h_1:Heap) (next_:Int×Int->Heap->Prop):Prop:=
 PIf (i<n)
 (J134_1 h n index1 i next_ h_1)
 (J134_0 R h n h_1)
def VC134 (P:Program) (index n:Int) (R:Value->Heap->Prop) (h:Heap):Prop:=
 0≤n/\n≤n/\(1:Int)*n≤281474976710656/\let h_:Heap:=(h).push (.cells (zeroRow #[.bool false] (Int.toNat n*1)).toArray 4);LoopT (σ:=Int×Int) (fun st_ h_st nx_st=>B134_2 R h n (st_.1) (st_.2) h_st nx_st) (index,0) h_
theorem vc134 (P:Program) (index n:Int) (R:Value->Heap->Prop) (h:Heap):fnC P ret134 code134 [.int .i64 index,.int .i64 n] h R=VC134 P index n R h:=by kernel_rfl
theorem run134 (index n:Int) (R:Value->Heap->Prop) (h:Heap) (hv:VC134 Tryz.prog index n R h):CallsH Tryz.prog 134 #[.int .i64 index,.int .i64 n] h R:=calls_of_fnC (Checked.mixed Tryz.checked) Tryz.func134 comp134 (Nat.le_of_ble_eq_true rfl) (by rw [vc134];exact hv)
def loops156:List (List (Nat×Shp)):=[[(8,.int .i64)]]
noncomputable def code156:SCode:=((compF Tryz.prog Tryz.f156 loops156).elim .skip fun x=>x.2.2)
def ret156:List RV:=[.tmp 4]
theorem comp156:compF Tryz.prog Tryz.f156 loops156=some (19,ret156,code156):=by kernel_rfl
def J156_1  (P:Program) (R:Value->Heap->Prop) (sA:(Option Addr)) (sN:Nat) (f:Value) (t:Int) (next_:(Int->Heap->Prop)) (h_1:Heap):Prop:=
 0≤t/\t<(sN:Nat)/\AtP sA fun ad=>∃ (t1:Int),cellH h_1 (Addr.add ad (Int.toNat t*1))=some (.int .i64 t1)/\CallV P f [.int .i64 t1] h_1 fun v h_2=>
 ∃ (t2:Bool),v=(.bool t2)/\BIf t2 (R (.int .i64 t) h_2) (next_ (IntKind.wrap .i64 (t+1)) h_2)
def J156_0  (R:Value->Heap->Prop) (h_3:Heap):Prop:=
 R (.int .i64 (-1)) h_3
def B156_3 (P:Program) (R:Value->Heap->Prop) (sA:(Option Addr)) (sN:Nat) (f:Value) (t:Int) (h_:Heap) (next_:Int->Heap->Prop):Prop:=
 PIf (t<((sN:Nat):Int))
 (J156_1 P R sA sN f t next_ h_)
 (J156_0 R h_)
def VC156 (P:Program) (sA:Option Addr) (sN sC:Nat) (f:Value) (R:Value->Heap->Prop) (h:Heap):Prop:=
 LoopT (σ:=Int) (fun st_ h_st nx_st=>B156_3 P R sA sN f (st_) h_st nx_st) (0) h
theorem vc156 (P:Program) (sA:Option Addr) (sN sC:Nat) (f:Value) (R:Value->Heap->Prop) (h:Heap):fnC P ret156 code156 [.slice sA sN sC,f] h R=VC156 P sA sN sC f R h:=by kernel_rfl
theorem run156 (sA:Option Addr) (sN sC:Nat) (f:Value) (R:Value->Heap->Prop) (h:Heap) (hv:VC156 Tryz.prog sA sN sC f R h):CallsH Tryz.prog 156 #[.slice sA sN sC,f] h R:=calls_of_fnC (Checked.mixed Tryz.checked) Tryz.func156 comp156 (Nat.le_of_ble_eq_true rfl) (by rw [vc156];exact hv)
end Go.Proofs.YtobageabpfkpcaaGreatDoor
