/- Words and facts that the claim's proof leans on. No condition. -/
import Derived.Test.YtobageabpfkpcaaHxV
import Derived.Test.YtobageabpfkpcaaChecked
set_option maxRecDepth 100000
set_option linter.unusedVariables false
namespace Go.Proofs.Ytobageabpfkpcaa
open Go.Hx
def loops18:List (List (Nat×Shp)):=[[(10,.int .i64)]]
noncomputable def code18:SCode:=((compF Try.prog Try.f18 loops18).elim .skip fun x=>x.2.2)
def ret18:List RV:=[.tmp 2]
theorem comp18:compF Try.prog Try.f18 loops18=some (25,ret18,code18):=by kernel_rfl
def J18_2  (R:Value->Heap->Prop) (cA:(Option Addr)) (cN:Nat) (t:Int) (next_:(Int->Heap->Prop)) (h_2:Heap):Prop:=
 0≤t/\t<(cN:Nat)/\AtP cA fun ad=>∃ (t1:Int),cellH h_2 (Addr.add ad (Int.toNat t*1))=some (.int .i64 t1)/\PIf (t1=0)
 (R (.int .i64 141) h_2)
 (PIf (t1<(-262144))
 (R (.int .i64 141) h_2)
 (PIf ((262144:Int)<t1)
 (R (.int .i64 141) h_2)
 (next_ (IntKind.wrap .i64 (t+1)) h_2)))
def J18_1  (R:Value->Heap->Prop) (h_3:Heap):Prop:=
 R (.int .i64 0) h_3
def B18_4 (R:Value->Heap->Prop) (cA:(Option Addr)) (cN:Nat) (t:Int) (h_1:Heap) (next_:Int->Heap->Prop):Prop:=
 PIf (t<((cN:Nat):Int))
 (J18_2 R cA cN t next_ h_1)
 (J18_1 R h_1)
def J18_0  (R:Value->Heap->Prop) (cA:(Option Addr)) (cN:Nat) (h_:Heap):Prop:=
 LoopT (σ:=Int) (fun st_ h_st nx_st=>B18_4 R cA cN (st_) h_st nx_st) (0) h_
def VC18 (P:Program) (cA:Option Addr) (cN cC:Nat) (R:Value->Heap->Prop) (h:Heap):Prop:=
 PIf ((16384:Int)<((cN:Nat):Int))
 (R (.int .i64 2) h)
 (J18_0 R cA cN h)
theorem vc18 (P:Program) (cA:Option Addr) (cN cC:Nat) (R:Value->Heap->Prop) (h:Heap):fnC P ret18 code18 [.slice cA cN cC] h R=VC18 P cA cN cC R h:=by kernel_rfl
theorem run18 (cA:Option Addr) (cN cC:Nat) (R:Value->Heap->Prop) (h:Heap) (hv:VC18 Try.prog cA cN cC R h):CallsH Try.prog 18 #[.slice cA cN cC] h R:=calls_of_fnC (Checked.mixed Try.checked) Try.func18 comp18 (Nat.le_of_ble_eq_true rfl) (by rw [vc18];exact hv)
def loops37:List (List (Nat×Shp)):=[[(11,.int .i64)]]
noncomputable def code37:SCode:=((compF Try.prog Try.f37 loops37).elim .skip fun x=>x.2.2)
def ret37:List RV:=[.tmp 2]
theorem comp37:compF Try.prog Try.f37 loops37=some (22,ret37,code37):=by kernel_rfl
def J37_2  (P:Program) (R:Value->Heap->Prop) (lA:(Option Addr)) (lN:Nat) (t:Int) (next_:(Int->Heap->Prop)) (h_2:Heap):Prop:=
 0≤t/\t<(lN:Nat)/\AtP lA fun ad=>∃ (t1:Bool) (A:Option Addr) (N C:Nat),cellsH h_2 (Addr.add ad (Int.toNat t*2)) 0 [.bool t1,.slice A N C]/\let h_3:Heap:=(h_2).push (.cells #[.bool false,.slice none 0 0] 39);StoreH h_3 ⟨h_2.size,0,none⟩ [.bool t1,.slice A N C] fun h_4=>∃ (A1:Option Addr) (N1 C1:Nat),cellH h_4 (Addr.add ⟨h_2.size,0,none⟩ 1)=some (.slice A1 N1 C1)/\CallsH P 18 #[.slice A1 N1 C1] h_4 fun v h_5=>
 ∃ (t2:Int),v=(.int .i64 t2)/\PIf (t2=0)
 (next_ (IntKind.wrap .i64 (t+1)) h_5)
 (R (.int .i64 t2) h_5)
def J37_1  (R:Value->Heap->Prop) (h_6:Heap):Prop:=
 R (.int .i64 0) h_6
def B37_4 (P:Program) (R:Value->Heap->Prop) (lA:(Option Addr)) (lN:Nat) (t:Int) (h_1:Heap) (next_:Int->Heap->Prop):Prop:=
 PIf (t<((lN:Nat):Int))
 (J37_2 P R lA lN t next_ h_1)
 (J37_1 R h_1)
def J37_0  (P:Program) (R:Value->Heap->Prop) (lA:(Option Addr)) (lN:Nat) (h_:Heap):Prop:=
 LoopT (σ:=Int) (fun st_ h_st nx_st=>B37_4 P R lA lN (st_) h_st nx_st) (0) h_
def VC37 (P:Program) (lA:Option Addr) (lN lC:Nat) (R:Value->Heap->Prop) (h:Heap):Prop:=
 PIf ((16384:Int)<((lN:Nat):Int))
 (R (.int .i64 2) h)
 (J37_0 P R lA lN h)
theorem vc37 (P:Program) (lA:Option Addr) (lN lC:Nat) (R:Value->Heap->Prop) (h:Heap):fnC P ret37 code37 [.slice lA lN lC] h R=VC37 P lA lN lC R h:=by kernel_rfl
theorem run37 (lA:Option Addr) (lN lC:Nat) (R:Value->Heap->Prop) (h:Heap) (hv:VC37 Try.prog lA lN lC R h):CallsH Try.prog 37 #[.slice lA lN lC] h R:=calls_of_fnC (Checked.mixed Try.checked) Try.func37 comp37 (Nat.le_of_ble_eq_true rfl) (by rw [vc37];exact hv)
def loops43:List (List (Nat×Shp)):=[[(0,.int .i64),(9,.int .i64)]]
noncomputable def code43:SCode:=((compF Try.prog Try.f43 loops43).elim .skip fun x=>x.2.2)
def ret43:List RV:=[.tmp 4]
theorem comp43:compF Try.prog Try.f43 loops43=some (20,ret43,code43):=by kernel_rfl
def J43_1  (cA:(Option Addr)) (cN:Nat) (n1 t:Int) (next_:(Int×Int->Heap->Prop)) (h_1:Heap):Prop:=
 0≤t/\t<(cN:Nat)/\AtP cA fun ad=>∃ (t1:Int),cellH h_1 (Addr.add ad (Int.toNat t*1))=some (.int .i64 t1)/\next_ ((max ((max (n1:Int) t1):Int) (IntKind.wrap .i64 (0-t1))),(IntKind.wrap .i64 (t+1))) h_1
def J43_0  (R:Value->Heap->Prop) (n2:Int) (h_2:Heap):Prop:=
 R (.int .i64 n2) h_2
def B43_3 (R:Value->Heap->Prop) (cA:(Option Addr)) (cN:Nat) (n1 t:Int) (h_:Heap) (next_:Int×Int->Heap->Prop):Prop:=
 PIf (t<((cN:Nat):Int))
 (J43_1 cA cN n1 t next_ h_)
 (J43_0 R (n1) h_)
def VC43 (P:Program) (n:Int) (cA:Option Addr) (cN cC:Nat) (R:Value->Heap->Prop) (h:Heap):Prop:=
 LoopT (σ:=Int×Int) (fun st_ h_st nx_st=>B43_3 R cA cN (st_.1) (st_.2) h_st nx_st) (n,0) h
theorem vc43 (P:Program) (n:Int) (cA:Option Addr) (cN cC:Nat) (R:Value->Heap->Prop) (h:Heap):fnC P ret43 code43 [.int .i64 n,.slice cA cN cC] h R=VC43 P n cA cN cC R h:=by kernel_rfl
theorem run43 (n:Int) (cA:Option Addr) (cN cC:Nat) (R:Value->Heap->Prop) (h:Heap) (hv:VC43 Try.prog n cA cN cC R h):CallsH Try.prog 43 #[.int .i64 n,.slice cA cN cC] h R:=calls_of_fnC (Checked.mixed Try.checked) Try.func43 comp43 (Nat.le_of_ble_eq_true rfl) (by rw [vc43];exact hv)
def loops38:List (List (Nat×Shp)):=[]
noncomputable def code38:SCode:=((compF Try.prog Try.f38 loops38).elim .skip fun x=>x.2.2)
def ret38:List RV:=[.tmp 2]
theorem comp38:compF Try.prog Try.f38 loops38=some (8,ret38,code38):=by kernel_rfl
def VC38 (P:Program) (sA:Option Addr) (sN sC:Nat) (R:Value->Heap->Prop) (h:Heap):Prop:=
 PIf ((sA:Option Addr)=none)
 (R (.slice none 0 0) h)
 (let h_:Heap:=(h).push (.cells #[] 26);∃ ys:List Value,ReadL h_ sA ys/\ys.length=sN*1/\AppS h_ (some ⟨h.size,0,none⟩) 0 0 26 24 1 #[.slice none 0 0] ys sN fun apA apN apC h_1=>R (.slice apA apN apC) h_1)
theorem vc38 (P:Program) (sA:Option Addr) (sN sC:Nat) (R:Value->Heap->Prop) (h:Heap):fnC P ret38 code38 [.slice sA sN sC] h R=VC38 P sA sN sC R h:=by kernel_rfl
theorem run38 (sA:Option Addr) (sN sC:Nat) (R:Value->Heap->Prop) (h:Heap) (hv:VC38 Try.prog sA sN sC R h):CallsH Try.prog 38 #[.slice sA sN sC] h R:=calls_of_fnC (Checked.mixed Try.checked) Try.func38 comp38 (Nat.le_of_ble_eq_true rfl) (by rw [vc38];exact hv)
def loops44:List (List (Nat×Shp)):=[[(35,.int .i64)]]
noncomputable def code44:SCode:=((compF Try.prog Try.f44 loops44).elim .skip fun x=>x.2.2)
def ret44:List RV:=[.tmp 4,.tmp 5]
theorem comp44:compF Try.prog Try.f44 loops44=some (55,ret44,code44):=by kernel_rfl
def J44_2  (litsA:(Option Addr)) (litsN b:Nat) (t4:Int) (next_:(Int->Heap->Prop)) (h_9:Heap):Prop:=
 0≤t4/\t4<(litsN:Nat)/\AtP litsA fun ad=>∃ (t5:Int),cellH h_9 (Addr.add ad (Int.toNat t4*1))=some (.int .i64 t5)/\∃ (A4:Option Addr) (N4 C4:Nat),cellH h_9 (Addr.add (Addr.mk b 0 none) 1)=some (.slice A4 N4 C4)/\let h_10:Heap:=(h_9).push (.cells #[.int .i64 t5] 3);let h_11:Heap:=(h_10).push (.cells #[(.slice (some ⟨h_9.size,0,none⟩) 1 1)] 26);∃ ys:List Value,ReadL h_11 (some ⟨h_10.size,0,none⟩) ys/\ys.length=1*1/\AppS h_11 A4 N4 C4 26 24 1 #[.slice none 0 0] ys 1 fun apA apN apC h_12=>StoreH h_12 (Addr.add (Addr.mk b 0 none) 1) [.slice apA apN apC] fun h_13=>next_ (IntKind.wrap .i64 (t4+1)) h_13
def J44_1  (P:Program) (R:Value->Heap->Prop) (b:Nat) (h_14:Heap):Prop:=
 ∃ (t6:Int) (A5:Option Addr) (N5 C5:Nat),cellsH h_14 (Addr.mk b 0 none) 0 [.int .i64 t6,.slice A5 N5 C5]/\CallsH P 59 #[(.agg #[.int .i64 t6,.slice A5 N5 C5]),.slice none 0 0] h_14 fun v2 h_15=>
 ∃ (A6:Option Addr) (N6 C6:Nat) (t7:Bool) (t8:Int),v2=(.tuple #[.slice A6 N6 C6,.bool t7,.int .i64 t8])/\R (.tuple #[.slice A6 N6 C6,.bool t7]) h_15
def B44_4 (P:Program) (R:Value->Heap->Prop) (litsA:(Option Addr)) (litsN b:Nat) (t4:Int) (h_8:Heap) (next_:Int->Heap->Prop):Prop:=
 PIf (t4<((litsN:Nat):Int))
 (J44_2 litsA litsN b t4 next_ h_8)
 (J44_1 P R b h_8)
def J44_0  (P:Program) (R:Value->Heap->Prop) (h:Heap) (litsA:(Option Addr)) (litsN:Nat) (h_2:Heap):Prop:=
 (Addr.block (Addr.add ⟨h.size,0,none⟩ 1))<(h_2).size/\∃ (A2:Option Addr) (N2 C2:Nat),cellH h_2 (Addr.add ⟨h.size,0,none⟩ 1)=some (.slice A2 N2 C2)/\∀ (U:Nat->Prop) (h_3:Heap),GrowH none' h_2 U h_3->CallsH P 38 #[.slice A2 N2 C2] h_3 fun v1 h_4=>
 ∃ (A3:Option Addr) (N3 C3:Nat),v1=(.slice A3 N3 C3)/\Keeps (h_2).size U h_3 h_4/\(Addr.block (Addr.add ⟨h.size,0,none⟩ 0))<(h_2).size/\∃ (t3:Int),cellH h_4 (Addr.add ⟨h.size,0,none⟩ 0)=some (.int .i64 t3)/\∀ (U1:Nat->Prop) (h_5:Heap) (b:Nat),GrowH U h_4 U1 h_5->U1 b->(h_5)[b]?=some (Obj.cells #[.int .i64 0,.slice none 0 0] 24)->∀ (U2:Nat->Prop) (h_6:Heap),GrowH (minus U1 b) h_5 U2 h_6->StoreH h_6 (Addr.mk b 0 none) [.int .i64 t3,.slice A3 N3 C3] fun h_7=>(h_6).size≤(h_7).size/\LoopT (σ:=Int) (fun st_ h_st nx_st=>B44_4 P R litsA litsN b (st_) h_st nx_st) (0) h_7
def VC44 (P:Program) (f:Int) (fA:Option Addr) (fN fC:Nat) (litsA:Option Addr) (litsN litsC:Nat) (R:Value->Heap->Prop) (h:Heap):Prop:=
 let h_:Heap:=(h).push (.cells (Value.cells (.agg #[.int .i64 f,.slice fA fN fC])) 24);PIf ((((litsN:Nat):Int):Int)≤16384)
 (∃ (t:Int) (A:Option Addr) (N C:Nat),cellsH h_ ⟨h.size,0,none⟩ 0 [.int .i64 t,.slice A N C]/\CallsH P 59 #[(.agg #[.int .i64 t,.slice A N C]),.slice litsA litsN litsC] h_ fun v h_1=>
 ∃ (A1:Option Addr) (N1 C1:Nat) (t1:Bool) (t2:Int),v=(.tuple #[.slice A1 N1 C1,.bool t1,.int .i64 t2])/\R (.tuple #[.slice A1 N1 C1,.bool t1]) h_1)
 (J44_0 P R h litsA litsN h_)
theorem vc44 (P:Program) (f:Int) (fA:Option Addr) (fN fC:Nat) (litsA:Option Addr) (litsN litsC:Nat) (R:Value->Heap->Prop) (h:Heap):fnC P ret44 code44 [(.agg #[.int .i64 f,.slice fA fN fC]),.slice litsA litsN litsC] h R=VC44 P f fA fN fC litsA litsN litsC R h:=by kernel_rfl
theorem run44 (f:Int) (fA:Option Addr) (fN fC:Nat) (litsA:Option Addr) (litsN litsC:Nat) (R:Value->Heap->Prop) (h:Heap) (hv:VC44 Try.prog f fA fN fC litsA litsN litsC R h):CallsH Try.prog 44 #[(.agg #[.int .i64 f,.slice fA fN fC]),.slice litsA litsN litsC] h R:=calls_of_fnC (Checked.mixed Try.checked) Try.func44 comp44 (Nat.le_of_ble_eq_true rfl) (by rw [vc44];exact hv)
def loops31:List (List (Nat×Shp)):=[[(16,.int .i64)]]
noncomputable def code31:SCode:=((compF Try.prog Try.f31 loops31).elim .skip fun x=>x.2.2)
def ret31:List RV:=[.tmp 4]
theorem comp31:compF Try.prog Try.f31 loops31=some (48,ret31,code31):=by kernel_rfl
def J31_1  (h:Heap) (cA:(Option Addr)) (cN:Nat) (t:Int) (next_:(Int->Heap->Prop)) (h_2:Heap):Prop:=
 0≤t/\t<(cN:Nat)/\AtP cA fun ad=>∃ (t1:Int),cellH h_2 (Addr.add ad (Int.toNat t*1))=some (.int .i64 t1)/\0≤t/\t<((Int.toNat ((cN:Nat):Int)):Nat)/\StoreH h_2 (Addr.add ⟨h.size,0,none⟩ (Int.toNat t*1)) [(.int .i64 (IntKind.wrap .i64 (0-t1)))] fun h_3=>next_ (IntKind.wrap .i64 (t+1)) h_3
def J31_0  (P:Program) (R:Value->Heap->Prop) (h:Heap) (s:(Option Addr)) (cA:(Option Addr)) (cN cC:Nat) (h_4:Heap):Prop:=
 AtP s fun ad1=>(Addr.block (Addr.add (Addr.add ad1 0) 0))<(h_4).size/\∃ (t2:Int),cellH h_4 (Addr.add (Addr.add ad1 0) 0)=some (.int .i64 t2)/\∀ (U:Nat->Prop) (h_5:Heap),GrowH none' h_4 U h_5->CallsH P 43 #[.int .i64 t2,.slice cA cN cC] h_5 fun v h_6=>
 ∃ (t3:Int),v=(.int .i64 t3)/\Keeps (h_4).size U h_5 h_6/\AtP s fun ad2=>(Addr.block (Addr.add (Addr.add ad2 0) 1))<(h_4).size/\∃ (A:Option Addr) (N C:Nat),cellH h_6 (Addr.add (Addr.add ad2 0) 1)=some (.slice A N C)/\∀ (U1:Nat->Prop) (h_7:Heap) (b:Nat),GrowH U h_6 U1 h_7->U1 b->(h_7)[b]?=some (Obj.cells #[.int .i64 0,.slice none 0 0] 24)->∀ (U2:Nat->Prop) (h_8:Heap),GrowH (minus U1 b) h_7 U2 h_8->StoreH h_8 (Addr.mk b 0 none) [.int .i64 t3,.slice A N C] fun h_9=>(h_8).size≤(h_9).size/\∃ (t4:Int) (A1:Option Addr) (N1 C1:Nat),cellsH h_9 (Addr.mk b 0 none) 0 [.int .i64 t4,.slice A1 N1 C1]/\CallsH P 44 #[(.agg #[.int .i64 t4,.slice A1 N1 C1]),(.slice (some ⟨h.size,0,none⟩) (Int.toNat ((cN:Nat):Int)) (Int.toNat ((cN:Nat):Int)))] h_9 fun v1 h_10=>
 ∃ (A2:Option Addr) (N2 C2:Nat) (t5:Bool),v1=(.tuple #[.slice A2 N2 C2,.bool t5])/\R (.bool (!t5)) h_10
def B31_3 (P:Program) (R:Value->Heap->Prop) (h:Heap) (s:(Option Addr)) (cA:(Option Addr)) (cN cC:Nat) (t:Int) (h_1:Heap) (next_:Int->Heap->Prop):Prop:=
 PIf (t<((cN:Nat):Int))
 (J31_1 h cA cN t next_ h_1)
 (J31_0 P R h s cA cN cC h_1)
def VC31 (P:Program) (s cA:Option Addr) (cN cC:Nat) (R:Value->Heap->Prop) (h:Heap):Prop:=
 0≤(((cN:Nat):Int):Int)/\(((cN:Nat):Int):Int)≤((cN:Nat):Int)/\(8:Int)*((cN:Nat):Int)≤281474976710656/\let h_:Heap:=(h).push (.cells (zeroRow #[.int .i64 0] (Int.toNat ((cN:Nat):Int)*1)).toArray 3);LoopT (σ:=Int) (fun st_ h_st nx_st=>B31_3 P R h s cA cN cC (st_) h_st nx_st) (0) h_
theorem vc31 (P:Program) (s cA:Option Addr) (cN cC:Nat) (R:Value->Heap->Prop) (h:Heap):fnC P ret31 code31 [.pointer s,.slice cA cN cC] h R=VC31 P s cA cN cC R h:=by kernel_rfl
theorem run31 (s cA:Option Addr) (cN cC:Nat) (R:Value->Heap->Prop) (h:Heap) (hv:VC31 Try.prog s cA cN cC R h):CallsH Try.prog 31 #[.pointer s,.slice cA cN cC] h R:=calls_of_fnC (Checked.mixed Try.checked) Try.func31 comp31 (Nat.le_of_ble_eq_true rfl) (by rw [vc31];exact hv)
end Go.Proofs.Ytobageabpfkpcaa
