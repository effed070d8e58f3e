/- Words and facts that the claim's proof leans on. No condition. -/
import Derived.Test.YtobageabpfkpcaaHxV
import Derived.Test.YtobageabpfkpcaaChecked
set_option maxRecDepth 100000
set_option linter.unusedVariables false
namespace Go.Proofs.Ytobageabpfkpcaa
open Go.Hx
def loops66:List (List (Nat×Shp)):=[]
noncomputable def code66:SCode:=((compF Try.prog Try.f66 loops66).elim .skip fun x=>x.2.2)
def ret66:List RV:=[.tmp 2]
theorem comp66:compF Try.prog Try.f66 loops66=some (9,ret66,code66):=by kernel_rfl
def VC66 (P:Program) (cA:Option Addr) (cN cC:Nat) (R:Value->Heap->Prop) (h:Heap):Prop:=
 CallsH P 29 #[.slice cA cN cC] h fun v h_=>
 ∃ (A:Option Addr) (N C:Nat),v=(.slice A N C)/\CallsH P 73 #[.slice A N C] h_ fun v1 h_1=>
 v1=(.tuple #[])/\R (.slice A N C) h_1
theorem vc66 (P:Program) (cA:Option Addr) (cN cC:Nat) (R:Value->Heap->Prop) (h:Heap):fnC P ret66 code66 [.slice cA cN cC] h R=VC66 P cA cN cC R h:=by kernel_rfl
theorem run66 (cA:Option Addr) (cN cC:Nat) (R:Value->Heap->Prop) (h:Heap) (hv:VC66 Try.prog cA cN cC R h):CallsH Try.prog 66 #[.slice cA cN cC] h R:=calls_of_fnC (Checked.mixed Try.checked) Try.func66 comp66 (Nat.le_of_ble_eq_true rfl) (by rw [vc66];exact hv)
def loops67:List (List (Nat×Shp)):=[]
noncomputable def code67:SCode:=((compF Try.prog Try.f67 loops67).elim .skip fun x=>x.2.2)
def ret67:List RV:=[.tmp 3]
theorem comp67:compF Try.prog Try.f67 loops67=some (15,ret67,code67):=by kernel_rfl
def VC67 (P:Program) (cA:Option Addr) (cN cC:Nat) (t:Option Addr) (R:Value->Heap->Prop) (h:Heap):Prop:=
 AtP t fun ad=>(Addr.block ad)<(h).size/\∃ (A:Option Addr) (N C:Nat),cellH h ad=some (.slice A N C)/\PIf ((((cN:Nat):Int):Int)=((N:Nat):Int))
 (CallsH P 66 #[.slice cA cN cC] h fun v h_=>
 ∃ (A1:Option Addr) (N1 C1:Nat),v=(.slice A1 N1 C1)/\AgreeH (h).size h h_/\AtP t fun ad1=>(Addr.block ad1)<(h).size/\∃ (A2:Option Addr) (N2 C2:Nat),cellH h_ ad1=some (.slice A2 N2 C2)/\CallsH P 68 #[.slice A1 N1 C1,.slice A2 N2 C2] h_ fun v1 h_1=>
 ∃ (t1:Bool),v1=(.bool t1)/\AgreeH (h).size h_ h_1/\R (.bool t1) h_1)
 (R (.bool false) h)
theorem vc67 (P:Program) (cA:Option Addr) (cN cC:Nat) (t:Option Addr) (R:Value->Heap->Prop) (h:Heap):fnC P ret67 code67 [.slice cA cN cC,.pointer t] h R=VC67 P cA cN cC t R h:=by kernel_rfl
theorem run67 (cA:Option Addr) (cN cC:Nat) (t:Option Addr) (R:Value->Heap->Prop) (h:Heap) (hv:VC67 Try.prog cA cN cC t R h):CallsH Try.prog 67 #[.slice cA cN cC,.pointer t] h R:=calls_of_fnC (Checked.mixed Try.checked) Try.func67 comp67 (Nat.le_of_ble_eq_true rfl) (by rw [vc67];exact hv)
def loops69:List (List (Nat×Shp)):=[]
noncomputable def code69:SCode:=((compF Try.prog Try.f69 loops69).elim .skip fun x=>x.2.2)
def ret69:List RV:=[.tmp 6]
theorem comp69:compF Try.prog Try.f69 loops69=some (33,ret69,code69):=by kernel_rfl
def J69_0  (R:Value->Heap->Prop) (sA:(Option Addr)) (sN sC:Nat) (i j:Int) (h_:Heap):Prop:=
 0≤(0:Int)/\(0:Int)≤i/\i≤(sC:Nat)/\0≤j/\j≤((sN:Nat):Int)/\(((sN:Nat):Int):Int)≤(sC:Nat)/\∃ ys:List Value,ReadL h_ (cutA 1 sA sC (Int.toNat j)) ys/\ys.length=(Int.toNat ((sN:Nat):Int)-Int.toNat j)*1/\AppS h_ (cutA 1 sA sC (Int.toNat 0)) (Int.toNat i-Int.toNat 0) (sC-Int.toNat 0) 26 24 1 #[.slice none 0 0] ys (Int.toNat ((sN:Nat):Int)-Int.toNat j) fun apA apN apC h_1=>0≤(((apN:Nat):Int):Int)/\(((apN:Nat):Int):Int)≤((sN:Nat):Int)/\(((sN:Nat):Int):Int)≤(apC:Nat)/\CpyH h_1 (cutA 1 apA apC (Int.toNat ((apN:Nat):Int))) (zeroRow #[.slice none 0 0] ((Int.toNat ((sN:Nat):Int)-Int.toNat ((apN:Nat):Int))*1)) fun h_2=>R (.slice apA apN apC) h_2
def VC69 (P:Program) (sA:Option Addr) (sN sC:Nat) (i j:Int) (R:Value->Heap->Prop) (h:Heap):Prop:=
 0≤i/\i≤j/\j≤((sN:Nat):Int)/\(((sN:Nat):Int):Int)≤(sC:Nat)/\PIf (i=j)
 (R (.slice sA sN sC) h)
 (J69_0 R sA sN sC i j h)
theorem vc69 (P:Program) (sA:Option Addr) (sN sC:Nat) (i j:Int) (R:Value->Heap->Prop) (h:Heap):fnC P ret69 code69 [.slice sA sN sC,.int .i64 i,.int .i64 j] h R=VC69 P sA sN sC i j R h:=by kernel_rfl
theorem run69 (sA:Option Addr) (sN sC:Nat) (i j:Int) (R:Value->Heap->Prop) (h:Heap) (hv:VC69 Try.prog sA sN sC i j R h):CallsH Try.prog 69 #[.slice sA sN sC,.int .i64 i,.int .i64 j] h R:=calls_of_fnC (Checked.mixed Try.checked) Try.func69 comp69 (Nat.le_of_ble_eq_true rfl) (by rw [vc69];exact hv)
def loops73:List (List (Nat×Shp)):=[]
noncomputable def code73:SCode:=((compF Try.prog Try.f73 loops73).elim .skip fun x=>x.2.2)
def ret73:List RV:=[]
theorem comp73:compF Try.prog Try.f73 loops73=some (11,ret73,code73):=by kernel_rfl
def VC73 (P:Program) (xA:Option Addr) (xN xC:Nat) (R:Value->Heap->Prop) (h:Heap):Prop:=
 CallsH P 75 #[(.int .u64 (IntKind.wrap .u64 ((xN:Nat):Int)))] h fun v h_=>
 ∃ (t:Int),v=(.int .i64 t)/\CallsH P 76 #[.slice xA xN xC,.int .i64 0,(.int .i64 ((xN:Nat):Int)),.int .i64 t] h_ fun v1 h_1=>
 v1=(.tuple #[])/\R (.tuple #[]) h_1
theorem vc73 (P:Program) (xA:Option Addr) (xN xC:Nat) (R:Value->Heap->Prop) (h:Heap):fnC P ret73 code73 [.slice xA xN xC] h R=VC73 P xA xN xC R h:=by kernel_rfl
theorem run73 (xA:Option Addr) (xN xC:Nat) (R:Value->Heap->Prop) (h:Heap) (hv:VC73 Try.prog xA xN xC R h):CallsH Try.prog 73 #[.slice xA xN xC] h R:=calls_of_fnC (Checked.mixed Try.checked) Try.func73 comp73 (Nat.le_of_ble_eq_true rfl) (by rw [vc73];exact hv)
def loops57:List (List (Nat×Shp)):=[]
noncomputable def code57:SCode:=((compF Try.prog Try.f57 loops57).elim .skip fun x=>x.2.2)
def ret57:List RV:=[.tmp 4]
theorem comp57:compF Try.prog Try.f57 loops57=some (65,ret57,code57):=by kernel_rfl
def J57_1  (P:Program) (R:Value->Heap->Prop) (s:(Option Addr)) (t1:Int) (h_5:Heap):Prop:=
 AtP s fun ad1=>∃ (A3:Option Addr) (N3 C3:Nat),cellH h_5 (Addr.add (Addr.add ad1 0) 1)=some (.slice A3 N3 C3)/\CallsH P 69 #[.slice A3 N3 C3,.int .i64 t1,(.int .i64 (IntKind.wrap .i64 (t1+1)))] h_5 fun v2 h_6=>
 ∃ (A4:Option Addr) (N4 C4:Nat),v2=(.slice A4 N4 C4)/\AtP s fun ad2=>StoreH h_6 (Addr.add (Addr.add ad2 0) 1) [.slice A4 N4 C4] fun h_7=>R (.int .i64 0) h_7
def J57_2  (P:Program) (R:Value->Heap->Prop) (h:Heap) (s:(Option Addr)) (h_10:Heap):Prop:=
 AtP s fun ad3=>∃ (t3:Int),cellH h_10 (Addr.add (Addr.add ad3 0) 0)=some (.int .i64 t3)/\∃ (A6:Option Addr) (N6 C6:Nat),cellH h_10 (Addr.add ⟨h.size,0,none⟩ 1)=some (.slice A6 N6 C6)/\CallsH P 43 #[.int .i64 t3,.slice A6 N6 C6] h_10 fun v4 h_11=>
 ∃ (t4:Int),v4=(.int .i64 t4)/\AtP s fun ad4=>StoreH h_11 (Addr.add (Addr.add ad4 0) 0) [.int .i64 t4] fun h_12=>AtP s fun ad5=>(Addr.block (Addr.add (Addr.add ad5 0) 1))<(h_12).size/\∃ (A7:Option Addr) (N7 C7:Nat),cellH h_12 (Addr.add (Addr.add ad5 0) 1)=some (.slice A7 N7 C7)/\(Addr.block (Addr.add ⟨h.size,0,none⟩ 1))<(h_12).size/\∃ (A8:Option Addr) (N8 C8:Nat),cellH h_12 (Addr.add ⟨h.size,0,none⟩ 1)=some (.slice A8 N8 C8)/\CallsH P 29 #[.slice A8 N8 C8] h_12 fun v5 h_13=>
 ∃ (A9:Option Addr) (N9 C9:Nat),v5=(.slice A9 N9 C9)/\AgreeH (h_12).size h_12 h_13/\let h_14:Heap:=(h_13).push (.cells #[.slice A9 N9 C9] 26);AgreeH (h_12).size h_13 h_14/\∃ ys:List Value,ReadL h_14 (some ⟨h_13.size,0,none⟩) ys/\ys.length=1*1/\AppS h_14 A7 N7 C7 26 24 1 #[.slice none 0 0] ys 1 fun apA apN apC h_15=>AtP s fun ad6=>StoreH h_15 (Addr.add (Addr.add ad6 0) 1) [.slice apA apN apC] fun h_16=>R (.int .i64 0) h_16
def J57_0  (P:Program) (R:Value->Heap->Prop) (h:Heap) (s:(Option Addr)) (h_8:Heap):Prop:=
 ∃ (A5:Option Addr) (N5 C5:Nat),cellH h_8 (Addr.add ⟨h.size,0,none⟩ 1)=some (.slice A5 N5 C5)/\CallsH P 19 #[.pointer s,.slice A5 N5 C5] h_8 fun v3 h_9=>
 ∃ (t2:Int),v3=(.int .i64 t2)/\PIf (t2=0)
 (R (.int .i64 180) h_9)
 (J57_2 P R h s h_9)
def VC57 (P:Program) (s:Option Addr) (x:Bool) (xA:Option Addr) (xN xC:Nat) (R:Value->Heap->Prop) (h:Heap):Prop:=
 let h_:Heap:=(h).push (.cells (Value.cells (.agg #[.bool x,.slice xA xN xC])) 39);∃ (t:Bool),cellH h_ (Addr.add ⟨h.size,0,none⟩ 0)=some (.bool t)/\BIf t (∃ (A:Option Addr) (N C:Nat),cellH h_ (Addr.add ⟨h.size,0,none⟩ 1)=some (.slice A N C)/\CallsH P 66 #[.slice A N C] h_ fun v h_1=>
 ∃ (A1:Option Addr) (N1 C1:Nat),v=(.slice A1 N1 C1)/\let h_2:Heap:=(h_1).push (.cells #[.slice none 0 0] 26);StoreH h_2 ⟨h_1.size,0,none⟩ [.slice A1 N1 C1] fun h_3=>AtP s fun ad=>∃ (A2:Option Addr) (N2 C2:Nat),cellH h_3 (Addr.add (Addr.add ad 0) 1)=some (.slice A2 N2 C2)/\CallsH P 53 #[.slice A2 N2 C2,(.func (.func 67) #[] #[(.pointer (some ⟨h_1.size,0,none⟩))])] h_3 fun v1 h_4=>
 ∃ (t1:Int),v1=(.int .i64 t1)/\PIf (t1<0)
 (R (.int .i64 181) h_4)
 (J57_1 P R s t1 h_4)) (J57_0 P R h s h_)
theorem vc57 (P:Program) (s:Option Addr) (x:Bool) (xA:Option Addr) (xN xC:Nat) (R:Value->Heap->Prop) (h:Heap):fnC P ret57 code57 [.pointer s,(.agg #[.bool x,.slice xA xN xC])] h R=VC57 P s x xA xN xC R h:=by kernel_rfl
theorem run57 (s:Option Addr) (x:Bool) (xA:Option Addr) (xN xC:Nat) (R:Value->Heap->Prop) (h:Heap) (hv:VC57 Try.prog s x xA xN xC R h):CallsH Try.prog 57 #[.pointer s,(.agg #[.bool x,.slice xA xN xC])] h R:=calls_of_fnC (Checked.mixed Try.checked) Try.func57 comp57 (Nat.le_of_ble_eq_true rfl) (by rw [vc57];exact hv)
def loops39:List (List (Nat×Shp)):=[]
noncomputable def code39:SCode:=((compF Try.prog Try.f39 loops39).elim .skip fun x=>x.2.2)
def ret39:List RV:=[.tmp 4]
theorem comp39:compF Try.prog Try.f39 loops39=some (6,ret39,code39):=by kernel_rfl
def VC39 (P:Program) (s lA:Option Addr) (lN lC:Nat) (R:Value->Heap->Prop) (h:Heap):Prop:=
 let h_:Heap:=(h).push (.cells #[.pointer s] 47);let h_1:Heap:=(h_).push (.cells #[.slice lA lN lC] 37);R (.func (.func 56) #[] #[(.pointer (some ⟨h_.size,0,none⟩)),(.pointer (some ⟨h.size,0,none⟩))]) h_1
theorem vc39 (P:Program) (s lA:Option Addr) (lN lC:Nat) (R:Value->Heap->Prop) (h:Heap):fnC P ret39 code39 [.pointer s,.slice lA lN lC] h R=VC39 P s lA lN lC R h:=by kernel_rfl
theorem run39 (s lA:Option Addr) (lN lC:Nat) (R:Value->Heap->Prop) (h:Heap) (hv:VC39 Try.prog s lA lN lC R h):CallsH Try.prog 39 #[.pointer s,.slice lA lN lC] h R:=calls_of_fnC (Checked.mixed Try.checked) Try.func39 comp39 (Nat.le_of_ble_eq_true rfl) (by rw [vc39];exact hv)
def loops14:List (List (Nat×Shp)):=[]
noncomputable def code14:SCode:=((compF Try.prog Try.f14 loops14).elim .skip fun x=>x.2.2)
def ret14:List RV:=[.tmp 4,.tmp 5,.tmp 6]
theorem comp14:compF Try.prog Try.f14 loops14=some (18,ret14,code14):=by kernel_rfl
def VC14 (P:Program) (f:Int) (fA:Option Addr) (fN fC:Nat) (lA:Option Addr) (lN lC:Nat) (R:Value->Heap->Prop) (h:Heap):Prop:=
 let h_:Heap:=(h).push (.cells (Value.cells (.agg #[.int .i64 f,.slice fA fN fC])) 24);∃ (t:Int) (A:Option Addr) (N C:Nat),cellsH h_ ⟨h.size,0,none⟩ 0 [.int .i64 t,.slice A N C]/\CallsH P 27 #[(.agg #[.int .i64 t,.slice A N C]),.slice lA lN lC] h_ fun v h_1=>
 ∃ (t1:Option Addr) (t2:Bool) (t3 t4:Int),v=(.tuple #[.pointer t1,.bool t2,.int .i64 t3,.int .i64 t4])/\R (.tuple #[.bool t2,.int .i64 t3,.int .i64 t4]) h_1
theorem vc14 (P:Program) (f:Int) (fA:Option Addr) (fN fC:Nat) (lA:Option Addr) (lN lC:Nat) (R:Value->Heap->Prop) (h:Heap):fnC P ret14 code14 [(.agg #[.int .i64 f,.slice fA fN fC]),.slice lA lN lC] h R=VC14 P f fA fN fC lA lN lC R h:=by kernel_rfl
theorem run14 (f:Int) (fA:Option Addr) (fN fC:Nat) (lA:Option Addr) (lN lC:Nat) (R:Value->Heap->Prop) (h:Heap) (hv:VC14 Try.prog f fA fN fC lA lN lC R h):CallsH Try.prog 14 #[(.agg #[.int .i64 f,.slice fA fN fC]),.slice lA lN lC] h R:=calls_of_fnC (Checked.mixed Try.checked) Try.func14 comp14 (Nat.le_of_ble_eq_true rfl) (by rw [vc14];exact hv)
end Go.Proofs.Ytobageabpfkpcaa
