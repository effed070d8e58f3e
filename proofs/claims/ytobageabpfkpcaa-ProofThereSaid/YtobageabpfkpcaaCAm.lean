/- Words and facts that the claim's proof leans on. No condition. -/
import Derived.Test.YtobageabpfkpcaaHxV
import Derived.Test.YtobageabpfkpcaaChecked
set_option maxRecDepth 100000
set_option linter.unusedVariables false
namespace Go.Proofs.Ytobageabpfkpcaa
open Go.Hx
def loops32:List (List (Nat×Shp)):=[[(17,.int .i64)]]
noncomputable def code32:SCode:=((compF Try.prog Try.f32 loops32).elim .skip fun x=>x.2.2)
def ret32:List RV:=[.tmp 4]
theorem comp32:compF Try.prog Try.f32 loops32=some (40,ret32,code32):=by kernel_rfl
def J32_3  (P:Program) (R:Value->Heap->Prop) (h:Heap) (s:(Option Addr)) (t:Int) (next_:(Int->Heap->Prop)) (A2:(Option Addr)) (N2 C2:Nat) (h_5:Heap):Prop:=
 CallsH P 29 #[.slice A2 N2 C2] h_5 fun v1 h_6=>
 ∃ (A4:Option Addr) (N4 C4:Nat),v1=(.slice A4 N4 C4)/\CallsH P 46 #[.slice A4 N4 C4,(.func (.func 47) #[] #[(.pointer (some ⟨h.size,0,none⟩))])] h_6 fun v2 h_7=>
 ∃ (A5:Option Addr) (N5 C5:Nat),v2=(.slice A5 N5 C5)/\∃ (A6:Option Addr) (N6 C6:Nat),cellH h_7 ⟨h.size,0,none⟩=some (.slice A6 N6 C6)/\let h_8:Heap:=(h_7).push (.cells #[.slice A6 N6 C6,.slice A5 N5 C5] 26);CallsH P 48 #[(.slice (some ⟨h_7.size,0,none⟩) 2 2)] h_8 fun v3 h_9=>
 ∃ (A7:Option Addr) (N7 C7:Nat),v3=(.slice A7 N7 C7)/\CallsH P 31 #[.pointer s,.slice A7 N7 C7] h_9 fun v4 h_10=>
 ∃ (t3:Bool),v4=(.bool t3)/\BIf (!t3) (R (.bool false) h_10) (next_ (IntKind.wrap .i64 (t+1)) h_10)
def J32_2  (P:Program) (R:Value->Heap->Prop) (h:Heap) (s:(Option Addr)) (A1:(Option Addr)) (N1:Nat) (t:Int) (next_:(Int->Heap->Prop)) (h_3:Heap):Prop:=
 0≤t/\t<(N1:Nat)/\AtP A1 fun ad1=>∃ (A2:Option Addr) (N2 C2:Nat),cellH h_3 (Addr.add ad1 (Int.toNat t*1))=some (.slice A2 N2 C2)/\∃ (A3:Option Addr) (N3 C3:Nat),cellH h_3 ⟨h.size,0,none⟩=some (.slice A3 N3 C3)/\0≤(0:Int)/\(0:Int)<(N3:Nat)/\AtP A3 fun ad2=>∃ (t1:Int),cellH h_3 (Addr.add ad2 (Int.toNat 0*1))=some (.int .i64 t1)/\CallsH P 45 #[.slice A2 N2 C2,(.int .i64 (IntKind.wrap .i64 (0-t1)))] h_3 fun v h_4=>
 ∃ (t2:Bool),v=(.bool t2)/\BIf (!t2) (next_ (IntKind.wrap .i64 (t+1)) h_4) (J32_3 P R h s t next_ A2 N2 C2 h_4)
def J32_1  (R:Value->Heap->Prop) (h_11:Heap):Prop:=
 R (.bool true) h_11
def B32_5 (P:Program) (R:Value->Heap->Prop) (h:Heap) (s:(Option Addr)) (A1:(Option Addr)) (N1:Nat) (t:Int) (h_2:Heap) (next_:Int->Heap->Prop):Prop:=
 PIf (t<((N1:Nat):Int))
 (J32_2 P R h s A1 N1 t next_ h_2)
 (J32_1 R h_2)
def J32_0  (P:Program) (R:Value->Heap->Prop) (h:Heap) (s:(Option Addr)) (h_1:Heap):Prop:=
 AtP s fun ad=>∃ (A1:Option Addr) (N1 C1:Nat),cellH h_1 (Addr.add (Addr.add ad 0) 1)=some (.slice A1 N1 C1)/\LoopT (σ:=Int) (fun st_ h_st nx_st=>B32_5 P R h s A1 N1 (st_) h_st nx_st) (0) h_1
def VC32 (P:Program) (s cA:Option Addr) (cN cC:Nat) (R:Value->Heap->Prop) (h:Heap):Prop:=
 let h_:Heap:=(h).push (.cells #[.slice cA cN cC] 26);∃ (A:Option Addr) (N C:Nat),cellH h_ ⟨h.size,0,none⟩=some (.slice A N C)/\PIf ((((N:Nat):Int):Int)=0)
 (R (.bool false) h_)
 (J32_0 P R h s h_)
theorem vc32 (P:Program) (s cA:Option Addr) (cN cC:Nat) (R:Value->Heap->Prop) (h:Heap):fnC P ret32 code32 [.pointer s,.slice cA cN cC] h R=VC32 P s cA cN cC R h:=by kernel_rfl
theorem run32 (s cA:Option Addr) (cN cC:Nat) (R:Value->Heap->Prop) (h:Heap) (hv:VC32 Try.prog s cA cN cC R h):CallsH Try.prog 32 #[.pointer s,.slice cA cN cC] h R:=calls_of_fnC (Checked.mixed Try.checked) Try.func32 comp32 (Nat.le_of_ble_eq_true rfl) (by rw [vc32];exact hv)
def loops45:List (List (Nat×Shp)):=[]
noncomputable def code45:SCode:=((compF Try.prog Try.f45 loops45).elim .skip fun x=>x.2.2)
def ret45:List RV:=[.tmp 4]
theorem comp45:compF Try.prog Try.f45 loops45=some (9,ret45,code45):=by kernel_rfl
def VC45 (P:Program) (sA:Option Addr) (sN sC:Nat) (v:Int) (R:Value->Heap->Prop) (h:Heap):Prop:=
 CallsH P 60 #[.slice sA sN sC,.int .i64 v] h fun v1 h_=>
 ∃ (t:Int),v1=(.int .i64 t)/\PIf ((0:Int)≤t)
 (R (.bool true) h_)
 (R (.bool false) h_)
theorem vc45 (P:Program) (sA:Option Addr) (sN sC:Nat) (v:Int) (R:Value->Heap->Prop) (h:Heap):fnC P ret45 code45 [.slice sA sN sC,.int .i64 v] h R=VC45 P sA sN sC v R h:=by kernel_rfl
theorem run45 (sA:Option Addr) (sN sC:Nat) (v:Int) (R:Value->Heap->Prop) (h:Heap) (hv:VC45 Try.prog sA sN sC v R h):CallsH Try.prog 45 #[.slice sA sN sC,.int .i64 v] h R:=calls_of_fnC (Checked.mixed Try.checked) Try.func45 comp45 (Nat.le_of_ble_eq_true rfl) (by rw [vc45];exact hv)
def loops46:List (List (Nat×Shp)):=[[(5,.int .i64),(6,.int .i64)]]
noncomputable def code46:SCode:=((compF Try.prog Try.f46 loops46).elim .skip fun x=>x.2.2)
def ret46:List RV:=[.tmp 4]
theorem comp46:compF Try.prog Try.f46 loops46=some (42,ret46,code46):=by kernel_rfl
def J46_2  (P:Program) (sA:(Option Addr)) (sN:Nat) (del:Value) (i j:Int) (next_:(Int×Int->Heap->Prop)) (h_3:Heap):Prop:=
 0≤j/\j<(sN:Nat)/\AtP sA fun ad=>∃ (t1:Int),cellH h_3 (Addr.add ad (Int.toNat j*1))=some (.int .i64 t1)/\CallV P del [.int .i64 t1] h_3 fun v1 h_4=>
 ∃ (t2:Bool),v1=(.bool t2)/\BIf (!t2) (0≤i/\i<(sN:Nat)/\AtP sA fun ad1=>StoreH h_4 (Addr.add ad1 (Int.toNat i*1)) [.int .i64 t1] fun h_5=>next_ ((IntKind.wrap .i64 (i+1)),(IntKind.wrap .i64 (j+1))) h_5) (next_ (i,(IntKind.wrap .i64 (j+1))) h_4)
def J46_1  (R:Value->Heap->Prop) (sA:(Option Addr)) (sN sC:Nat) (i1:Int) (h_6:Heap):Prop:=
 0≤i1/\i1≤((sN:Nat):Int)/\(((sN:Nat):Int):Int)≤(sC:Nat)/\CpyH h_6 (cutA 1 sA sC (Int.toNat i1)) (zeroRow #[.int .i64 0] ((Int.toNat ((sN:Nat):Int)-Int.toNat i1)*1)) fun h_7=>0≤(0:Int)/\(0:Int)≤i1/\i1≤(sC:Nat)/\R (.slice (cutA 1 sA sC (Int.toNat 0)) (Int.toNat i1-Int.toNat 0) (sC-Int.toNat 0)) h_7
def B46_3 (P:Program) (R:Value->Heap->Prop) (sA:(Option Addr)) (sN sC:Nat) (del:Value) (i j:Int) (h_2:Heap) (next_:Int×Int->Heap->Prop):Prop:=
 PIf (j<((sN:Nat):Int))
 (J46_2 P sA sN del i j next_ h_2)
 (J46_1 R sA sN sC (i) h_2)
def J46_0  (P:Program) (R:Value->Heap->Prop) (sA:(Option Addr)) (sN sC:Nat) (del:Value) (t:Int) (h_1:Heap):Prop:=
 LoopT (σ:=Int×Int) (fun st_ h_st nx_st=>B46_3 P R sA sN sC del (st_.1) (st_.2) h_st nx_st) (t,(IntKind.wrap .i64 (t+1))) h_1
def VC46 (P:Program) (sA:Option Addr) (sN sC:Nat) (del:Value) (R:Value->Heap->Prop) (h:Heap):Prop:=
 CallsH P 61 #[.slice sA sN sC,del] h fun v h_=>
 ∃ (t:Int),v=(.int .i64 t)/\PIf (t=(-1))
 (R (.slice sA sN sC) h_)
 (J46_0 P R sA sN sC del t h_)
theorem vc46 (P:Program) (sA:Option Addr) (sN sC:Nat) (del:Value) (R:Value->Heap->Prop) (h:Heap):fnC P ret46 code46 [.slice sA sN sC,del] h R=VC46 P sA sN sC del R h:=by kernel_rfl
theorem run46 (sA:Option Addr) (sN sC:Nat) (del:Value) (R:Value->Heap->Prop) (h:Heap) (hv:VC46 Try.prog sA sN sC del R h):CallsH Try.prog 46 #[.slice sA sN sC,del] h R:=calls_of_fnC (Checked.mixed Try.checked) Try.func46 comp46 (Nat.le_of_ble_eq_true rfl) (by rw [vc46];exact hv)
def loops47:List (List (Nat×Shp)):=[]
noncomputable def code47:SCode:=((compF Try.prog Try.f47 loops47).elim .skip fun x=>x.2.2)
def ret47:List RV:=[.tmp 3]
theorem comp47:compF Try.prog Try.f47 loops47=some (10,ret47,code47):=by kernel_rfl
def VC47 (P:Program) (l:Int) (t:Option Addr) (R:Value->Heap->Prop) (h:Heap):Prop:=
 AtP t fun ad=>∃ (A:Option Addr) (N C:Nat),cellH h ad=some (.slice A N C)/\0≤(0:Int)/\(0:Int)<(N:Nat)/\AtP A fun ad1=>∃ (t1:Int),cellH h (Addr.add ad1 (Int.toNat 0*1))=some (.int .i64 t1)/\PIf (l=(IntKind.wrap .i64 (0-t1)))
 (R (.bool true) h)
 (R (.bool false) h)
theorem vc47 (P:Program) (l:Int) (t:Option Addr) (R:Value->Heap->Prop) (h:Heap):fnC P ret47 code47 [.int .i64 l,.pointer t] h R=VC47 P l t R h:=by kernel_rfl
theorem run47 (l:Int) (t:Option Addr) (R:Value->Heap->Prop) (h:Heap) (hv:VC47 Try.prog l t R h):CallsH Try.prog 47 #[.int .i64 l,.pointer t] h R:=calls_of_fnC (Checked.mixed Try.checked) Try.func47 comp47 (Nat.le_of_ble_eq_true rfl) (by rw [vc47];exact hv)
def loops48:List (List (Nat×Shp)):=[[(3,.int .i64),(11,.int .i64)],[(6,.slice),(27,.int .i64)]]
noncomputable def code48:SCode:=((compF Try.prog Try.f48 loops48).elim .skip fun x=>x.2.2)
def ret48:List RV:=[.tmp 2]
theorem comp48:compF Try.prog Try.f48 loops48=some (36,ret48,code48):=by kernel_rfl
def J48_1  (slicesA:(Option Addr)) (slicesN:Nat) (size t:Int) (next_:(Int×Int->Heap->Prop)) (h_1:Heap):Prop:=
 0≤t/\t<(slicesN:Nat)/\AtP slicesA fun ad=>∃ (A:Option Addr) (N C:Nat),cellH h_1 (Addr.add ad (Int.toNat t*1))=some (.slice A N C)/\PIf (((IntKind.wrap .i64 (size+((N:Nat):Int))):Int)<0)
 (False)
 (next_ ((IntKind.wrap .i64 (size+((N:Nat):Int))),(IntKind.wrap .i64 (t+1))) h_1)
def J48_4  (slicesA:(Option Addr)) (slicesN:Nat) (newsliceA:(Option Addr)) (newsliceN newsliceC:Nat) (t1:Int) (next_1:((Option Addr×Nat×Nat)×Int->Heap->Prop)) (h_5:Heap):Prop:=
 0≤t1/\t1<(slicesN:Nat)/\AtP slicesA fun ad1=>∃ (A2:Option Addr) (N2 C2:Nat),cellH h_5 (Addr.add ad1 (Int.toNat t1*1))=some (.slice A2 N2 C2)/\∃ ys:List Value,ReadL h_5 A2 ys/\ys.length=N2*1/\AppS h_5 newsliceA newsliceN newsliceC 3 8 1 #[.int .i64 0] ys N2 fun apA apN apC h_6=>next_1 ((apA,apN,apC),(IntKind.wrap .i64 (t1+1))) h_6
def J48_3  (R:Value->Heap->Prop) (newsliceA1:Option Addr) (newsliceN1 newsliceC1:Nat) (h_7:Heap):Prop:=
 R (.slice newsliceA1 newsliceN1 newsliceC1) h_7
def B48_6 (R:Value->Heap->Prop) (slicesA:(Option Addr)) (slicesN:Nat) (newsliceA:Option Addr) (newsliceN newsliceC:Nat) (t1:Int) (h_4:Heap) (next_1:(Option Addr×Nat×Nat)×Int->Heap->Prop):Prop:=
 PIf (t1<((slicesN:Nat):Int))
 (J48_4 slicesA slicesN newsliceA newsliceN newsliceC t1 next_1 h_4)
 (J48_3 R (newsliceA) (newsliceN) (newsliceC) h_4)
def J48_0  (P:Program) (R:Value->Heap->Prop) (slicesA:(Option Addr)) (slicesN:Nat) (size1:Int) (h_2:Heap):Prop:=
 CallsH P 62 #[.slice none 0 0,.int .i64 size1] h_2 fun v h_3=>
 ∃ (A1:Option Addr) (N1 C1:Nat),v=(.slice A1 N1 C1)/\LoopT (σ:=(Option Addr×Nat×Nat)×Int) (fun st_ h_st nx_st=>B48_6 R slicesA slicesN (st_.1.1) (st_.1.2.1) (st_.1.2.2) (st_.2) h_st nx_st) ((A1,N1,C1),0) h_3
def B48_7 (P:Program) (R:Value->Heap->Prop) (slicesA:(Option Addr)) (slicesN:Nat) (size t:Int) (h_:Heap) (next_:Int×Int->Heap->Prop):Prop:=
 PIf (t<((slicesN:Nat):Int))
 (J48_1 slicesA slicesN size t next_ h_)
 (J48_0 P R slicesA slicesN (size) h_)
def VC48 (P:Program) (slicesA:Option Addr) (slicesN slicesC:Nat) (R:Value->Heap->Prop) (h:Heap):Prop:=
 LoopT (σ:=Int×Int) (fun st_ h_st nx_st=>B48_7 P R slicesA slicesN (st_.1) (st_.2) h_st nx_st) (0,0) h
theorem vc48 (P:Program) (slicesA:Option Addr) (slicesN slicesC:Nat) (R:Value->Heap->Prop) (h:Heap):fnC P ret48 code48 [.slice slicesA slicesN slicesC] h R=VC48 P slicesA slicesN slicesC R h:=by kernel_rfl
theorem run48 (slicesA:Option Addr) (slicesN slicesC:Nat) (R:Value->Heap->Prop) (h:Heap) (hv:VC48 Try.prog slicesA slicesN slicesC R h):CallsH Try.prog 48 #[.slice slicesA slicesN slicesC] h R:=calls_of_fnC (Checked.mixed Try.checked) Try.func48 comp48 (Nat.le_of_ble_eq_true rfl) (by rw [vc48];exact hv)
def loops60:List (List (Nat×Shp)):=[[(8,.int .i64)]]
noncomputable def code60:SCode:=((compF Try.prog Try.f60 loops60).elim .skip fun x=>x.2.2)
def ret60:List RV:=[.tmp 4]
theorem comp60:compF Try.prog Try.f60 loops60=some (19,ret60,code60):=by kernel_rfl
def J60_1  (R:Value->Heap->Prop) (sA:(Option Addr)) (sN:Nat) (v t:Int) (next_:(Int->Heap->Prop)) (h_1:Heap):Prop:=
 0≤t/\t<(sN:Nat)/\AtP sA fun ad=>∃ (t1:Int),cellH h_1 (Addr.add ad (Int.toNat t*1))=some (.int .i64 t1)/\PIf (v=t1)
 (R (.int .i64 t) h_1)
 (next_ (IntKind.wrap .i64 (t+1)) h_1)
def J60_0  (R:Value->Heap->Prop) (h_2:Heap):Prop:=
 R (.int .i64 (-1)) h_2
def B60_3 (R:Value->Heap->Prop) (sA:(Option Addr)) (sN:Nat) (v t:Int) (h_:Heap) (next_:Int->Heap->Prop):Prop:=
 PIf (t<((sN:Nat):Int))
 (J60_1 R sA sN v t next_ h_)
 (J60_0 R h_)
def VC60 (P:Program) (sA:Option Addr) (sN sC:Nat) (v:Int) (R:Value->Heap->Prop) (h:Heap):Prop:=
 LoopT (σ:=Int) (fun st_ h_st nx_st=>B60_3 R sA sN v (st_) h_st nx_st) (0) h
theorem vc60 (P:Program) (sA:Option Addr) (sN sC:Nat) (v:Int) (R:Value->Heap->Prop) (h:Heap):fnC P ret60 code60 [.slice sA sN sC,.int .i64 v] h R=VC60 P sA sN sC v R h:=by kernel_rfl
theorem run60 (sA:Option Addr) (sN sC:Nat) (v:Int) (R:Value->Heap->Prop) (h:Heap) (hv:VC60 Try.prog sA sN sC v R h):CallsH Try.prog 60 #[.slice sA sN sC,.int .i64 v] h R:=calls_of_fnC (Checked.mixed Try.checked) Try.func60 comp60 (Nat.le_of_ble_eq_true rfl) (by rw [vc60];exact hv)
def loops62:List (List (Nat×Shp)):=[]
noncomputable def code62:SCode:=((compF Try.prog Try.f62 loops62).elim .skip fun x=>x.2.2)
def ret62:List RV:=[.tmp 4]
theorem comp62:compF Try.prog Try.f62 loops62=some (27,ret62,code62):=by kernel_rfl
def J62_0  (R:Value->Heap->Prop) (sA:(Option Addr)) (sN sC:Nat) (n:Int) (h_:Heap):Prop:=
 PIf ((0:Int)<(IntKind.wrap .i64 (n-(IntKind.wrap .i64 (((sC:Nat):Int)-((sN:Nat):Int))))))
 (0≤(0:Int)/\(0:Int)≤((sC:Nat):Int)/\(((sC:Nat):Int):Int)≤(sC:Nat)/\0≤((IntKind.wrap .i64 (n-(IntKind.wrap .i64 (((sC:Nat):Int)-((sN:Nat):Int))))):Int)/\((IntKind.wrap .i64 (n-(IntKind.wrap .i64 (((sC:Nat):Int)-((sN:Nat):Int))))):Int)*8≤140737488355328/\AppS h_ (cutA 1 sA sC (Int.toNat 0)) (Int.toNat ((sC:Nat):Int)-Int.toNat 0) (sC-Int.toNat 0) 3 8 1 #[.int .i64 0] (zeroRow #[.int .i64 0] (Int.toNat (IntKind.wrap .i64 (n-(IntKind.wrap .i64 (((sC:Nat):Int)-((sN:Nat):Int)))))*1)) (Int.toNat (IntKind.wrap .i64 (n-(IntKind.wrap .i64 (((sC:Nat):Int)-((sN:Nat):Int)))))) fun apA apN apC h_1=>0≤(0:Int)/\(0:Int)≤((sN:Nat):Int)/\(((sN:Nat):Int):Int)≤(apC:Nat)/\R (.slice (cutA 1 apA apC (Int.toNat 0)) (Int.toNat ((sN:Nat):Int)-Int.toNat 0) (apC-Int.toNat 0)) h_1)
 (R (.slice sA sN sC) h_)
def VC62 (P:Program) (sA:Option Addr) (sN sC:Nat) (n:Int) (R:Value->Heap->Prop) (h:Heap):Prop:=
 PIf (n<0)
 (False)
 (J62_0 R sA sN sC n h)
theorem vc62 (P:Program) (sA:Option Addr) (sN sC:Nat) (n:Int) (R:Value->Heap->Prop) (h:Heap):fnC P ret62 code62 [.slice sA sN sC,.int .i64 n] h R=VC62 P sA sN sC n R h:=by kernel_rfl
theorem run62 (sA:Option Addr) (sN sC:Nat) (n:Int) (R:Value->Heap->Prop) (h:Heap) (hv:VC62 Try.prog sA sN sC n R h):CallsH Try.prog 62 #[.slice sA sN sC,.int .i64 n] h R:=calls_of_fnC (Checked.mixed Try.checked) Try.func62 comp62 (Nat.le_of_ble_eq_true rfl) (by rw [vc62];exact hv)
def loops19:List (List (Nat×Shp)):=[]
noncomputable def code19:SCode:=((compF Try.prog Try.f19 loops19).elim .skip fun x=>x.2.2)
def ret19:List RV:=[.tmp 4]
theorem comp19:compF Try.prog Try.f19 loops19=some (13,ret19,code19):=by kernel_rfl
def VC19 (P:Program) (s cA:Option Addr) (cN cC:Nat) (R:Value->Heap->Prop) (h:Heap):Prop:=
 CallsH P 31 #[.pointer s,.slice cA cN cC] h fun v h_=>
 ∃ (t:Bool),v=(.bool t)/\BIf t (R (.int .i64 1) h_) (CallsH P 32 #[.pointer s,.slice cA cN cC] h_ fun v1 h_1=>
 ∃ (t1:Bool),v1=(.bool t1)/\BIf t1 (R (.int .i64 2) h_1) (R (.int .i64 0) h_1))
theorem vc19 (P:Program) (s cA:Option Addr) (cN cC:Nat) (R:Value->Heap->Prop) (h:Heap):fnC P ret19 code19 [.pointer s,.slice cA cN cC] h R=VC19 P s cA cN cC R h:=by kernel_rfl
theorem run19 (s cA:Option Addr) (cN cC:Nat) (R:Value->Heap->Prop) (h:Heap) (hv:VC19 Try.prog s cA cN cC R h):CallsH Try.prog 19 #[.pointer s,.slice cA cN cC] h R:=calls_of_fnC (Checked.mixed Try.checked) Try.func19 comp19 (Nat.le_of_ble_eq_true rfl) (by rw [vc19];exact hv)
end Go.Proofs.Ytobageabpfkpcaa
