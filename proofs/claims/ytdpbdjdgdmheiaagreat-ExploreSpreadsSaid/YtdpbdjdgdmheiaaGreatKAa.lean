/- Words and facts that the claim's proof leans on. No condition. -/
import Derived.Test.YtdpbdjdgdmheiaaGreatHxV
import Derived.Test.YtdpbdjdgdmheiaaGreatChecked
set_option maxRecDepth 100000
set_option linter.unusedVariables false
namespace Go.Proofs.YtdpbdjdgdmheiaaGreat
open Go.Hx
def loops104:List (List (Nat×Shp)):=[[(3,.int .i64),(11,.int .i64)],[(6,.slice),(27,.int .i64)]]
noncomputable def code104:SCode:=((compF Tryz.prog Tryz.f104 loops104).elim .skip fun x=>x.2.2)
def ret104:List RV:=[.tmp 2]
theorem comp104:compF Tryz.prog Tryz.f104 loops104=some (36,ret104,code104):=by kernel_rfl
def J104_1  (slicesA:(Option Addr)) (slicesN:Nat) (size t:Int) (next_:(Int×Int->Heap->Prop)) (h_1:Heap):Prop:=
 0≤t/\t<(slicesN:Nat)/\AtP slicesA fun ad=>∃ (A:Option Addr) (N C:Nat),cellH h_1 (Addr.add ad (Int.toNat t*1))=some (.slice A N C)/\PIf (((IntKind.wrap .i64 (size+((N:Nat):Int))):Int)<0)
 (False)
 (next_ ((IntKind.wrap .i64 (size+((N:Nat):Int))),(IntKind.wrap .i64 (t+1))) h_1)
def J104_4  (slicesA:(Option Addr)) (slicesN:Nat) (newsliceA:(Option Addr)) (newsliceN newsliceC:Nat) (t1:Int) (next_1:((Option Addr×Nat×Nat)×Int->Heap->Prop)) (h_5:Heap):Prop:=
 0≤t1/\t1<(slicesN:Nat)/\AtP slicesA fun ad1=>∃ (A2:Option Addr) (N2 C2:Nat),cellH h_5 (Addr.add ad1 (Int.toNat t1*1))=some (.slice A2 N2 C2)/\∃ ys:List Value,ReadL h_5 A2 ys/\ys.length=N2*1/\AppS h_5 newsliceA newsliceN newsliceC 3 8 1 #[.int .i64 0] ys N2 fun apA apN apC h_6=>next_1 ((apA,apN,apC),(IntKind.wrap .i64 (t1+1))) h_6
def J104_3  (R:Value->Heap->Prop) (newsliceA1:Option Addr) (newsliceN1 newsliceC1:Nat) (h_7:Heap):Prop:=
 R (.slice newsliceA1 newsliceN1 newsliceC1) h_7
def B104_6 (R:Value->Heap->Prop) (slicesA:(Option Addr)) (slicesN:Nat) (newsliceA:Option Addr) (newsliceN newsliceC:Nat) (t1:Int) (h_4:Heap) (next_1:(Option Addr×Nat×Nat)×Int->Heap->Prop):Prop:=
 PIf (t1<((slicesN:Nat):Int))
 (J104_4 slicesA slicesN newsliceA newsliceN newsliceC t1 next_1 h_4)
 (J104_3 R (newsliceA) (newsliceN) (newsliceC) h_4)
def J104_0  (P:Program) (R:Value->Heap->Prop) (slicesA:(Option Addr)) (slicesN:Nat) (size1:Int) (h_2:Heap):Prop:=
 CallsH P 142 #[.slice none 0 0,.int .i64 size1] h_2 fun v h_3=>
 ∃ (A1:Option Addr) (N1 C1:Nat),v=(.slice A1 N1 C1)/\LoopT (σ:=(Option Addr×Nat×Nat)×Int) (fun st_ h_st nx_st=>B104_6 R slicesA slicesN (st_.1.1) (st_.1.2.1) (st_.1.2.2) (st_.2) h_st nx_st) ((A1,N1,C1),0) h_3
def B104_7 (P:Program) (R:Value->Heap->Prop) (slicesA:(Option Addr)) (slicesN:Nat) (size t:Int) (h_:Heap) (next_:Int×Int->Heap->Prop):Prop:=
 PIf (t<((slicesN:Nat):Int))
 (J104_1 slicesA slicesN size t next_ h_)
 (J104_0 P R slicesA slicesN (size) h_)
def VC104 (P:Program) (slicesA:Option Addr) (slicesN slicesC:Nat) (R:Value->Heap->Prop) (h:Heap):Prop:=
 LoopT (σ:=Int×Int) (fun st_ h_st nx_st=>B104_7 P R slicesA slicesN (st_.1) (st_.2) h_st nx_st) (0,0) h
theorem run104 (slicesA:Option Addr) (slicesN slicesC:Nat) (R:Value->Heap->Prop) (h:Heap) (hv:VC104 Tryz.prog slicesA slicesN slicesC R h):CallsH Tryz.prog 104 #[.slice slicesA slicesN slicesC] h R:=calls_of_fnC (Checked.mixed Tryz.checked) Tryz.func104 comp104 (Nat.le_of_ble_eq_true rfl) (Eq.mp (by kernel_rfl) hv)
def loops142:List (List (Nat×Shp)):=[]
noncomputable def code142:SCode:=((compF Tryz.prog Tryz.f142 loops142).elim .skip fun x=>x.2.2)
def ret142:List RV:=[.tmp 4]
theorem comp142:compF Tryz.prog Tryz.f142 loops142=some (27,ret142,code142):=by kernel_rfl
def J142_0  (R:Value->Heap->Prop) (sA:(Option Addr)) (sN sC:Nat) (n:Int) (h_:Heap):Prop:=
 PIf ((0:Int)<(IntKind.wrap .i64 (n-(IntKind.wrap .i64 (((sC:Nat):Int)-((sN:Nat):Int))))))
 (0≤(0:Int)/\(0:Int)≤((sC:Nat):Int)/\(((sC:Nat):Int):Int)≤(sC:Nat)/\0≤((IntKind.wrap .i64 (n-(IntKind.wrap .i64 (((sC:Nat):Int)-((sN:Nat):Int))))):Int)/\((IntKind.wrap .i64 (n-(IntKind.wrap .i64 (((sC:Nat):Int)-((sN:Nat):Int))))):Int)*8≤140737488355328/\AppS h_ (cutA 1 sA sC (Int.toNat 0)) (Int.toNat ((sC:Nat):Int)-Int.toNat 0) (sC-Int.toNat 0) 3 8 1 #[.int .i64 0] (zeroRow #[.int .i64 0] (Int.toNat (IntKind.wrap .i64 (n-(IntKind.wrap .i64 (((sC:Nat):Int)-((sN:Nat):Int)))))*1)) (Int.toNat (IntKind.wrap .i64 (n-(IntKind.wrap .i64 (((sC:Nat):Int)-((sN:Nat):Int)))))) fun apA apN apC h_1=>0≤(0:Int)/\(0:Int)≤((sN:Nat):Int)/\(((sN:Nat):Int):Int)≤(apC:Nat)/\R (.slice (cutA 1 apA apC (Int.toNat 0)) (Int.toNat ((sN:Nat):Int)-Int.toNat 0) (apC-Int.toNat 0)) h_1)
 (R (.slice sA sN sC) h_)
def VC142 (P:Program) (sA:Option Addr) (sN sC:Nat) (n:Int) (R:Value->Heap->Prop) (h:Heap):Prop:=
 PIf (n<0)
 (False)
 (J142_0 R sA sN sC n h)
theorem run142 (sA:Option Addr) (sN sC:Nat) (n:Int) (R:Value->Heap->Prop) (h:Heap) (hv:VC142 Tryz.prog sA sN sC n R h):CallsH Tryz.prog 142 #[.slice sA sN sC,.int .i64 n] h R:=calls_of_fnC (Checked.mixed Tryz.checked) Tryz.func142 comp142 (Nat.le_of_ble_eq_true rfl) (Eq.mp (by kernel_rfl) hv)
end Go.Proofs.YtdpbdjdgdmheiaaGreat
