/- Words and facts that the claim's proof leans on. No condition. -/
import Derived.Test.YtobageabpfkpcaaGreatDoorHxV
import Derived.Test.YtobageabpfkpcaaGreatDoorChecked
set_option maxRecDepth 100000
set_option linter.unusedVariables false
namespace Go.Proofs.YtobageabpfkpcaaGreatDoor
open Go.Hx
def loops70:List (List (Nat×Shp)):=[]
noncomputable def code70:SCode:=((compF Tryz.prog Tryz.f70 loops70).elim .skip fun x=>x.2.2)
def ret70:List RV:=[.tmp 6]
theorem comp70:compF Tryz.prog Tryz.f70 loops70=some (11,ret70,code70):=by kernel_rfl
def VC70 (P:Program) (dstA:Option Addr) (dstN dstC:Nat) (i base:Int) (R:Value->Heap->Prop) (h:Heap):Prop:=
 CallsH P 106 #[.slice dstA dstN dstC,.int .i64 i,.int .i64 base] h fun v h_=>
 ∃ (A:Option Addr) (N C:Nat),v=(.slice A N C)/\R (.slice A N C) h_
theorem vc70 (P:Program) (dstA:Option Addr) (dstN dstC:Nat) (i base:Int) (R:Value->Heap->Prop) (h:Heap):fnC P ret70 code70 [.slice dstA dstN dstC,.int .i64 i,.int .i64 base] h R=VC70 P dstA dstN dstC i base R h:=by kernel_rfl
theorem run70 (dstA:Option Addr) (dstN dstC:Nat) (i base:Int) (R:Value->Heap->Prop) (h:Heap) (hv:VC70 Tryz.prog dstA dstN dstC i base R h):CallsH Tryz.prog 70 #[.slice dstA dstN dstC,.int .i64 i,.int .i64 base] h R:=calls_of_fnC (Checked.mixed Tryz.checked) Tryz.func70 comp70 (Nat.le_of_ble_eq_true rfl) (by rw [vc70];exact hv)
def loops106:List (List (Nat×Shp)):=[]
noncomputable def code106:SCode:=((compF Tryz.prog Tryz.f106 loops106).elim .skip fun x=>x.2.2)
def ret106:List RV:=[.tmp 6]
theorem comp106:compF Tryz.prog Tryz.f106 loops106=some (21,ret106,code106):=by kernel_rfl
def VC106 (P:Program) (dstA:Option Addr) (dstN dstC:Nat) (i base:Int) (R:Value->Heap->Prop) (h:Heap):Prop:=
 PIf (i<0)
 (let h_:Heap:=(h).push (.cells #[.int .u8 45] 5);∃ ys:List Value,ReadL h_ (some ⟨h.size,0,none⟩) ys/\ys.length=1*1/\AppS h_ dstA dstN dstC 5 1 1 #[.int .u8 0] ys 1 fun apA apN apC h_1=>CallsH P 135 #[.slice apA apN apC,(.int .u64 (IntKind.wrap .u64 (0-(IntKind.wrap .u64 i)))),.int .i64 base] h_1 fun v h_2=>
 ∃ (A:Option Addr) (N C:Nat),v=(.slice A N C)/\R (.slice A N C) h_2)
 (CallsH P 135 #[.slice dstA dstN dstC,(.int .u64 (IntKind.wrap .u64 i)),.int .i64 base] h fun v1 h_3=>
 ∃ (A1:Option Addr) (N1 C1:Nat),v1=(.slice A1 N1 C1)/\R (.slice A1 N1 C1) h_3)
theorem vc106 (P:Program) (dstA:Option Addr) (dstN dstC:Nat) (i base:Int) (R:Value->Heap->Prop) (h:Heap):fnC P ret106 code106 [.slice dstA dstN dstC,.int .i64 i,.int .i64 base] h R=VC106 P dstA dstN dstC i base R h:=by kernel_rfl
theorem run106 (dstA:Option Addr) (dstN dstC:Nat) (i base:Int) (R:Value->Heap->Prop) (h:Heap) (hv:VC106 Tryz.prog dstA dstN dstC i base R h):CallsH Tryz.prog 106 #[.slice dstA dstN dstC,.int .i64 i,.int .i64 base] h R:=calls_of_fnC (Checked.mixed Tryz.checked) Tryz.func106 comp106 (Nat.le_of_ble_eq_true rfl) (by rw [vc106];exact hv)
def loops135:List (List (Nat×Shp)):=[]
noncomputable def code135:SCode:=((compF Tryz.prog Tryz.f135 loops135).elim .skip fun x=>x.2.2)
def ret135:List RV:=[.tmp 6]
theorem comp135:compF Tryz.prog Tryz.f135 loops135=some (36,ret135,code135):=by kernel_rfl
def J135_0  (P:Program) (R:Value->Heap->Prop) (dstA:(Option Addr)) (dstN dstC:Nat) (i:Int) (h_2:Heap):Prop:=
 let h_3:Heap:=(h_2).push (.cells #[.int .u8 0,.int .u8 0,.int .u8 0,.int .u8 0,.int .u8 0,.int .u8 0,.int .u8 0,.int .u8 0,.int .u8 0,.int .u8 0,.int .u8 0,.int .u8 0,.int .u8 0,.int .u8 0,.int .u8 0,.int .u8 0,.int .u8 0,.int .u8 0,.int .u8 0,.int .u8 0,.int .u8 0,.int .u8 0,.int .u8 0,.int .u8 0] 184);CallsH P 158 #[.int .u64 i] h_3 fun v1 h_4=>
 ∃ (t1:Int),v1=(.int .i64 t1)/\0≤(0:Int)/\(0:Int)≤t1/\t1≤(24:Nat)/\CallsH P 159 #[(.slice (some (cutR 1 ⟨h_2.size,0,none⟩ 24 (Int.toNat 0))) (Int.toNat t1-Int.toNat 0) (24-Int.toNat 0)),.int .u64 i] h_4 fun v2 h_5=>
 v2=(.tuple #[])/\0≤(0:Int)/\(0:Int)≤t1/\t1≤(24:Nat)/\∃ ys:List Value,ReadL h_5 (some (cutR 1 ⟨h_2.size,0,none⟩ 24 (Int.toNat 0))) ys/\ys.length=(Int.toNat t1-Int.toNat 0)*1/\AppS h_5 dstA dstN dstC 5 1 1 #[.int .u8 0] ys (Int.toNat t1-Int.toNat 0) fun apA1 apN1 apC1 h_6=>R (.slice apA1 apN1 apC1) h_6
def VC135 (P:Program) (dstA:Option Addr) (dstN dstC:Nat) (i base:Int) (R:Value->Heap->Prop) (h:Heap):Prop:=
 PIf (base=10)
 (PIf (i<100)
 (CallsH P 157 #[(.int .i64 (IntKind.wrap .i64 i))] h fun v h_=>
 ∃ (t:ByteArray),v=(.string t)/\AppS h_ dstA dstN dstC 5 1 1 #[.int .u8 0] (bytesV t) t.size fun apA apN apC h_1=>R (.slice apA apN apC) h_1)
 (J135_0 P R dstA dstN dstC i h))
 (CallsH P 160 #[.slice dstA dstN dstC,.int .u64 i,.int .i64 base,.bool false,.bool true] h fun v3 h_7=>
 ∃ (A:Option Addr) (N C:Nat) (t2:ByteArray),v3=(.tuple #[.slice A N C,.string t2])/\R (.slice A N C) h_7)
theorem vc135 (P:Program) (dstA:Option Addr) (dstN dstC:Nat) (i base:Int) (R:Value->Heap->Prop) (h:Heap):fnC P ret135 code135 [.slice dstA dstN dstC,.int .u64 i,.int .i64 base] h R=VC135 P dstA dstN dstC i base R h:=by kernel_rfl
theorem run135 (dstA:Option Addr) (dstN dstC:Nat) (i base:Int) (R:Value->Heap->Prop) (h:Heap) (hv:VC135 Tryz.prog dstA dstN dstC i base R h):CallsH Tryz.prog 135 #[.slice dstA dstN dstC,.int .u64 i,.int .i64 base] h R:=calls_of_fnC (Checked.mixed Tryz.checked) Tryz.func135 comp135 (Nat.le_of_ble_eq_true rfl) (by rw [vc135];exact hv)
end Go.Proofs.YtobageabpfkpcaaGreatDoor
