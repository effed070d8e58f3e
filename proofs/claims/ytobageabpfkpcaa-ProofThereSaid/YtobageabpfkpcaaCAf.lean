/- Words and facts that the claim's proof leans on. No condition. -/
import Derived.Test.YtobageabpfkpcaaHxV
import Derived.Test.YtobageabpfkpcaaChecked
set_option maxRecDepth 100000
set_option linter.unusedVariables false
namespace Go.Proofs.Ytobageabpfkpcaa
open Go.Hx
def loops29:List (List (Nat×Shp)):=[]
noncomputable def code29:SCode:=((compF Try.prog Try.f29 loops29).elim .skip fun x=>x.2.2)
def ret29:List RV:=[.tmp 2]
theorem comp29:compF Try.prog Try.f29 loops29=some (8,ret29,code29):=by kernel_rfl
def VC29 (P:Program) (sA:Option Addr) (sN sC:Nat) (R:Value->Heap->Prop) (h:Heap):Prop:=
 PIf ((sA:Option Addr)=none)
 (R (.slice none 0 0) h)
 (let h_:Heap:=(h).push (.cells #[] 3);∃ ys:List Value,ReadL h_ sA ys/\ys.length=sN*1/\AppS h_ (some ⟨h.size,0,none⟩) 0 0 3 8 1 #[.int .i64 0] ys sN fun apA apN apC h_1=>R (.slice apA apN apC) h_1)
theorem vc29 (P:Program) (sA:Option Addr) (sN sC:Nat) (R:Value->Heap->Prop) (h:Heap):fnC P ret29 code29 [.slice sA sN sC] h R=VC29 P sA sN sC R h:=by kernel_rfl
theorem run29 (sA:Option Addr) (sN sC:Nat) (R:Value->Heap->Prop) (h:Heap) (hv:VC29 Try.prog sA sN sC R h):CallsH Try.prog 29 #[.slice sA sN sC] h R:=calls_of_fnC (Checked.mixed Try.checked) Try.func29 comp29 (Nat.le_of_ble_eq_true rfl) (by rw [vc29];exact hv)
def loops68:List (List (Nat×Shp)):=[[(13,.int .i64)]]
noncomputable def code68:SCode:=((compF Try.prog Try.f68 loops68).elim .skip fun x=>x.2.2)
def ret68:List RV:=[.tmp 4]
theorem comp68:compF Try.prog Try.f68 loops68=some (26,ret68,code68):=by kernel_rfl
def J68_2  (R:Value->Heap->Prop) (s1A:(Option Addr)) (s1N:Nat) (s2A:(Option Addr)) (s2N:Nat) (t:Int) (next_:(Int->Heap->Prop)) (h_2:Heap):Prop:=
 0≤t/\t<(s1N:Nat)/\AtP s1A fun ad=>∃ (t1:Int),cellH h_2 (Addr.add ad (Int.toNat t*1))=some (.int .i64 t1)/\0≤t/\t<(s2N:Nat)/\AtP s2A fun ad1=>∃ (t2:Int),cellH h_2 (Addr.add ad1 (Int.toNat t*1))=some (.int .i64 t2)/\PIf (t1=t2)
 (next_ (IntKind.wrap .i64 (t+1)) h_2)
 (R (.bool false) h_2)
def J68_1  (R:Value->Heap->Prop) (h_3:Heap):Prop:=
 R (.bool true) h_3
def B68_4 (R:Value->Heap->Prop) (s1A:(Option Addr)) (s1N:Nat) (s2A:(Option Addr)) (s2N:Nat) (t:Int) (h_1:Heap) (next_:Int->Heap->Prop):Prop:=
 PIf (t<((s1N:Nat):Int))
 (J68_2 R s1A s1N s2A s2N t next_ h_1)
 (J68_1 R h_1)
def J68_0  (R:Value->Heap->Prop) (s1A:(Option Addr)) (s1N:Nat) (s2A:(Option Addr)) (s2N:Nat) (h_:Heap):Prop:=
 LoopT (σ:=Int) (fun st_ h_st nx_st=>B68_4 R s1A s1N s2A s2N (st_) h_st nx_st) (0) h_
def VC68 (P:Program) (s1A:Option Addr) (s1N s1C:Nat) (s2A:Option Addr) (s2N s2C:Nat) (R:Value->Heap->Prop) (h:Heap):Prop:=
 PIf ((((s1N:Nat):Int):Int)=((s2N:Nat):Int))
 (J68_0 R s1A s1N s2A s2N h)
 (R (.bool false) h)
theorem vc68 (P:Program) (s1A:Option Addr) (s1N s1C:Nat) (s2A:Option Addr) (s2N s2C:Nat) (R:Value->Heap->Prop) (h:Heap):fnC P ret68 code68 [.slice s1A s1N s1C,.slice s2A s2N s2C] h R=VC68 P s1A s1N s1C s2A s2N s2C R h:=by kernel_rfl
theorem run68 (s1A:Option Addr) (s1N s1C:Nat) (s2A:Option Addr) (s2N s2C:Nat) (R:Value->Heap->Prop) (h:Heap) (hv:VC68 Try.prog s1A s1N s1C s2A s2N s2C R h):CallsH Try.prog 68 #[.slice s1A s1N s1C,.slice s2A s2N s2C] h R:=calls_of_fnC (Checked.mixed Try.checked) Try.func68 comp68 (Nat.le_of_ble_eq_true rfl) (by rw [vc68];exact hv)
end Go.Proofs.Ytobageabpfkpcaa
