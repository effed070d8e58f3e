/- Words and facts that the claim's proof leans on. No condition. -/
import Derived.Test.YtdpbdjdgdmheiaaHxV
import Derived.Test.YtdpbdjdgdmheiaaChecked
set_option maxRecDepth 100000
set_option linter.unusedVariables false
namespace Go.Proofs.Ytdpbdjdgdmheiaa
open Go.Hx
def loops9:List (List (Nat×Shp)):=[]
noncomputable def code9:SCode:=((compF Try.prog Try.f9 loops9).elim .skip fun x=>x.2.2)
def ret9:List RV:=[.tmp 4]
theorem comp9:compF Try.prog Try.f9 loops9=some (94,ret9,code9):=by kernel_rfl
def J9_3  (P:Program) (R:Value->Heap->Prop) (h:Heap) (j:Int) (h_4 h_8:Heap):Prop:=
 LdC h_8 ⟨h.size,0,none⟩ fun t4=>CallsH P 13 #[t4.v,.int .i64 j] h_8 fun v2 h_9=>
 ∃ (t5:Bool) (t6:Int),v2=(.tuple #[.bool t5,.int .i64 t6])/\LdC h_9 ⟨h_4.size,0,none⟩ fun t7=>CallsH P 12 #[t7.v,.int .i64 0] h_9 fun v3 h_10=>
 ∃ (t8 t9:Int),v3=(.tuple #[.int .i64 t8,.int .i64 t9])/\PIf (t6=0)
 (PIf (t9=0)
 (PIf ((0:Int)≤t8)
 (PIf ((t5:Bool)=true)
 (R (.bool true) h_10)
 (R (.bool false) h_10))
 (PIf ((t5:Bool)=false)
 (R (.bool true) h_10)
 (R (.bool false) h_10)))
 (R (.bool false) h_10))
 (R (.bool false) h_10)
def J9_2  (P:Program) (R:Value->Heap->Prop) (h:Heap) (j:Int) (h_4 h_7:Heap):Prop:=
 ∃ (A28:Option Addr) (N28 C28:Nat),cellH h_7 (Addr.add ⟨h_4.size,0,none⟩ 2)=some (.slice A28 N28 C28)/\PIf ((8:Int)<((N28:Nat):Int))
 (R (.bool true) h_7)
 (J9_3 P R h j h_4 h_7)
def J9_1  (P:Program) (R:Value->Heap->Prop) (h:Heap) (j:Int) (h_3:Heap):Prop:=
 LdC h_3 ⟨h.size,0,none⟩ fun t1=>CallsH P 24 #[t1.v,.int .i64 j] h_3 fun v1 h_4=>
 ExCi fun t2=>∃ (t3:Int),v1=(.tuple #[t2.v,.int .i64 t3])/\let h_5:Heap:=(h_4).push (.cells CV.zero.cs.toArray 29);StoreH h_5 ⟨h_4.size,0,none⟩ t2.cs fun h_6=>PIf (t3=0)
 (J9_2 P R h j h_4 h_6)
 (∃ (A27:Option Addr) (N27 C27:Nat),cellH h_6 (Addr.add ⟨h_4.size,0,none⟩ 8)=some (.slice A27 N27 C27)/\PIf ((((N27:Nat):Int):Int)=0)
 (R (.bool true) h_6)
 (R (.bool false) h_6))
def J9_0  (P:Program) (R:Value->Heap->Prop) (h:Heap) (j:Int) (h_2:Heap):Prop:=
 ∃ (A:Option Addr) (N C:Nat),cellH h_2 (Addr.add ⟨h.size,0,none⟩ 2)=some (.slice A N C)/\PIf ((3:Int)<((N:Nat):Int))
 (R (.bool true) h_2)
 (∃ (A1:Option Addr) (N1 C1:Nat),cellH h_2 (Addr.add ⟨h.size,0,none⟩ 1)=some (.slice A1 N1 C1)/\PIf ((2:Int)<((N1:Nat):Int))
 (R (.bool true) h_2)
 (∃ (A2:Option Addr) (N2 C2:Nat),cellH h_2 (Addr.add ⟨h.size,0,none⟩ 8)=some (.slice A2 N2 C2)/\PIf ((40:Int)<((N2:Nat):Int))
 (R (.bool true) h_2)
 (∃ (A3:Option Addr) (N3 C3:Nat),cellH h_2 (Addr.add ⟨h.size,0,none⟩ 7)=some (.slice A3 N3 C3)/\PIf ((2:Int)<((N3:Nat):Int))
 (R (.bool true) h_2)
 (PIf ((0:Int)≤j)
 (∃ (A4:Option Addr) (N4 C4:Nat),cellH h_2 (Addr.add ⟨h.size,0,none⟩ 6)=some (.slice A4 N4 C4)/\PIf (j<((N4:Nat):Int))
 (∃ (A5:Option Addr) (N5 C5:Nat),cellH h_2 (Addr.add ⟨h.size,0,none⟩ 6)=some (.slice A5 N5 C5)/\0≤j/\j<(N5:Nat)/\AtP A5 fun ad=>∃ (A6:Option Addr) (N6 C6:Nat),cellH h_2 (Addr.add ad (Int.toNat j*1))=some (.slice A6 N6 C6)/\PIf ((2:Int)<((N6:Nat):Int))
 (R (.bool true) h_2)
 (J9_1 P R h j h_2))
 (J9_1 P R h j h_2))
 (J9_1 P R h j h_2)))))
def VC9 (P:Program) (c:CV) (j:Int) (R:Value->Heap->Prop) (h:Heap):Prop:=
 let h_:Heap:=(h).push (.cells (Value.cells c.v) 29);CallsH P 23 #[] h_ fun v h_1=>
 ∃ (t:Bool),v=(.bool t)/\BIf (!t) (R (.bool false) h_1) (J9_0 P R h j h_1)
theorem run9 (c:CV) (j:Int) (R:Value->Heap->Prop) (h:Heap) (hv:VC9 Try.prog c j R h):CallsH Try.prog 9 #[c.v,.int .i64 j] h R:=calls_of_fnC (Checked.mixed Try.checked) Try.func9 comp9 (Nat.le_of_ble_eq_true rfl) (Eq.mp (by kernel_rfl) hv)
end Go.Proofs.Ytdpbdjdgdmheiaa
