/- Words and facts that the claim's proof leans on. No condition. -/
import Derived.Test.YtobageabpfkpcaaHxV
import Derived.Test.YtobageabpfkpcaaChecked
set_option maxRecDepth 100000
set_option linter.unusedVariables false
namespace Go.Proofs.Ytobageabpfkpcaa
open Go.Hx
def loops12:List (List (Nat×Shp)):=[]
noncomputable def code12:SCode:=((compF Try.prog Try.f12 loops12).elim .skip fun x=>x.2.2)
def ret12:List RV:=[.tmp 0]
theorem comp12:compF Try.prog Try.f12 loops12=some (49,ret12,code12):=by kernel_rfl
def VC12 (P:Program) (R:Value->Heap->Prop) (h:Heap):Prop:=
 let h_:Heap:=(h).push (.cells #[.int .i64 1,.int .i64 2] 3);let h_1:Heap:=(h_).push (.cells #[.int .i64 1,(.int .i64 (-2))] 3);let h_2:Heap:=(h_1).push (.cells #[(.int .i64 (-1)),.int .i64 2] 3);let h_3:Heap:=(h_2).push (.cells #[(.int .i64 (-1)),(.int .i64 (-2))] 3);let h_4:Heap:=(h_3).push (.cells #[(.slice (some ⟨h.size,0,none⟩) 2 2),(.slice (some ⟨h_.size,0,none⟩) 2 2),(.slice (some ⟨h_1.size,0,none⟩) 2 2),(.slice (some ⟨h_2.size,0,none⟩) 2 2)] 26);let h_5:Heap:=(h_4).push (.cells #[.int .i64 0,.slice none 0 0] 24);StoreH h_5 ⟨h_4.size,0,none⟩ [.int .i64 2,(.slice (some ⟨h_3.size,0,none⟩) 4 4)] fun h_6=>∃ (t:Int) (A:Option Addr) (N C:Nat),cellsH h_6 ⟨h_4.size,0,none⟩ 0 [.int .i64 t,.slice A N C]/\let h_7:Heap:=(h_6).push (.cells #[.bool false,.slice none 0 0] 39);CallsH P 14 #[(.agg #[.int .i64 t,.slice A N C]),(.slice (some ⟨h_6.size,0,none⟩) 1 1)] h_7 fun v h_8=>
 ∃ (t1:Bool) (t2 t3:Int),v=(.tuple #[.bool t1,.int .i64 t2,.int .i64 t3])/\∃ (t4:Int) (A1:Option Addr) (N1 C1:Nat),cellsH h_8 ⟨h_4.size,0,none⟩ 0 [.int .i64 t4,.slice A1 N1 C1]/\let h_9:Heap:=(h_8).push (.cells #[.int .i64 1] 3);let h_10:Heap:=(h_9).push (.cells #[.bool false,(.slice (some ⟨h_8.size,0,none⟩) 1 1),.bool false,.slice none 0 0] 39);CallsH P 14 #[(.agg #[.int .i64 t4,.slice A1 N1 C1]),(.slice (some ⟨h_9.size,0,none⟩) 2 2)] h_10 fun v1 h_11=>
 ∃ (t5:Bool) (t6 t7:Int),v1=(.tuple #[.bool t5,.int .i64 t6,.int .i64 t7])/\PIf (t2=0)
 (PIf (t3=180)
 (BIf t5 (PIf (t6=1)
 (PIf (t7=0)
 (R (.bool true) h_11)
 (R (.bool false) h_11))
 (R (.bool false) h_11)) (R (.bool false) h_11))
 (R (.bool false) h_11))
 (R (.bool false) h_11)
theorem vc12 (P:Program) (R:Value->Heap->Prop) (h:Heap):fnC P ret12 code12 [] h R=VC12 P R h:=by kernel_rfl
theorem run12 (R:Value->Heap->Prop) (h:Heap) (hv:VC12 Try.prog R h):CallsH Try.prog 12 #[] h R:=calls_of_fnC (Checked.mixed Try.checked) Try.func12 comp12 (Nat.le_of_ble_eq_true rfl) (by rw [vc12];exact hv)
end Go.Proofs.Ytobageabpfkpcaa
