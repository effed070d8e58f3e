/- A trace that is taken for a bad state is a run that reaches it. No condition. -/
import Derived.Test.YtdpbdjdgdmheiaaSI
import Derived.Test.YtdpbdjdgdmheiaaSQ
set_option linter.unusedVariables false
set_option linter.unusedSimpArgs false
namespace Go.Proofs.Ytdpbdjdgdmheiaa
open Go.Hx Go.Deep
theorem propQ_bad {C:Circ} {i:Int} {T:Tr} (hc:(chk C).2=0):propQ C 98 i T=if 0≤i/\i<C.bads.length then badQ C i T else (0,5):=by
 unfold propQ
 rw [if_neg (by simp [hc])]
 by_cases h:0≤i/\i<C.bads.length
 ·rw [if_pos ⟨rfl,h⟩,if_pos h]
 ·rw [if_neg fun hh=>h hh.2,if_neg h,if_neg (by simp)]
theorem runQ_e {C:Circ} {T:Tr} (h:(runR C T).2≠0):(runQ C T).2.2≠0:=by unfold runQ;rw [if_pos h];exact h
theorem propQ_ne {C:Circ} {i:Int} {T:Tr} (h:(runR C T).2≠0):(propQ C 98 i T).2≠0:=by
 by_cases hc:(chk C).2=0
 ·rw [propQ_bad hc]
  split
  ·unfold badQ
   rw [if_pos (runQ_e h)]
   exact runQ_e h
  ·simp
 ·unfold propQ
  rw [if_pos hc]
  exact hc
theorem bad_iff {C:Circ} {i:Int} {T:Tr} (hz:(runR C T).2=0) (h0:0≤i) (h1:i<C.bads.length) {M:Mo} {r:List Bool} {x:Int} (hM:(movs C T.init T.ins)[T.ins.length-1]?=some M) (hr:T.ins[T.ins.length-1]?=some r) (hx:C.bads[i.toNat]?=some x) :
  (propQ C 98 i T).2=0↔(iniF C.lats T.init 0=none/\(∀ m∈movs C T.init T.ins,m.ok=true)/\lit (valsOf C M.st r) x=true):=by
 obtain ⟨hc,hf,hR⟩:=runR_ok hz
 rw [propQ_bad hc,if_pos ⟨h0,h1⟩]
 have hm:=(movs_at hM hr).1
 have hb:i∈M.bads↔lit (valsOf C M.st r) x=true:=by
  have:=mem_badF (V:=valsOf C M.st r) (o:=0) hx
  rw [Nat.zero_add] at this
  rw [<- this,hm]
  have hi:((i.toNat:Nat):Int)=i:=by omega
  rw [hi]
  exact Iff.rfl
 have hlast:lastM (movs C T.init T.ins)=M:=by
  unfold lastM
  rw [List.getD_eq_getElem?_getD,movs_len,hM];rfl
 unfold badQ
 by_cases hq:(runQ C T).2.2=0
 ·obtain ⟨_,_,hQ,hi,hbk⟩:=runQ_ok hq
  rw [if_neg (by simp [hq]),hQ]
  simp only [hlast]
  rw [brkF_none] at hbk
  split
  ·rename_i h
   exact iff_of_true rfl ⟨hi,hbk,hb.1 h⟩
  ·rename_i h
   exact iff_of_false (by simp) fun hh=>h (hb.2 hh.2.2)
 ·rw [if_pos hq]
  refine iff_of_false hq fun ⟨g1,g2,_⟩=>hq ?_
  unfold runQ
  rw [if_neg (by simp [hz]),g1,hR]
  simp only
  rw [(brkF_none (i:=0)).2 g2]
section
variable {h:Heap} {v:CV} {C:Circ} {w:TV} {T:Tr}
end
end Go.Proofs.Ytdpbdjdgdmheiaa
