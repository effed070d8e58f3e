/- Words and facts that the claim's proof leans on. No condition. -/
import Derived.Test.YtobageabpfkpcaaHxK
import Derived.Shelf.SlSortCmp.NoneTotal
set_option linter.unusedVariables false
set_option linter.unusedSimpArgs false
namespace Go.Hx
open Go.Shelf Go.RowKit Go.Lib Go.Sort Go.Proofs
section
variable {P:Program} {α:Type} [Inhabited α]
theorem world_of_same {w w':World} (hs:Same w w') (hh:w'.heap=w.heap):∃ q,w'=w.drewN q:=by
 obtain ⟨h1,t1,d1,o1,p1⟩:=w
 obtain ⟨h2,t2,d2,o2,p2⟩:=w'
 obtain ⟨ht,ho,hp,⟨hz,hd⟩⟩:=hs
 simp only at ht ho hp hd hh
 subst ht ho hp hh
 have hd:d1≤d2:=hd.resolve_right (Nat.lt_irrefl _)
 refine ⟨d2-d1,?_⟩
 unfold World.drewN
 simp only [World.mk.injEq,true_and,and_true]
 omega
theorem cmpReads_of {enc:α->Value} {cf:α->α->Int} {g:Nat} (hc:∀ x y h,CallsH P g #[enc x,enc y] h (Ret (.int .i64 (cf x y)) h)) (blk off size:Nat) (w:World) :
  CmpReads P g #[] enc cf blk off size w:=fun m os dk _ x y=>(hc x y _ _ rfl).mono fun e w' ⟨v,he,hs,hv,hh⟩=>⟨by rw [he,hv],world_of_same hs hh⟩
theorem putCells_at {enc:α->Value} {off:Nat} {d:Array α} {c:Array Value} {i:Nat} (hi:i<d.size) (hc:off+d.size≤c.size):(putCells enc off d c)[off+i]?=some (enc d[i]):=by
 unfold putCells
 rw [Array.getElem?_mapIdx,Array.getElem?_eq_getElem (by omega)]
 simp only [Option.map_some]
 rw [if_pos (by omega),show off+i-off=i by omega,getElem!_pos d i hi]
end
end Go.Hx
