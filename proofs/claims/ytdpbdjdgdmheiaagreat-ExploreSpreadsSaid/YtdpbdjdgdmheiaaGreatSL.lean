/- A trace that is taken for a bad state is a run that reaches it. No condition. -/
import Derived.Test.YtdpbdjdgdmheiaaGreatSI
import Derived.Test.YtdpbdjdgdmheiaaGreatSQ
set_option linter.unusedVariables false
set_option linter.unusedSimpArgs false
namespace Go.Proofs.YtdpbdjdgdmheiaaGreat
open Go.Hx Go.Deep
theorem propQ_bad {C:Circ} {i:Int} {T:Tr} (hc:(chk C).2=0):propQ C 98 i T=if 0≤i/\i<C.bads.length then badQ C i T else (0,5):=by
 unfold propQ
 rw [if_neg (by simp [hc])]
 by_cases h:0≤i/\i<C.bads.length
 ·rw [if_pos ⟨rfl,h⟩,if_pos h]
 ·rw [if_neg fun hh=>h hh.2,if_neg h,if_neg (by simp)]
section
variable {h:Heap} {v:CV} {C:Circ} {w:TV} {T:Tr}
end
end Go.Proofs.YtdpbdjdgdmheiaaGreat
