/- Words and facts that the claim's proof leans on. No condition. -/
import Derived.Test.YtpmpacdjcfijbaaSE
/- .. the walk. No condition. -/
set_option linter.unusedVariables false
set_option linter.unusedSimpArgs false
namespace Go.Proofs.Ytpmpacdjcfijbaa
open Go.Hx Go.Deep
section
variable {h : Heap} {v : CV} {C : Circ} {w : TV} {T : Tr}
theorem Cnt.ext {h h' : Heap} {b cnt : Nat} {M : List (Mk × Int)} {P : Mk → Prop} (s : Cnt h b cnt M P) (u : Ext h h') : Cnt h' b cnt M P := ⟨s.map.upd u fun x => x, s.no, s.pos⟩
end
end Go.Proofs.Ytpmpacdjcfijbaa
