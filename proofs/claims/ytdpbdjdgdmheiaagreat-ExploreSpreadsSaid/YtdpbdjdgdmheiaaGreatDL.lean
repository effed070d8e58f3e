/- Words and facts that the claim's proof leans on. No condition. -/
import Derived.Test.YtdpbdjdgdmheiaaGreatDE
import Derived.Test.YtdpbdjdgdmheiaaGreatDA
set_option linter.unusedVariables false
set_option linter.unusedSimpArgs false
namespace Go.Proofs.YtdpbdjdgdmheiaaGreat
open Go.Hx
theorem Rd.i1 {h:Heap} {a:Option Addr} {x:Int} (r:Rd h a 1 [.int .i64 x]):Rd h a 1 (ints [x]):=r
theorem RdRs.nil {h:Heap}:RdRs h none 0 []:=⟨⟨[],.nil,fun s hs=>(by cases hs),rfl⟩⟩
section
variable {h:Heap} {v:CV} {C:Circ}
end
end Go.Proofs.YtdpbdjdgdmheiaaGreat
