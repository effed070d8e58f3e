/- Words and facts that the claim's proof leans on. No condition. -/
import Derived.Test.YtdpbdjdgdmheiaaXU
import Derived.Test.YtdpbdjdgdmheiaaFA
import Derived.Test.YtdpbdjdgdmheiaaXL
import Derived.Test.YtdpbdjdgdmheiaaDL
set_option linter.unusedVariables false
set_option linter.unusedSimpArgs false
namespace Go.Proofs.Ytdpbdjdgdmheiaa
open Go.Hx
section
variable {C:Circ}
def fst (st:List Bool) (b:Bool):Nat:=numN (st++[b])
end
end Go.Proofs.Ytdpbdjdgdmheiaa
namespace Go.Proofs.Ytdpbdjdgdmheiaa
open Go.Hx
section
variable {C:Circ}
theorem IsDep.ex {W:Wd} {s d:Nat} (r:Rch W d s):∃ e,e≤d/\IsDep W s e:=IsDep.of r
end
end Go.Proofs.Ytdpbdjdgdmheiaa
