/- Words and facts that the claim's proof leans on. No condition. -/
import Derived.Test.YtobageabpfkpcaaGreatDoorGD
set_option linter.unusedVariables false
set_option linter.unusedSimpArgs false
set_option maxRecDepth 100000
namespace Go.Hx
open Go.Proofs.YtobageabpfkpcaaGreatDoor
def pcnf:List UInt8:=[112,32,99,110,102,32]
end Go.Hx
