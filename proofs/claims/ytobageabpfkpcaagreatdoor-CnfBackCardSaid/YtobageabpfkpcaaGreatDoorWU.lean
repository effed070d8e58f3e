/- What the library's table of powers holds. No condition. -/
import Derived.Test.YtobageabpfkpcaaGreatDoorGU
import Derived.Test.YtobageabpfkpcaaGreatDoorWT
set_option linter.unusedVariables false
set_option linter.unusedSimpArgs false
namespace Go.Proofs.YtobageabpfkpcaaGreatDoor
open Go.Hx Go.RowKit Go.ChangeShapes Go.Deep
theorem tab_of_laid {W:World} (h:laidMetH Tryz.prog laid7 W):TabH W.heap:=by
 rw [MakeChecks.laidMetH_plain _ _ _ (by kernel_rfl)] at h
 have h2:=h.tail.tail
 have e:(Rows.laid_internal_strconv_uint64pow10:DataW Unit)=Go.Lib.tabData .u64 Lib.pow10Tab:=by first | rfl | kernel_rfl
 rw [e] at h2
 have h1 : Lib.TabIs Tryz.prog W "internal/strconv.uint64pow10" .u64 Lib.pow10Tab :=
  Go.Lib.tabIs_of_head (g:=1) (t:=203) (e:=135) (n:=20) (by kernel_rfl) (by kernel_rfl) (by kernel_rfl) (by kernel_rfl) (by kernel_rfl) (by kernel_rfl) h2
 intro w hw
 unfold Lib.TabIs World.var? at h1 ⊢
 rw [hw];exact h1
end Go.Proofs.YtobageabpfkpcaaGreatDoor
