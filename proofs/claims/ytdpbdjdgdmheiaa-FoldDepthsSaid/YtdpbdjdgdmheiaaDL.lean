/- Words and facts that the claim's proof leans on. No condition. -/
import Derived.Test.YtdpbdjdgdmheiaaDE
import Derived.Test.YtdpbdjdgdmheiaaDA
set_option linter.unusedVariables false
set_option linter.unusedSimpArgs false
namespace Go.Proofs.Ytdpbdjdgdmheiaa
open Go.Hx
def WC:Circ:=⟨2,[2],[⟨4,2,0⟩],[],[4],[3],[],[],[],[],[]⟩
theorem WC_defs:defs WC=(0,0,[(0,0),(1,0),(2,0)]):=by decide +kernel
theorem WC_uses:uses WC [(0,0),(1,0),(2,0)]=(0,0):=by decide +kernel
theorem WC_chk:chk WC=(0,0):=by
 have h1:sizeE WC=0:=sizeE_ok (by simp [WC]) (by simp [Big,WC])
 have h4:cyc WC (defs WC).2.2=none:=by unfold cyc;simp [WC]
 have h5:syF WC=none:=rfl
 have h6:comF WC=none:=rfl
 unfold chk
 rw [if_neg (by rw [h1];simp),if_neg (by rw [WC_defs];simp),if_neg (by rw [WC_defs];simp only;rw [WC_uses];simp),h4,h5,h6]
theorem WC_fold:foldR WC=(foldC WC,0):=by
 unfold foldR
 rw [if_neg (by rw [WC_chk];simp),if_neg (by unfold FLong WC;simp)]
theorem WC_ok:WC.Ok:=by
 have one:∀ (n:Int),-100≤n->n≤100->∀ x∈[n],W64 x:=fun n h1 h2 x hx=>by simp at hx;subst hx;exact ⟨by omega,by omega⟩
 refine ⟨⟨by decide,by decide⟩,one 2 (by omega) (by omega),fun x hx=>?_,fun x hx=>(by cases hx),one 4 (by omega) (by omega),one 3 (by omega) (by omega),fun x hx=>(by cases hx),fun x hx=>(by cases hx),fun x hx=>(by cases hx),fun x hx=>(by cases hx),fun x hx=>(by cases hx),by simp [WC],by simp [WC]⟩
 simp only [WC,List.mem_cons,List.not_mem_nil,or_false] at hx
 subst hx
 exact ⟨⟨by decide,by decide⟩,⟨by decide,by decide⟩,⟨by decide,by decide⟩⟩
theorem Rd.i1 {h:Heap} {a:Option Addr} {x:Int} (r:Rd h a 1 [.int .i64 x]):Rd h a 1 (ints [x]):=r
theorem RdRs.nil {h:Heap}:RdRs h none 0 []:=⟨⟨[],.nil,fun s hs=>(by cases hs),rfl⟩⟩
section
variable {h:Heap} {v:CV} {C:Circ}
end
end Go.Proofs.Ytdpbdjdgdmheiaa
