/- Words and facts that the claim's proof leans on. No condition. -/
import Derived.Test.YtdpbdjdgdmheiaaGreatEA
import Derived.Test.YtdpbdjdgdmheiaaGreatDL
set_option linter.unusedVariables false
set_option linter.unusedSimpArgs false
namespace Go.Proofs.YtdpbdjdgdmheiaaGreat
open Go.Hx Go.Deep
theorem Fr.take {h0 h:Heap} {a:Option Addr} {n c m:Nat} {vs:List Value} (f:Fr h0 1 h a n c vs) (hm:m≤n):Fr h0 1 h a m c (vs.take m):=by
 have r:=f.own.rd
 rw [Nat.mul_one] at r
 have r2:=r.take m hm
 rw [<- Nat.mul_one m] at r2
 refine ⟨⟨?_,Nat.le_trans hm f.own.cap,f.own.mem⟩,f.new,f.ext⟩
 rwa [Nat.mul_one] at r2 ⊢
theorem TNew.cut {h0 h:Heap} {v:TV} {T:Tr} (c:TNew h0 h v T) {m:Nat} (hm:m≤v.i.n):TNew h0 h { v with i:=⟨v.i.a,m,v.i.c⟩ } { T with init:=T.init.take m }:=by
 obtain ⟨rows,hj,mm⟩:=c.ex
 refine ⟨c.lp,rows,hj,?_⟩
 have:=mm.setAt 0 (t':=⟨1,v.i.a,m,v.i.c,(bools T.init).take m⟩) rfl (Fr.take (mm.get 0 rfl) hm) (.refl _) (.inl rfl)
 have e:(bools T.init).take m=bools (T.init.take m):=by rw [bools,bools,List.map_take]
 rw [e] at this
 exact this
section
variable {h:Heap} {v:CV} {C:Circ} {w:TV} {T:Tr}
end
end Go.Proofs.YtdpbdjdgdmheiaaGreat
