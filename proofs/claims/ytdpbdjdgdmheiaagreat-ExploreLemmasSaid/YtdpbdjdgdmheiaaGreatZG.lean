/- ExploreLemmas, walked. No condition. -/
import Derived.Test.YtdpbdjdgdmheiaaGreatZA
import Derived.Test.YtdpbdjdgdmheiaaGreatXL
import Derived.Test.YtdpbdjdgdmheiaaGreatCR
set_option linter.unusedVariables false
set_option linter.unusedSimpArgs false
namespace Go.Proofs.YtdpbdjdgdmheiaaGreat
open Go.Hx Go.Deep
section
variable {h:Heap} {v:CV} {C:Circ} {a:Option Addr} {n c:Nat} {l:List Int}
theorem c3 (r:CIs h v C) (ok:C.Ok) (rl:Rd h a n (ints l)) (hw:∀ x∈l,-9223372036854775808≤x/\x≤9223372036854775807) (hn:n≤17592186043904):CallsH Tryz.prog 3 #[v.v,.slice a n c] h (Xt (.bool true) h):=by
 refine run3 v a n c _ h ?_
 unfold VC3
 intro h1
 have e1:Ext h h1:=Ext.box h _
 have b1:Rd h1 (some ⟨h.size,0,none⟩) 11 v.cs:=boxC v 29
 refine ldC b1 ((c8 (r.ext e1) ok).mono ?_)
 rintro _ h2 ⟨v2,rfl,li,e2⟩
 refine ⟨_,_,_,_,_,_,_,_,_,_,_,_,_,_,_,_,_,_,_,_,_,_,_,_,_,_,_,_,_,_,_,rfl,?_⟩
 refine (c9 (rl.ext (e1.trans e2)) (by omega)).mono ?_
 rintro _ h3 ⟨la,lc,rfl,hc,fl⟩
 refine ⟨_,_,_,rfl,?_⟩
 intro h4
 refine boxN (zs:=CV.zero.cs) (ws:=v2.cs) rfl (CV.one v2) fun h5 e5 b5=>?_
 have e35:Ext h3 h5:=e5
 have li5:=li.ext (fl.ext.trans e35)
 have rl5:Rd h5 la (n+1) (ints (l++[-77])):=(fl.rd).ext e35
 have hll:=rl.ilen
 have rl5':Rd h5 la n (ints l):=by
  have:=rl5.take n (by omega)
  rw [ints,<- List.map_take,List.take_append_of_le_length (by omega),List.take_of_length_le (by omega)] at this
  exact this
 refine ldC b5 ((c10 li5.cis ok rl5' hw (by omega)).mono ?_)
 rintro _ h6 ⟨e6,p,rfl,p1,p2⟩
 have e06:Ext h h6:=((e1.trans e2).trans (fl.ext.trans e35)).trans e6
 have e16:Ext h1 h6:=(e2.trans (fl.ext.trans e35)).trans e6
 refine ⟨_,_,rfl,ldC (b1.ext e16) ((c11 (r.ext e06) ok (rl.ext e06) (by omega)).mono ?_)⟩
 rintro _ h7 ⟨e7,q,rfl,q1,q2⟩
 have hpq:p=q:=by
  have a:HolP C l h6 (.tuple #[.bool p,.int .i64 (lemE C l)]) h6:=⟨.refl _,p,rfl,p1,p2⟩
  have b:HolP C l h6 (.tuple #[.bool q,.int .i64 (lemE C l)]) h6:=⟨.refl _,q,rfl,q1,q2⟩
  have:=a.uniq b
  simpa using this
 refine ⟨_,_,rfl,fun _=>⟨fun _=>?_,fun hne=>absurd rfl hne⟩,fun hne=>absurd hpq hne⟩
 have e17:=e16.trans e7
 have e67:=e6.trans e7
 refine ldC (b5.ext e67) (ldC (b1.ext e17) (useX (c12 (li5.ext e67) (r.ext (e1.trans e17)) (Circ.Ok.sm ok)) fun h8 e8=>⟨true,rfl,BIf.t ?_⟩))
 have e68:=e67.trans e8
 refine use (c13 (rl5.ext e68) (rl.ext (e1.trans (e17.trans e8))) (by omega) hc) ⟨true,rfl,BIf.t ?_⟩
 exact useX (c14) fun h9 e9=>⟨true,rfl,rfl,((e1.trans e17).trans e8).trans e9⟩
end
end Go.Proofs.YtdpbdjdgdmheiaaGreat
