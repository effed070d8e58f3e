/- Words and facts that the claim's proof leans on. No condition. -/
import Derived.Test.YtdpbdjdgdmheiaaGreatSE
set_option linter.unusedVariables false
set_option linter.unusedSimpArgs false
namespace Go.Proofs.YtdpbdjdgdmheiaaGreat
open Go.Hx Go.Deep
section
variable {h:Heap} {v:CV} {C:Circ} {w:TV} {T:Tr}
theorem Cnt.ext {h h':Heap} {b cnt:Nat} {M:List (Mk×Int)} {P:Mk->Prop} (s:Cnt h b cnt M P) (u:Ext h h'):Cnt h' b cnt M P:=⟨s.map.upd u fun x=>x,s.no,s.pos⟩
theorem justQ_at {C:Circ} {j:Int} {T:Tr} (hz:(runQ C T).2.2=0):justQ C j T=((if T.loop<0 then ((T.ins.length:Int)-1,132) else
 if nextL C (valsOf C (lastM (runQ C T).1).st (T.ins.getD (T.ins.length-1) []))≠((runQ C T).1.getD T.loop.toNat ⟨[],false,[],[]⟩).st then ((T.ins.length:Int)-1,132) else
 match missF (cameIn (runQ C T).1 T.loop.toNat) j (C.just.getD j.toNat []).length 0 with
 | some k=>((k:Int),133)
 | none=>match missF (cameIn (runQ C T).1 T.loop.toNat) (-1) C.fair.length 0 with
  | some k=>(((C.just.getD j.toNat []).length:Int)+k,133)
  | none=>(T.loop,0)):Int×Int):=by
 unfold justQ
 rw [if_neg (by simp [hz])]
 rfl
end
end Go.Proofs.YtdpbdjdgdmheiaaGreat
namespace Go.Proofs.YtdpbdjdgdmheiaaGreat
open Go.Hx Go.Deep
open Classical in
noncomputable def propQ (C:Circ) (kd i:Int) (T:Tr):Int×Int:=
 if (chk C).2≠0 then (0,(chk C).2) else if kd=98/\0≤i/\i<C.bads.length then badQ C i T else if kd=106/\0≤i/\i<C.just.length then justQ C i T else (0,5)
section
variable {h:Heap} {v:CV} {C:Circ} {w:TV} {T:Tr}
end
end Go.Proofs.YtdpbdjdgdmheiaaGreat
namespace Go.Proofs.YtdpbdjdgdmheiaaGreat
open Go.Hx Go.Deep
theorem brkF_none:∀ {L:List Mo} {i:Nat},brkF L i=none↔∀ M∈L,M.ok=true
 | [],i=>by simp [brkF]
 | m::L,i=>by
  rw [brkF]
  split
  ·rename_i h
   refine iff_of_false (by simp) fun hh=>?_
   have:=hh m (List.mem_cons_self ..)
   rw [h] at this;cases this
  ·rename_i h
   rw [brkF_none]
   constructor
   ·intro hh M hM
    rcases List.mem_cons.1 hM with rfl | hM
    ·simpa using h
    ·exact hh M hM
   ·exact fun hh M hM=>hh M (List.mem_cons_of_mem _ hM)
end Go.Proofs.YtdpbdjdgdmheiaaGreat
