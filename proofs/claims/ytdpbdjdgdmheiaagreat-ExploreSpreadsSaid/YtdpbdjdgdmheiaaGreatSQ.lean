/- A step by itself, further; who may begin. No condition. -/
import Derived.Test.YtdpbdjdgdmheiaaGreatSI
set_option linter.unusedVariables false
set_option linter.unusedSimpArgs false
namespace Go.Proofs.YtdpbdjdgdmheiaaGreat
open Go.Hx Go.Deep
section
variable {h:Heap} {v:CV} {C:Circ} {sa ra:Option Addr} {sn sc rn rc:Nat} {st row:List Bool}
theorem c89n (r:CIs h v C) (ok:C.Ok) (rs:Rd h sa sn (bools st)) (rw':Rd h ra rn (bools row)) :
  CallsH Tryz.prog 89 #[v.v,.slice sa sn sc,.slice ra rn rc] h fun w h'=>Ext h h'/\((StepOk C st row/\∃ a c,w=.tuple #[.slice a (C.mx+1).toNat c,.int .i64 0]/\Fr h 1 h' a (C.mx+1).toNat c (bools (valsOf C st row)))∨(¬ StepOk C st row/\w=.tuple #[.slice none 0 0,.int .i64 (stepE C st row)])):=by
 refine run89 v sa sn sc ra rn rc _ h ?_
 unfold VC89
 intro h1
 have e1:Ext h h1:=Ext.box h _
 have hb:Rd h1 (some ⟨h.size,0,none⟩) 11 v.cs:=boxC v 29
 refine ldC hb ((c129n (r.ext e1) ok (rs.ext e1) (rw'.ext e1)).mono ?_)
 rintro _ h3 ⟨e3,⟨hs,k,v',out,a,c,rfl,rr,rv⟩ | ⟨hz,rfl⟩⟩
 ·exact ⟨_,_,_,_,_,rfl,e1.trans e3,.inl ⟨hs,a,c,rfl,rv.base e1⟩⟩
 ·exact ⟨_,_,_,_,_,rfl,e1.trans e3,.inr ⟨hz,rfl⟩⟩
end
end Go.Proofs.YtdpbdjdgdmheiaaGreat
