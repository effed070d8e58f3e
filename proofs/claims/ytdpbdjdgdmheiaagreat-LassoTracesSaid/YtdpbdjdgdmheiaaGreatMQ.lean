/- A trace whose rows have room. No condition. -/
import Derived.Test.YtdpbdjdgdmheiaaGreatMJ
import Derived.Test.YtdpbdjdgdmheiaaGreatEA
set_option linter.unusedVariables false
set_option linter.unusedSimpArgs false
namespace Go.Proofs.YtdpbdjdgdmheiaaGreat
open Go.Hx Go.Deep
section
variable {H:Type} {enc:TypeId×Value->H} {W:World} {base:Nat} {held:Bool}
theorem open_traced:Opens enc Tryz.prog W base held 49 (fun p:TV×Tr=>p.1.cs) (fun p=>TIs W.heap p.1 p.2/\p.2.Ok/\p.1.i.n≤p.1.i.c/\p.1.s.n≤p.1.s.c):=by
 intro fuel cs x h hw
 obtain ⟨hl,hf⟩:=struct_cells (P:=Tryz.prog) (t:=49) Tryz.underlying49 (by kernel_rfl) h hw
 rw [show Tryz.prog.cellsOf 49=3 by kernel_rfl] at hl
 obtain ⟨i,_,h0,e0,k0,c0,n0⟩:=hf 0 _ rfl (by omega) (Opens.bools (t:=46) (e:=4) Tryz.underlying46 Tryz.underlying4 (by kernel_rfl) (by kernel_rfl))
 obtain ⟨s,_,h1,e1,k1,c1,n1,w1⟩:=hf 1 _ rfl (by omega) (Opens.brows (t:=47) (e:=46) (q:=4) Tryz.underlying47 Tryz.underlying46 Tryz.underlying4 (by kernel_rfl) (by kernel_rfl) (by kernel_rfl) (by kernel_rfl))
 obtain ⟨lp,_,h2,e2,k2⟩:=hf 2 _ rfl (by omega) (Opens.int Tryz.underlying3)
 simp only [List.cons.injEq,and_true] at e0 e1 e2
 subst e0 e1 e2
 let v:TV:=⟨⟨i.a,i.n,i.c⟩,⟨s.a,s.n,s.c⟩,lp⟩
 let T:Tr:=⟨i.l,s.l,lp⟩
 refine ⟨(v,T),list3 hl h0 h1 h2,⟨k0,k1,rfl⟩,⟨wf_i64 k2,?_,?_,w1⟩,c0,c1⟩
 ·have:=k0.ilen;simp only [T];omega
 ·have:=k1.len;simp only [T];omega
end
end Go.Proofs.YtdpbdjdgdmheiaaGreat
