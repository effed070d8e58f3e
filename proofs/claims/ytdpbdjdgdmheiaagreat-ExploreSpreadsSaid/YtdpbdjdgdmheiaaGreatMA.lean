/- Words and facts that the claim's proof leans on. No condition. -/
import Derived.Test.YtdpbdjdgdmheiaaGreatFA
import Derived.Test.YtdpbdjdgdmheiaaGreatDA
set_option linter.unusedVariables false
set_option linter.unusedSimpArgs false
namespace Go.Hx
open Go.Proofs.YtdpbdjdgdmheiaaGreat
structure More (C X:Circ) (I2:List Int) (L2 G:List L3) (p:Nat):Prop where
 ins:X.ins=C.ins++I2
 lats:X.lats=C.lats++L2
 ands:X.ands=C.ands++G
 mx:X.mx=C.mx+p+G.length
 base:I2++L2.map L3.a=(List.range p).map fun q=>2*(C.mx+1+((q:Nat):Int))
 out:∀ (i:Nat) g,G[i]?=some g->g.a=2*(C.mx+p+1+i)
 rst:∀ x∈L2,x.c=0∨x.c=1
theorem append_at {α:Type} {A B:List α} {i:Nat} {x:α} (h:(A++B)[i]?=some x):A[i]?=some x∨(A.length≤i/\B[i-A.length]?=some x):=by
 rcases Nat.lt_or_ge i A.length with hl | hl
 ·rw [List.getElem?_append_left hl] at h;exact .inl h
 ·rw [List.getElem?_append_right hl] at h;exact .inr ⟨hl,h⟩
section
variable {C X:Circ} {I2:List Int} {L2 G:List L3} {p:Nat} {BC BX:List Mk}
theorem More.len (m:More C X I2 L2 G p):I2.length+L2.length=p:=by
 have:=congrArg List.length m.base
 simpa using this
theorem More.bi (m:More C X I2 L2 G p) {i:Nat} {x:Int} (h:I2[i]?=some x):x=2*(C.mx+1+i)/\i<I2.length:=by
 have hi:=(List.getElem?_eq_some_iff.1 h).1
 have hl:=m.len
 have:(I2++L2.map L3.a)[i]?=((List.range p).map fun q=>2*(C.mx+1+((q:Nat):Int)))[i]?:=by rw [m.base]
 rw [List.getElem?_append_left hi,h,List.getElem?_map,List.getElem?_range (by omega)] at this
 simp only [Option.map_some,Option.some.injEq] at this
 exact ⟨this,hi⟩
theorem More.bl (m:More C X I2 L2 G p) {i:Nat} {x:L3} (h:L2[i]?=some x):x.a=2*(C.mx+1+I2.length+i)/\i<L2.length:=by
 have hi:=(List.getElem?_eq_some_iff.1 h).1
 have hl:=m.len
 have:(I2++L2.map L3.a)[I2.length+i]?=((List.range p).map fun q=>2*(C.mx+1+((q:Nat):Int)))[I2.length+i]?:=by rw [m.base]
 rw [List.getElem?_append_right (by omega),Nat.add_sub_cancel_left,List.getElem?_map,h,List.getElem?_map,List.getElem?_range (by omega)] at this
 simp only [Option.map_some,Option.some.injEq] at this
 exact ⟨by omega,hi⟩
theorem More.dok (m:More C X I2 L2 G p) (d:DOk C):DOk X:=by
 have hmx:=d.mx
 have hl:=m.len
 have hX:=m.mx
 have ci:∀ {i:Nat} {x:Int},X.ins[i]?=some x->C.ins[i]?=some x∨(C.ins.length≤i/\x=2*(C.mx+1+((i-C.ins.length:Nat):Int))/\i-C.ins.length<I2.length):=fun {i x} h=>by
  rw [m.ins] at h
  rcases append_at h with h | ⟨h1,h⟩
  ·exact .inl h
  ·exact .inr ⟨h1,m.bi h⟩
 have cl:∀ {i:Nat} {x:L3},X.lats[i]?=some x->C.lats[i]?=some x∨(C.lats.length≤i/\(x.a=2*(C.mx+1+I2.length+((i-C.lats.length:Nat):Int))/\i-C.lats.length<L2.length)/\(x.c=0∨x.c=1)):=fun {i x} h=>by
  rw [m.lats] at h
  rcases append_at h with h | ⟨h1,h⟩
  ·exact .inl h
  ·exact .inr ⟨h1,m.bl h,m.rst x (List.mem_of_getElem? h)⟩
 have cg:∀ {i:Nat} {x:L3},X.ands[i]?=some x->C.ands[i]?=some x∨(C.ands.length≤i/\x.a=2*(C.mx+p+1+((i-C.ands.length:Nat):Int))/\i-C.ands.length<G.length):=fun {i x} h=>by
  rw [m.ands] at h
  rcases append_at h with h | ⟨h1,h⟩
  ·exact .inl h
  ·exact .inr ⟨h1,m.out _ _ h,(List.getElem?_eq_some_iff.1 h).1⟩
 have lt:∀ {α:Type} {A:List α} {i:Nat} {x:α},A[i]?=some x->i<A.length:=fun h=>(List.getElem?_eq_some_iff.1 h).1
 refine ⟨by omega,fun i x hx=>?_,fun i x hx=>?_,fun i x hx=>?_,fun i j x y hij hx hy=>?_,fun i j x y hij hx hy=>?_,fun i j x y hij hx hy=>?_,fun i j x y hx hy=>?_,fun i j x y hx hy=>?_,fun i j x y hx hy=>?_⟩
 ·rcases ci hx with h | ⟨h1,h2,h3⟩
  ·have:=d.i i x h;omega
  ·omega
 ·rcases cl hx with h | ⟨h1,⟨h2,h3⟩,h4⟩
  ·have:=d.l i x h;exact ⟨this.1,this.2.1,by omega,this.2.2.2⟩
  ·refine ⟨by omega,by omega,by omega,?_⟩
   unfold Hx.rst
   rcases h4 with h4 | h4 <;> simp [h4]
 ·rcases cg hx with h | ⟨h1,h2,h3⟩
  ·have:=d.g i x h;omega
  ·omega
 ·rcases ci hx with h | ⟨h1,h2,h3⟩ <;> rcases ci hy with k | ⟨k1,k2,k3⟩
  ·exact d.ii i j x y hij h k
  ·have:=d.i i x h;omega
  ·have:=lt k;omega
  ·omega
 ·rcases cl hx with h | ⟨h1,⟨h2,h3⟩,h4⟩ <;> rcases cl hy with k | ⟨k1,⟨k2,k3⟩,k4⟩
  ·exact d.ll i j x y hij h k
  ·have:=d.l i x h;omega
  ·have:=lt k;omega
  ·omega
 ·rcases cg hx with h | ⟨h1,h2,h3⟩ <;> rcases cg hy with k | ⟨k1,k2,k3⟩
  ·exact d.gg i j x y hij h k
  ·have:=d.g i x h;omega
  ·have:=lt k;omega
  ·omega
 ·rcases ci hx with h | ⟨h1,h2,h3⟩ <;> rcases cl hy with k | ⟨k1,⟨k2,k3⟩,k4⟩
  ·exact d.il i j x y h k
  ·have:=d.i i x h;omega
  ·have:=d.l j y k;omega
  ·omega
 ·rcases ci hx with h | ⟨h1,h2,h3⟩ <;> rcases cg hy with k | ⟨k1,k2,k3⟩
  ·exact d.ig i j x y h k
  ·have:=d.i i x h;omega
  ·have:=d.g j y k;omega
  ·omega
 ·rcases cl hx with h | ⟨h1,⟨h2,h3⟩,h4⟩ <;> rcases cg hy with k | ⟨k1,k2,k3⟩
  ·exact d.lg i j x y h k
  ·have:=d.l i x h;omega
  ·have:=d.g j y k;omega
  ·omega
def OkL (C:Circ) (BC:List Mk) (q:Nat) (l:Int):Prop:=us1 C.mx BC l=0∨(2*(C.mx+1)≤l/\l≤2*(C.mx+q)+1)
theorem OkL.mono {q q':Nat} {l:Int} (h:OkL C BC q l) (hq:q≤q'):OkL C BC q' l:=h.imp id fun ⟨a,b⟩=>⟨a,by omega⟩
theorem OkL.rng {q:Nat} {l:Int} (hm:0≤C.mx) (h:OkL C BC q l):0≤l/\l≤2*(C.mx+q)+1:=by
 rcases h with h | h
 ·have:=(us1_zero.1 h).1;omega
 ·omega
theorem us_old (m:More C X I2 L2 G p) (dC:Dn C BC) (dX:Dn X BX) {l:Int} (h:us1 C.mx BC l=0):us1 X.mx BX l=0:=by
 rw [us1_zero] at h ⊢
 obtain ⟨⟨h1,h2⟩,h3⟩:=h
 have hmx:=m.mx
 refine ⟨⟨h1,by omega⟩,fun hl=>?_⟩
 have hj:(l / 2).toNat<BC.length:=by rw [dC.len];omega
 have hp:=List.getElem?_eq_getElem hj
 have h4:=h3 hl
 rw [getD_mk hp] at h4
 rcases dC.b _ _ hp with hz | ⟨a,b,x,hx,e⟩ | ⟨a,b,x,hx,e⟩ | ⟨a,b,x,hx,e⟩
 ·rw [hz] at h4;exact absurd rfl h4
 ·have:=(dX.i _ x (by rw [m.ins,List.getElem?_append_left (List.getElem?_eq_some_iff.1 hx).1];exact hx)).2.2.2
  rw [e] at this
  rw [getD_mk this];simp
 ·have:=(dX.l _ x (by rw [m.lats,List.getElem?_append_left (List.getElem?_eq_some_iff.1 hx).1];exact hx)).2.2.2
  rw [e] at this
  rw [getD_mk this];simp
 ·have:=(dX.g _ x (by rw [m.ands,List.getElem?_append_left (List.getElem?_eq_some_iff.1 hx).1];exact hx)).2.2.2
  rw [e] at this
  rw [getD_mk this];simp
theorem More.maker (m:More C X I2 L2 G p) (hm:0≤C.mx) (dX:Dn X BX) {q:Nat} (hq:q<p+G.length):(q<I2.length/\BX[(C.mx+1).toNat+q]?=some (1,((C.ins.length+q:Nat):Int)))∨(I2.length≤q/\q<p/\BX[(C.mx+1).toNat+q]?=some (2,((C.lats.length+(q-I2.length):Nat):Int))) ∨
  (p≤q/\BX[(C.mx+1).toNat+q]?=some (3,((C.ands.length+(q-p):Nat):Int))):=by
 have hl:=m.len
 rcases Nat.lt_or_ge q I2.length with h | h
 ·left
  have hx:=List.getElem?_eq_getElem h
  have hb:=(m.bi hx).1
  have:=(dX.i (C.ins.length+q) _ (by rw [m.ins,List.getElem?_append_right (by omega),Nat.add_sub_cancel_left];exact hx)).2.2.2
  rw [hb,show (2*(C.mx+1+(q:Int)) / 2).toNat=(C.mx+1).toNat+q by omega] at this
  exact ⟨h,this⟩
 ·right
  rcases Nat.lt_or_ge q p with h2 | h2
  ·left
   have hx:=List.getElem?_eq_getElem (l:=L2) (i:=q-I2.length) (by omega)
   have hb:=(m.bl hx).1
   have:=(dX.l (C.lats.length+(q-I2.length)) _ (by rw [m.lats,List.getElem?_append_right (by omega),Nat.add_sub_cancel_left];exact hx)).2.2.2
   rw [hb,show (2*(C.mx+1+I2.length+((q-I2.length:Nat):Int)) / 2).toNat=(C.mx+1).toNat+q by omega] at this
   exact ⟨h,h2,this⟩
  ·right
   have hx:=List.getElem?_eq_getElem (l:=G) (i:=q-p) (by omega)
   have hb:=m.out _ _ hx
   have:=(dX.g (C.ands.length+(q-p)) _ (by rw [m.ands,List.getElem?_append_right (by omega),Nat.add_sub_cancel_left];exact hx)).2.2.2
   rw [hb,show (2*(C.mx+p+1+((q-p:Nat):Int)) / 2).toNat=(C.mx+1).toNat+q by omega] at this
   exact ⟨h2,this⟩
theorem us_new (m:More C X I2 L2 G p) (hm:0≤C.mx) (dX:Dn X BX) {l:Int} (h1:2*(C.mx+1)≤l) (h2:l≤2*X.mx+1):us1 X.mx BX l=0:=by
 have hmx:=m.mx
 rw [us1_zero]
 refine ⟨by omega,fun _=>?_⟩
 obtain ⟨q,hq,e⟩:∃ q:Nat,q<p+G.length/\(l / 2).toNat=(C.mx+1).toNat+q:=⟨(l / 2).toNat-(C.mx+1).toNat,by omega,by omega⟩
 rw [e]
 rcases m.maker hm dX hq with ⟨_,h⟩ | ⟨_,_,h⟩ | ⟨_,h⟩ <;> rw [getD_mk h] <;> simp
theorem OkL.us (m:More C X I2 L2 G p) (hm:0≤C.mx) (dC:Dn C BC) (dX:Dn X BX) {l:Int} (h:OkL C BC (p+G.length) l):us1 X.mx BX l=0:=by
 rcases h with h | ⟨h1,h2⟩
 ·exact us_old m dC dX h
 ·exact us_new m hm dX h1 (by have:=m.mx;omega)
theorem More.lead (m:More C X I2 L2 G p) (hm:0≤C.mx) (dC:Dn C BC) (dX:Dn X BX) {l:Int} {q:Nat} (h:OkL C BC q l) (hq:q≤p+G.length) {y:Nat} (hy:y∈gateOf BX l):(y<C.ands.length/\y∈gateOf BC l)∨(C.ands.length≤y/\y+p<C.ands.length+q):=by
 obtain ⟨x,hx,e⟩:=gate_def dX hy
 rw [m.ands] at hx
 have hr:=h.rng hm
 rcases append_at hx with hx | ⟨h1,hx⟩
 ·left
  have hyl:=(List.getElem?_eq_some_iff.1 hx).1
  obtain ⟨a,b,c,dd⟩:=dC.g _ x hx
  refine ⟨hyl,?_⟩
  rw [e] at dd
  have:=mem_gate dd rfl
  simpa using this
 ·right
  have ha:=m.out _ _ hx
  exact ⟨h1,by omega⟩
theorem cyc_more (m:More C X I2 L2 G p) (hm:0≤C.mx) (dC:Dn C BC) (dX:Dn X BX) (hl:∀ x∈C.ands,us1 C.mx BC x.b=0/\us1 C.mx BC x.c=0) (hG:∀ (i:Nat) g,G[i]?=some g->OkL C BC (p+i) g.b/\OkL C BC (p+i) g.c) (h:cyc C BC=none):cyc X BX=none:=by
 have hno:∀ i,i<C.ands.length->¬ Rnd C BC i:=fun i hi hr=>by
  unfold cyc at h
  rw [List.find?_eq_none] at h
  exact h i (List.mem_range.2 hi) (@decide_eq_true _ (_) hr)
 have lead0:∀ {l:Int},us1 C.mx BC l=0->∀ {y:Nat},y∈gateOf BX l->y<C.ands.length/\y∈gateOf BC l:=fun {l} hu {y} hy=>by
  rcases m.lead hm dC dX (q:=0) (.inl hu) (Nat.zero_le _) hy with h | ⟨h1,h2⟩
  ·exact h
  ·omega
 have step:∀ i y,y∈bel X BX i->(i<C.ands.length->y<C.ands.length/\y∈bel C BC i)/\(C.ands.length≤i->y<i):=fun i y hy=>by
  unfold bel at hy
  rw [m.ands] at hy
  constructor
  ·intro hi
   rw [List.getElem?_append_left hi] at hy
   have hx:=List.getElem?_eq_getElem hi
   rw [hx] at hy
   simp only at hy
   have hlx:=hl _ (List.getElem_mem hi)
   unfold bel
   rw [hx]
   simp only
   rcases List.mem_append.1 hy with hy | hy
   ·have:=lead0 hlx.1 hy;exact ⟨this.1,List.mem_append_left _ this.2⟩
   ·have:=lead0 hlx.2 hy;exact ⟨this.1,List.mem_append_right _ this.2⟩
  ·intro hi
   rw [List.getElem?_append_right hi] at hy
   cases hg:G[i-C.ands.length]? with
   | none=>rw [hg] at hy;cases hy
   | some x=>
    rw [hg] at hy
    simp only at hy
    have hgl:=(List.getElem?_eq_some_iff.1 hg).1
    obtain ⟨o1,o2⟩:=hG _ _ hg
    have one:∀ {l:Int},OkL C BC (p+(i-C.ands.length)) l->y∈gateOf BX l->y<i:=fun ho hy=>by
     rcases m.lead hm dC dX ho (by omega) hy with h | h <;> omega
    rcases List.mem_append.1 hy with hy | hy
    ·exact one o1 hy
    ·exact one o2 hy
 have key:∀ a b,Relation.TransGen (fun a b=>b∈bel X BX a) a b->(a<C.ands.length->b<C.ands.length/\Relation.TransGen (fun a b=>b∈bel C BC a) a b)/\(C.ands.length≤a->b<a):=by
  intro a b hab
  induction hab with
  | single h1=>
   have:=step _ _ h1
   exact ⟨fun ha=>⟨(this.1 ha).1,.single (this.1 ha).2⟩,this.2⟩
  | tail _ h2 ih=>
   have:=step _ _ h2
   refine ⟨fun ha=>?_,fun ha=>?_⟩
   ·obtain ⟨g1,g2⟩:=ih.1 ha
    exact ⟨(this.1 g1).1,.tail g2 (this.1 g1).2⟩
   ·have g:=ih.2 ha
    rename_i b' c' _
    rcases Nat.lt_or_ge b' C.ands.length with h | h
    ·have:=(this.1 h).1;omega
    ·have:=this.2 h;omega
 refine cyc_none fun j hj hr=>?_
 have:=key j j hr
 rcases Nat.lt_or_ge j C.ands.length with h | h
 ·exact hno j h (this.1 h).2
 ·have:=this.2 h;omega
theorem usL_mem {mx:Int} {B:List Mk} {l:List Int} (h:usL mx B l=0):∀ x∈l,us1 mx B x=0:=(firstE_ok h).1
theorem uses_ok (h:(chk C).2=0):(∀ x∈C.lats,us1 C.mx (defs C).2.2 x.b=0)/\(∀ x∈C.outs,us1 C.mx (defs C).2.2 x=0)/\(∀ x∈C.bads,us1 C.mx (defs C).2.2 x=0)/\(∀ x∈C.cons,us1 C.mx (defs C).2.2 x=0)/\(∀ l∈C.just,∀ x∈l,us1 C.mx (defs C).2.2 x=0) /\
  (∀ x∈C.fair,us1 C.mx (defs C).2.2 x=0)/\(∀ x∈C.ands,us1 C.mx (defs C).2.2 x.b=0/\us1 C.mx (defs C).2.2 x.c=0):=by
 have hu:=(chk_ok h).2.2.1
 unfold uses at hu
 obtain ⟨h1,hu⟩:=firstE_ok hu
 obtain ⟨h2,hu⟩:=firstE_ok hu
 obtain ⟨h3,hu⟩:=firstE_ok hu
 obtain ⟨h4,hu⟩:=firstE_ok hu
 obtain ⟨h5,hu⟩:=firstE_ok hu
 obtain ⟨h6,hu⟩:=firstE_ok hu
 obtain ⟨h7,hu⟩:=firstE_ok hu
 exact ⟨h1,h2,h3,h4,fun l hl=>usL_mem (h5 l hl),h6,fun x hx=>⟨usL_mem (h7 x hx) _ (by simp),usL_mem (h7 x hx) _ (by simp)⟩⟩
theorem chk_more (m:More C X I2 L2 G p) (h:(chk C).2=0) (hs:sizeE X=0) (hG:∀ (i:Nat) g,G[i]?=some g->OkL C (defs C).2.2 (p+i) g.b/\OkL C (defs C).2.2 (p+i) g.c) (hL:∀ x∈L2,OkL C (defs C).2.2 (p+G.length) x.b)
  (ho:∀ x∈X.outs,OkL C (defs C).2.2 (p+G.length) x) (hb:∀ x∈X.bads,OkL C (defs C).2.2 (p+G.length) x) (hc:∀ x∈X.cons,OkL C (defs C).2.2 (p+G.length) x) (hj:∀ l∈X.just,∀ x∈l,OkL C (defs C).2.2 (p+G.length) x) (hf:∀ x∈X.fair,OkL C (defs C).2.2 (p+G.length) x)
  (hsy:syF X=none) (hco:comF X=none):chk X=(0,0):=by
 have dc:=dok_of h
 have dx:=m.dok dc
 have hD:=dx.defs
 have dX:=dn_of dx.mx hD
 have dC:=dn h
 have hm:=dc.mx
 obtain ⟨u1,u2,u3,u4,u5,u6,u7⟩:=uses_ok h
 have us:∀ {l:Int},OkL C (defs C).2.2 (p+G.length) l->us1 X.mx (defs X).2.2 l=0:=fun hl=>hl.us m hm dC dX
 have s3:(uses X (defs X).2.2).2=0:=by
  unfold uses
  rw [firstE_all (l:=X.lats),firstE_all (l:=X.outs),firstE_all (l:=X.bads),firstE_all (l:=X.cons),firstE_all (l:=X.just),firstE_all (l:=X.fair),firstE_all (l:=X.ands)]
  ·intro x hx
   rw [m.ands] at hx
   have two:us1 X.mx (defs X).2.2 x.b=0/\us1 X.mx (defs X).2.2 x.c=0:=by
    rcases List.mem_append.1 hx with hx | hx
    ·exact ⟨us (.inl (u7 x hx).1),us (.inl (u7 x hx).2)⟩
    ·obtain ⟨i,hi⟩:=List.mem_iff_getElem?.1 hx
     have hil:=(List.getElem?_eq_some_iff.1 hi).1
     have:=hG i x hi
     exact ⟨us (this.1.mono (by omega)),us (this.2.mono (by omega))⟩
   exact usL_all fun l hl=>by
    simp only [List.mem_cons,List.not_mem_nil,or_false] at hl
    rcases hl with rfl | rfl
    ·exact two.1
    ·exact two.2
  ·exact fun x hx=>us (hf x hx)
  ·exact fun l hl=>usL_all fun x hx=>us (hj l hl x hx)
  ·exact fun x hx=>us (hc x hx)
  ·exact fun x hx=>us (hb x hx)
  ·exact fun x hx=>us (ho x hx)
  ·intro x hx
   rw [m.lats] at hx
   rcases List.mem_append.1 hx with hx | hx
   ·exact us (.inl (u1 x hx))
   ·exact us (hL x hx)
 have s4:=cyc_more m hm dC dX u7 hG (chk_ok h).2.2.2.1
 unfold chk
 rw [if_neg (by rw [hs];simp),if_neg (by rw [hD];simp),if_neg (by rw [s3];simp),s4,hsy,hco]
end
def evalG:List Bool->List L3->List Bool
 | V,[]=>V
 | V,g::G=>evalG (V++[lit V g.b && lit V g.c]) G
theorem evalG_app:∀ {G:List L3} {V:List Bool} {H:List L3},evalG V (G++H)=evalG (evalG V G) H
 | [],V,H=>rfl
 | g::G,V,H=>by rw [List.cons_append,evalG,evalG,evalG_app]
theorem evalG_len:∀ {G:List L3} {V:List Bool},(evalG V G).length=V.length+G.length
 | [],V=>rfl
 | g::G,V=>by rw [evalG,evalG_len];simp;omega
theorem evalG_pre:∀ {G:List L3} {V:List Bool} {j:Nat},j<V.length->(evalG V G)[j]?=V[j]?
 | [],V,j,h=>rfl
 | g::G,V,j,h=>by rw [evalG,evalG_pre (by simp;omega),List.getElem?_append_left h]
theorem lit_pre {V W:List Bool} {l:Int} (h:W[(l / 2).toNat]?=V[(l / 2).toNat]?):lit W l=lit V l:=by
 unfold lit
 rw [List.getD_eq_getElem?_getD,h,<- List.getD_eq_getElem?_getD]
theorem lit_evalG {G:List L3} {V:List Bool} {l:Int} (h:(l / 2).toNat<V.length):lit (evalG V G) l=lit V l:=lit_pre (evalG_pre h)
theorem evalG_at:∀ {G:List L3} {V:List Bool} {i:Nat} {g:L3},G[i]?=some g->(g.b / 2).toNat<V.length+i->(g.c / 2).toNat<V.length+i->(evalG V G)[V.length+i]?=some (lit (evalG V G) g.b && lit (evalG V G) g.c)
 | [],_,_,_,h,_,_=>by simp at h
 | g'::G,V,0,g,h,hb,hc=>by
  simp only [List.getElem?_cons_zero,Option.some.injEq] at h
  subst h
  rw [evalG,evalG_pre (by simp),lit_evalG (by simp;omega),lit_evalG (by simp;omega)]
  have e:∀ l:Int,(l / 2).toNat<V.length->lit (V++[lit V g'.b && lit V g'.c]) l=lit V l:=fun l hl=>lit_pre (List.getElem?_append_left hl)
  rw [e _ (by omega),e _ (by omega),Nat.add_zero,List.getElem?_append_right (Nat.le_refl _),Nat.sub_self]
  rfl
 | g'::G,V,i+1,g,h,hb,hc=>by
  simp only [List.getElem?_cons_succ] at h
  have:=evalG_at (V:=V++[lit V g'.b && lit V g'.c]) h (by simp;omega) (by simp;omega)
  rw [List.length_append,List.length_singleton,show V.length+1+i=V.length+(i+1) by omega] at this
  rw [evalG]
  exact this
section
variable {C X:Circ} {I2:List Int} {L2 G:List L3} {p:Nat} {BC BX:List Mk} {V st st2 row row2:List Bool}
theorem val_more (m:More C X I2 L2 G p) (hm:0≤C.mx) (dC:Dn C BC) (dX:Dn X BX) (hl:∀ x∈C.ands,us1 C.mx BC x.b=0/\us1 C.mx BC x.c=0) (hG:∀ (i:Nat) g,G[i]?=some g->OkL C BC (p+i) g.b/\OkL C BC (p+i) g.c)
  (hs:st.length=C.lats.length) (hr:row.length=C.ins.length) (hs2:st2.length=L2.length) (hr2:row2.length=I2.length) (hv:Val C BC st row V):Val X BX (st++st2) (row++row2) (evalG (V++(row2++st2)) G):=by
 have hV:=hv.len
 have hlen:=m.len
 have hmx:=m.mx
 have hW:(V++(row2++st2)).length=(C.mx+1).toNat+p:=by simp [hV,hs2,hr2];omega
 have old:∀ {j:Nat},j<(C.mx+1).toNat->(evalG (V++(row2++st2)) G)[j]?=V[j]?:=fun {j} hj=>by rw [evalG_pre (by omega),List.getElem?_append_left (by omega)]
 have oldl:∀ {l:Int},us1 C.mx BC l=0->lit (evalG (V++(row2++st2)) G) l=lit V l:=fun {l} hl=>lit_pre (old (by have:=(us1_zero.1 hl).1;omega))
 refine ⟨?_,fun j hj=>?_,fun i x b hx hbb=>?_,fun i x b hx hbb=>?_,fun i x hx=>?_⟩
 ·rw [evalG_len,hW];omega
 ·have hjl:=(List.getElem?_eq_some_iff.1 hj).1
  rw [dX.len] at hjl
  rcases Nat.lt_or_ge j (C.mx+1).toNat with h | h
  ·rw [old h]
   have hp:=List.getElem?_eq_getElem (l:=BC) (i:=j) (by rw [dC.len];exact h)
   rcases dC.b _ _ hp with hz | ⟨a,b,x,hx,e⟩ | ⟨a,b,x,hx,e⟩ | ⟨a,b,x,hx,e⟩
   ·exact hv.z j (by rw [hp,hz])
   ·have:=(dX.i _ x (by rw [m.ins,List.getElem?_append_left (List.getElem?_eq_some_iff.1 hx).1];exact hx)).2.2.2
    rw [e,hj] at this;simp at this
   ·have:=(dX.l _ x (by rw [m.lats,List.getElem?_append_left (List.getElem?_eq_some_iff.1 hx).1];exact hx)).2.2.2
    rw [e,hj] at this;simp at this
   ·have:=(dX.g _ x (by rw [m.ands,List.getElem?_append_left (List.getElem?_eq_some_iff.1 hx).1];exact hx)).2.2.2
    rw [e,hj] at this;simp at this
  ·exfalso
   rcases m.maker hm dX (q:=j-(C.mx+1).toNat) (by omega) with ⟨_,h2⟩ | ⟨_,_,h2⟩ | ⟨_,h2⟩ <;> rw [show (C.mx+1).toNat+(j-(C.mx+1).toNat)=j by omega,hj] at h2 <;> simp at h2
 ·rw [m.ins] at hx
  rcases append_at hx with hx | ⟨h1,hx⟩
  ·have hil:=(List.getElem?_eq_some_iff.1 hx).1
   rw [List.getElem?_append_left (by omega)] at hbb
   have:=dC.i i x hx
   rw [old (by omega)]
   exact hv.i i x b hx hbb
  ·obtain ⟨e,h2⟩:=m.bi hx
   rw [List.getElem?_append_right (by omega),hr] at hbb
   rw [e,show (2*(C.mx+1+((i-C.ins.length:Nat):Int)) / 2).toNat=(C.mx+1).toNat+(i-C.ins.length) by omega,evalG_pre (by omega),List.getElem?_append_right (by omega),hV,Nat.add_sub_cancel_left,List.getElem?_append_left (by omega)]
   exact hbb
 ·rw [m.lats] at hx
  rcases append_at hx with hx | ⟨h1,hx⟩
  ·have hil:=(List.getElem?_eq_some_iff.1 hx).1
   rw [List.getElem?_append_left (by omega)] at hbb
   have:=dC.l i x hx
   rw [old (by omega)]
   exact hv.l i x b hx hbb
  ·obtain ⟨e,h2⟩:=m.bl hx
   rw [List.getElem?_append_right (by omega),hs] at hbb
   rw [e,show (2*(C.mx+1+I2.length+((i-C.lats.length:Nat):Int)) / 2).toNat=(C.mx+1).toNat+(I2.length+(i-C.lats.length)) by omega,evalG_pre (by omega),List.getElem?_append_right (by omega),hV,Nat.add_sub_cancel_left,List.getElem?_append_right (by omega),hr2,Nat.add_sub_cancel_left]
   exact hbb
 ·rw [m.ands] at hx
  rcases append_at hx with hx | ⟨h1,hx⟩
  ·have:=dC.g i x hx
   have hlx:=hl x (List.mem_of_getElem? hx)
   rw [old (by omega),oldl hlx.1,oldl hlx.2]
   exact hv.g i x hx
  ·have ha:=m.out _ _ hx
   obtain ⟨o1,o2⟩:=hG _ _ hx
   have r1:=o1.rng hm
   have r2:=o2.rng hm
   rw [ha,show (2*(C.mx+p+1+((i-C.ands.length:Nat):Int)) / 2).toNat=(V++(row2++st2)).length+(i-C.ands.length) by omega]
   exact evalG_at hx (by omega) (by omega)
theorem vals_more (m:More C X I2 L2 G p) (h:(chk C).2=0) (hX:(chk X).2=0) (hG:∀ (i:Nat) g,G[i]?=some g->OkL C (defs C).2.2 (p+i) g.b/\OkL C (defs C).2.2 (p+i) g.c)
  (hs:st.length=C.lats.length) (hr:row.length=C.ins.length) (hs2:st2.length=L2.length) (hr2:row2.length=I2.length):valsOf X (st++st2) (row++row2)=evalG (valsOf C st row++(row2++st2)) G:=by
 obtain ⟨out,gX⟩:=good_ex hX
 obtain ⟨_,_,_,_,_,_,u7⟩:=uses_ok h
 refine valsOf_eq gX ?_ ?_ (val_more m (gok h).mx0 (dn h) (dn hX) u7 hG hs hr hs2 hr2 (valsOf_is h hr hs))
 ·rw [m.ins];simp [hr,hr2]
 ·rw [m.lats];simp [hs,hs2]
end
end Go.Hx
namespace Go.Hx
open Go.Proofs.YtdpbdjdgdmheiaaGreat
def neg1 (l:Int):Int:=l+1-l % 2*2
theorem neg1_var {l:Int} (h:0≤l):neg1 l / 2=l / 2:=by unfold neg1;omega
theorem lit_neg {W:List Bool} {l:Int} (h:0≤l):lit W (neg1 l)=!lit W l:=by
 unfold lit
 rw [neg1_var h]
 rcases (show l % 2=0∨l % 2=1 by omega) with h1 | h1
 ·have:neg1 l % 2=1:=by unfold neg1;omega
  rw [decide_eq_true this,decide_eq_false (by omega)]
  cases W.getD (l / 2).toNat false <;> rfl
 ·have:neg1 l % 2=0:=by unfold neg1;omega
  rw [decide_eq_false (by omega),decide_eq_true h1]
  cases W.getD (l / 2).toNat false <;> rfl
section
variable {C S:Circ} {p:Nat} {W0 W:List Bool} {G:List L3}
theorem OkL.neg {B:List Mk} {q:Nat} {l:Int} (h:OkL C B q l):OkL C B q (neg1 l):=by
 rcases h with h | h
 ·left
  rw [us1_zero] at h ⊢
  obtain ⟨⟨h1,h2⟩,h3⟩:=h
  refine ⟨by unfold neg1;omega,fun h4=>?_⟩
  rw [neg1_var h1]
  exact h3 (by unfold neg1 at h4;omega)
 ·right
  unfold neg1
  omega
structure Ev (C:Circ) (p:Nat) (W0:List Bool) (S:Circ) (G:List L3) (W:List Bool):Prop where
 ands:S.ands=C.ands++G
 mx:S.mx=C.mx+p+G.length
 ok:∀ (i:Nat) g,G[i]?=some g->g.a=2*(C.mx+p+1+i)/\OkL C (defs C).2.2 (p+i) g.b/\OkL C (defs C).2.2 (p+i) g.c
 ev:W=evalG W0 G
 len0:W0.length=(C.mx+1).toNat+p
theorem Ev.len (e:Ev C p W0 S G W):W.length=(C.mx+1).toNat+p+G.length:=by rw [e.ev,evalG_len,e.len0]
def nL (S:Circ):Int:=2*(S.mx+1)
theorem OkL.two {B:List Mk} {q:Nat} {x y:Int} (hx:OkL C B q x) (hy:OkL C B q y):OkL C B q (max x y)/\OkL C B q (min x y):=by
 rcases Int.le_total x y with h | h
 ·rw [Int.max_eq_right h,Int.min_eq_left h];exact ⟨hy,hx⟩
 ·rw [Int.max_eq_left h,Int.min_eq_right h];exact ⟨hx,hy⟩
theorem Ev.gate (e:Ev C p W0 S G W) {x y:Int} (hx:OkL C (defs C).2.2 (p+G.length) x) (hy:OkL C (defs C).2.2 (p+G.length) y) :
  ∃ G' W',Ev C p W0 (gate1 S x y) G' W'/\W <+: W'/\G'.length=G.length+1/\W'[W.length]?=some (lit W x && lit W y):=by
 refine ⟨G++[⟨nL S,max x y,min x y⟩],W++[lit W x && lit W y],⟨?_,?_,fun i g hg=>?_,?_,e.len0⟩,List.prefix_append ..,by simp,by simp⟩
 ·simp only [gate1,e.ands,List.append_assoc];rfl
 ·simp only [gate1,e.mx,List.length_append,List.length_singleton];omega
 ·rcases append_at hg with hg | ⟨h1,hg⟩
  ·exact e.ok i g hg
  ·have hi:=(List.getElem?_eq_some_iff.1 hg).1
   simp at hi
   have hi2:i=G.length:=by omega
   subst hi2
   simp at hg
   subst hg
   have:=hx.two hy
   refine ⟨?_,this.1,this.2⟩
   simp only [nL]
   have:=e.mx
   omega
 ·rw [evalG_app,<- e.ev,evalG,evalG]
  have:=and_mm W x y
  rw [this]
theorem lit_pfx {V W:List Bool} (h:V <+: W) {l:Int} (hl:(l / 2).toNat<V.length):lit W l=lit V l:=by
 obtain ⟨t,rfl⟩:=h
 exact lit_pre (List.getElem?_append_left hl)
theorem OkL.lt (hm:0≤C.mx) {B:List Mk} {q:Nat} {l:Int} (h:OkL C B q l):(l / 2).toNat<(C.mx+1).toNat+q:=by have:=h.rng hm;omega
theorem Ev.gateL (e:Ev C p W0 S G W) (hm:0≤C.mx) {x y:Int} (hx:OkL C (defs C).2.2 (p+G.length) x) (hy:OkL C (defs C).2.2 (p+G.length) y) :
  ∃ G' W',Ev C p W0 (gate1 S x y) G' W'/\W <+: W'/\G'.length=G.length+1/\lit W' (nL S)=(lit W x && lit W y)/\OkL C (defs C).2.2 (p+G'.length) (nL S):=by
 obtain ⟨G',W',e',hp,hl,ha⟩:=e.gate hx hy
 have hS:=e.mx
 refine ⟨G',W',e',hp,hl,?_,.inr ?_⟩
 ·unfold lit nL
  have hlen:=e.len
  rw [decide_eq_false (by omega),Bool.bne_false,show (2*(S.mx+1) / 2).toNat=W.length by omega,List.getD_eq_getElem?_getD,ha]
  rfl
 ·unfold nL;omega
end
def shadG (now:Int) (sh:Nat->Int):List L3->Nat->Circ->Circ
 | [],_,S=>S
 | x::r,i,S=>
  let S1:=gate1 S now x.a
  let S2:=gate1 S1 (neg1 now) (sh i)
  let S3:=gate1 S2 (neg1 (nL S)) (neg1 (nL S1))
  shadG now sh r (i+1) { S3 with lats:=S3.lats++[⟨sh i,neg1 (nL S2),0⟩] }
def seenG (held:Int) (se:Nat->Int):List Int->Nat->Circ->Circ
 | [],_,S=>S
 | q::r,i,S=>
  let S1:=gate1 S held q
  let S2:=gate1 S1 (neg1 (se i)) (neg1 (nL S))
  seenG held se r (i+1) { S2 with lats:=S2.lats++[⟨se i,neg1 (nL S1),0⟩] }
def sameG (sh:Nat->Int):List L3->Nat->Circ->Circ×List Int
 | [],_,S=>(S,[])
 | x::r,i,S=>
  let S1:=gate1 S x.a (neg1 (sh i))
  let S2:=gate1 S1 (neg1 x.a) (sh i)
  let S3:=gate1 S2 (neg1 (nL S)) (neg1 (nL S1))
  let z:=sameG sh r (i+1) S3
  (z.1,nL S2::z.2)
def chainG:List Int->Int->Circ->Circ×Int
 | [],b,S=>(S,b)
 | l::r,b,S=>chainG r (nL S) (gate1 S b l)
def lsN (C:Circ) (must:List Int):Int:=C.mx+2+C.lats.length+must.length
def lsSave (C:Circ):Int:=2*(C.mx+1)
def lsSaved (C:Circ):Int:=2*(C.mx+2)
def lsSh (C:Circ) (i:Nat):Int:=2*(C.mx+3+i)
def lsSe (C:Circ) (i:Nat):Int:=2*(C.mx+3+(C.lats.length+i:Nat))
def ls0 (C:Circ) (must:List Int):Circ:=⟨lsN C must,C.ins++[lsSave C],C.lats,[],[],C.cons,[],[],C.ands,[],[]⟩
def ls1 (C:Circ) (must:List Int):Circ:=gate1 (ls0 C must) (lsSave C) (neg1 (lsSaved C))
def lsHeld (C:Circ) (must:List Int):Int:=neg1 (nL (ls1 C must))
def ls2 (C:Circ) (must:List Int):Circ:=gate1 (ls1 C must) (neg1 (lsSave C)) (neg1 (lsSaved C))
def ls3 (C:Circ) (must:List Int):Circ:={ ls2 C must with lats:=C.lats++[⟨lsSaved C,lsHeld C must,0⟩] }
def ls4 (C:Circ) (must:List Int):Circ:=shadG (nL (ls0 C must)) (lsSh C) C.lats 0 (ls3 C must)
def ls5 (C:Circ) (must:List Int):Circ:=seenG (lsHeld C must) (lsSe C) must 0 (ls4 C must)
def ls6 (C:Circ) (must:List Int):Circ×List Int:=sameG (lsSh C) C.lats 0 (ls5 C must)
def ls7 (C:Circ) (must:List Int):Circ×Int:=chainG ((ls6 C must).2++(List.range must.length).map (lsSe C)) (lsSaved C) (ls6 C must).1
def lassoX (C:Circ) (must:List Int):Circ:={ (ls7 C must).1 with bads:=[(ls7 C must).2] }
structure Like (S S':Circ):Prop where
 ins:S'.ins=S.ins
 outs:S'.outs=S.outs
 bads:S'.bads=S.bads
 cons:S'.cons=S.cons
 just:S'.just=S.just
 fair:S'.fair=S.fair
 syms:S'.syms=S.syms
 coms:S'.coms=S.coms
theorem Like.refl (S:Circ):Like S S:=⟨rfl,rfl,rfl,rfl,rfl,rfl,rfl,rfl⟩
theorem Like.trans {A B D:Circ} (h:Like A B) (k:Like B D):Like A D:=⟨k.ins.trans h.ins,k.outs.trans h.outs,k.bads.trans h.bads,k.cons.trans h.cons,k.just.trans h.just,k.fair.trans h.fair,k.syms.trans h.syms,k.coms.trans h.coms⟩
theorem Like.gate (S:Circ) (x y:Int):Like S (gate1 S x y):=⟨rfl,rfl,rfl,rfl,rfl,rfl,rfl,rfl⟩
section
variable {C S:Circ} {p:Nat} {W0 W:List Bool} {G:List L3}
theorem Ev.lats (e:Ev C p W0 S G W) (L:List L3):Ev C p W0 { S with lats:=L } G W:=⟨e.ands,e.mx,e.ok,e.ev,e.len0⟩
theorem Ev.mono {G':List L3} (hl:G.length≤G'.length) {l:Int} (h:OkL C (defs C).2.2 (p+G.length) l):OkL C (defs C).2.2 (p+G'.length) l:=h.mono (by omega)
theorem shad_ev (hm:0≤C.mx) {now:Int} {sh:Nat->Int}:∀ {L:List L3} {i:Nat} {S:Circ} {G:List L3} {W:List Bool},Ev C p W0 S G W->OkL C (defs C).2.2 (p+G.length) now->(∀ x∈L,OkL C (defs C).2.2 (p+G.length) x.a)->(∀ j,OkL C (defs C).2.2 (p+G.length) (sh j)∨i+L.length≤j) ->
  ∃ G' W' NL,Ev C p W0 (shadG now sh L i S) G' W'/\W <+: W'/\G'.length=G.length+3*L.length/\Like S (shadG now sh L i S)/\(shadG now sh L i S).lats=S.lats++NL/\NL.length=L.length /\
   ∀ (j:Nat) x,L[j]?=some x->∃ y,NL[j]?=some y/\y.a=sh (i+j)/\y.c=0/\OkL C (defs C).2.2 (p+G'.length) y.b/\lit W' y.b=(if lit W now=true then lit W x.a else lit W (sh (i+j)))
 | [],i,S,G,W,e,hn,hL,hs=>⟨G,W,[],e,List.prefix_rfl,by simp,.refl _,by simp [shadG],rfl,fun j x h=>by simp at h⟩
 | x::L,i,S,G,W,e,hn,hL,hs=>by
  have hx:=hL x (List.mem_cons_self ..)
  have hsi:OkL C (defs C).2.2 (p+G.length) (sh i):=(hs i).resolve_right (by simp)
  have hn0:=(hn.rng hm).1
  have el:=e.len
  obtain ⟨G1,W1,e1,p1,l1,v1,o1⟩:=e.gateL hm hn hx
  obtain ⟨G2,W2,e2,p2,l2,v2,o2⟩:=e1.gateL hm (Ev.mono (by omega) hn.neg) (Ev.mono (by omega) hsi)
  obtain ⟨G3,W3,e3,p3,l3,v3,o3⟩:=e2.gateL hm (Ev.mono (by omega) o1.neg) o2.neg
  have q1:(nL S / 2).toNat<W1.length:=by rw [e1.len];have:=o1.lt hm;omega
  have q2:(nL (gate1 S now x.a) / 2).toNat<W2.length:=by rw [e2.len];have:=o2.lt hm;omega
  have q3:(nL (gate1 (gate1 S now x.a) (neg1 now) (sh i)) / 2).toNat<W3.length:=by rw [e3.len];have:=o3.lt hm;omega
  have z1:0≤nL S:=(o1.rng hm).1
  have z2:0≤nL (gate1 S now x.a):=(o2.rng hm).1
  have z3:0≤nL (gate1 (gate1 S now x.a) (neg1 now) (sh i)):=(o3.rng hm).1
  have hsl:(sh i / 2).toNat<W.length:=by have:=hsi.lt hm;omega
  have hnl:(now / 2).toNat<W.length:=by have:=hn.lt hm;omega
  obtain ⟨G',W',NL,e',p',l',lk,la,nl,hj⟩:=shad_ev hm (L:=L) (i:=i+1) (e3.lats ((gate1 (gate1 (gate1 S now x.a) (neg1 now) (sh i)) (neg1 (nL S)) (neg1 (nL (gate1 S now x.a)))).lats++[⟨sh i,neg1 (nL (gate1 (gate1 S now x.a) (neg1 now) (sh i))),0⟩]))
   (Ev.mono (by omega) hn) (fun y hy=>Ev.mono (by omega) (hL y (List.mem_cons_of_mem _ hy))) (fun j=>(hs j).imp (Ev.mono (by omega)) fun h=>by simp at h;omega)
  have pa:W <+: W3:=(p1.trans p2).trans p3
  refine ⟨G',W',⟨sh i,neg1 (nL (gate1 (gate1 S now x.a) (neg1 now) (sh i))),0⟩::NL,e',pa.trans p',by rw [l',l3,l2,l1];simp;omega,?_,?_,by simp [nl],fun j y hy=>?_⟩
  ·have lk2:Like (gate1 (gate1 (gate1 S now x.a) (neg1 now) (sh i)) (neg1 (nL S)) (neg1 (nL (gate1 S now x.a)))) (shadG now sh (x::L) i S):=⟨lk.ins,lk.outs,lk.bads,lk.cons,lk.just,lk.fair,lk.syms,lk.coms⟩
   exact (((Like.gate S _ _).trans (Like.gate _ _ _)).trans (Like.gate _ _ _)).trans lk2
  ·rw [shadG,la]
   simp [gate1]
  ·cases j with
   | zero=>
    simp only [List.getElem?_cons_zero,Option.some.injEq] at hy
    subst hy
    refine ⟨_,rfl,rfl,rfl,Ev.mono (by omega) o3.neg,?_⟩
    simp only
    rw [lit_pfx p' (by rw [neg1_var z3];exact q3),lit_neg z3,v3,lit_neg z1,lit_neg z2,v2,lit_pfx p2 q1,v1]
    have hn1:lit W1 (neg1 now)=!lit W now:=by rw [lit_pfx p1 (by rw [neg1_var hn0];exact hnl),lit_neg hn0]
    rw [hn1,lit_pfx p1 hsl,Nat.add_zero]
    cases lit W now <;> cases lit W x.a <;> cases lit W (sh i) <;> rfl
   | succ j=>
    simp only [List.getElem?_cons_succ] at hy
    obtain ⟨y',h1,h2,h3,h4,h5⟩:=hj j y hy
    refine ⟨y',h1,by rw [h2];congr 1;omega,h3,h4,?_⟩
    rw [h5,show i+1+j=i+(j+1) by omega]
    have hyl:(y.a / 2).toNat<W.length:=by have:=(hL y (List.mem_cons_of_mem _ (List.mem_of_getElem? hy))).lt hm;omega
    have hshl:(sh (i+(j+1)) / 2).toNat<W.length:=by
     have hjl:=(List.getElem?_eq_some_iff.1 hy).1
     have:=((hs (i+(j+1))).resolve_right (by simp;omega)).lt hm
     omega
    rw [lit_pfx pa hnl,lit_pfx pa hyl,lit_pfx pa hshl]
theorem seen_ev (hm:0≤C.mx) {held:Int} {se:Nat->Int}:∀ {L:List Int} {i:Nat} {S:Circ} {G:List L3} {W:List Bool},Ev C p W0 S G W->OkL C (defs C).2.2 (p+G.length) held->(∀ x∈L,OkL C (defs C).2.2 (p+G.length) x)->(∀ j,OkL C (defs C).2.2 (p+G.length) (se j)∨i+L.length≤j) ->
  ∃ G' W' NL,Ev C p W0 (seenG held se L i S) G' W'/\W <+: W'/\G'.length=G.length+2*L.length/\Like S (seenG held se L i S)/\(seenG held se L i S).lats=S.lats++NL/\NL.length=L.length /\
   ∀ (j:Nat) x,L[j]?=some x->∃ y,NL[j]?=some y/\y.a=se (i+j)/\y.c=0/\OkL C (defs C).2.2 (p+G'.length) y.b/\lit W' y.b=(lit W (se (i+j)) || (lit W held && lit W x))
 | [],i,S,G,W,e,hn,hL,hs=>⟨G,W,[],e,List.prefix_rfl,by simp,.refl _,by simp [seenG],rfl,fun j x h=>by simp at h⟩
 | x::L,i,S,G,W,e,hn,hL,hs=>by
  have hx:=hL x (List.mem_cons_self ..)
  have hsi:OkL C (defs C).2.2 (p+G.length) (se i):=(hs i).resolve_right (by simp)
  have el:=e.len
  obtain ⟨G1,W1,e1,p1,l1,v1,o1⟩:=e.gateL hm hn hx
  obtain ⟨G2,W2,e2,p2,l2,v2,o2⟩:=e1.gateL hm (Ev.mono (by omega) hsi.neg) o1.neg
  have q2:(nL (gate1 S held x) / 2).toNat<W2.length:=by rw [e2.len];have:=o2.lt hm;omega
  have z1:0≤nL S:=(o1.rng hm).1
  have z2:0≤nL (gate1 S held x):=(o2.rng hm).1
  have z0:0≤se i:=(hsi.rng hm).1
  have hsl:(se i / 2).toNat<W.length:=by have:=hsi.lt hm;omega
  have hnl:(held / 2).toNat<W.length:=by have:=hn.lt hm;omega
  obtain ⟨G',W',NL,e',p',l',lk,la,nl,hj⟩:=seen_ev hm (L:=L) (i:=i+1) (e2.lats ((gate1 (gate1 S held x) (neg1 (se i)) (neg1 (nL S))).lats++[⟨se i,neg1 (nL (gate1 S held x)),0⟩]))
   (Ev.mono (by omega) hn) (fun y hy=>Ev.mono (by omega) (hL y (List.mem_cons_of_mem _ hy))) (fun j=>(hs j).imp (Ev.mono (by omega)) fun h=>by simp at h;omega)
  have pa:W <+: W2:=p1.trans p2
  refine ⟨G',W',⟨se i,neg1 (nL (gate1 S held x)),0⟩::NL,e',pa.trans p',by rw [l',l2,l1];simp;omega,?_,?_,by simp [nl],fun j y hy=>?_⟩
  ·have lk2:Like (gate1 (gate1 S held x) (neg1 (se i)) (neg1 (nL S))) (seenG held se (x::L) i S):=⟨lk.ins,lk.outs,lk.bads,lk.cons,lk.just,lk.fair,lk.syms,lk.coms⟩
   exact ((Like.gate S _ _).trans (Like.gate _ _ _)).trans lk2
  ·rw [seenG,la]
   simp [gate1]
  ·cases j with
   | zero=>
    simp only [List.getElem?_cons_zero,Option.some.injEq] at hy
    subst hy
    refine ⟨_,rfl,rfl,rfl,Ev.mono (by omega) o2.neg,?_⟩
    simp only
    rw [lit_pfx p' (by rw [neg1_var z2];exact q2),lit_neg z2,v2,lit_neg z0,lit_neg z1,v1,lit_pfx p1 hsl,Nat.add_zero]
    cases lit W held <;> cases lit W x <;> cases lit W (se i) <;> rfl
   | succ j=>
    simp only [List.getElem?_cons_succ] at hy
    obtain ⟨y',h1,h2,h3,h4,h5⟩:=hj j y hy
    refine ⟨y',h1,by rw [h2];congr 1;omega,h3,h4,?_⟩
    rw [h5,show i+1+j=i+(j+1) by omega]
    have hyl:(y / 2).toNat<W.length:=by have:=(hL y (List.mem_cons_of_mem _ (List.mem_of_getElem? hy))).lt hm;omega
    have hshl:(se (i+(j+1)) / 2).toNat<W.length:=by
     have hjl:=(List.getElem?_eq_some_iff.1 hy).1
     have:=((hs (i+(j+1))).resolve_right (by simp;omega)).lt hm
     omega
    rw [lit_pfx pa hnl,lit_pfx pa hyl,lit_pfx pa hshl]
theorem same_ev (hm:0≤C.mx) {sh:Nat->Int}:∀ {L:List L3} {i:Nat} {S:Circ} {G:List L3} {W:List Bool},Ev C p W0 S G W->(∀ x∈L,OkL C (defs C).2.2 (p+G.length) x.a)->(∀ j,OkL C (defs C).2.2 (p+G.length) (sh j)∨i+L.length≤j) ->
  ∃ G' W',Ev C p W0 (sameG sh L i S).1 G' W'/\W <+: W'/\G'.length=G.length+3*L.length/\Like S (sameG sh L i S).1/\(sameG sh L i S).1.lats=S.lats/\(sameG sh L i S).2.length=L.length /\
   ∀ (j:Nat) x,L[j]?=some x->∃ y,(sameG sh L i S).2[j]?=some y/\OkL C (defs C).2.2 (p+G'.length) y/\lit W' y=(lit W x.a == lit W (sh (i+j)))
 | [],i,S,G,W,e,hL,hs=>⟨G,W,e,List.prefix_rfl,by simp,.refl _,by simp [sameG],rfl,fun j x h=>by simp at h⟩
 | x::L,i,S,G,W,e,hL,hs=>by
  have hx:=hL x (List.mem_cons_self ..)
  have hsi:OkL C (defs C).2.2 (p+G.length) (sh i):=(hs i).resolve_right (by simp)
  have el:=e.len
  obtain ⟨G1,W1,e1,p1,l1,v1,o1⟩:=e.gateL hm hx hsi.neg
  obtain ⟨G2,W2,e2,p2,l2,v2,o2⟩:=e1.gateL hm (Ev.mono (by omega) hx.neg) (Ev.mono (by omega) hsi)
  obtain ⟨G3,W3,e3,p3,l3,v3,o3⟩:=e2.gateL hm (Ev.mono (by omega) o1.neg) o2.neg
  have q1:(nL S / 2).toNat<W1.length:=by rw [e1.len];have:=o1.lt hm;omega
  have q3:(nL (gate1 (gate1 S x.a (neg1 (sh i))) (neg1 x.a) (sh i)) / 2).toNat<W3.length:=by rw [e3.len];have:=o3.lt hm;omega
  have z1:0≤nL S:=(o1.rng hm).1
  have z2:0≤nL (gate1 S x.a (neg1 (sh i))):=(o2.rng hm).1
  have z0:0≤sh i:=(hsi.rng hm).1
  have zx:0≤x.a:=(hx.rng hm).1
  have hsl:(sh i / 2).toNat<W.length:=by have:=hsi.lt hm;omega
  have hxl:(x.a / 2).toNat<W.length:=by have:=hx.lt hm;omega
  obtain ⟨G',W',e',p',l',lk,la,nl,hj⟩:=same_ev hm (L:=L) (i:=i+1) e3
   (fun y hy=>Ev.mono (by omega) (hL y (List.mem_cons_of_mem _ hy))) (fun j=>(hs j).imp (Ev.mono (by omega)) fun h=>by simp at h;omega)
  have pa:W <+: W3:=(p1.trans p2).trans p3
  refine ⟨G',W',e',pa.trans p',by rw [l',l3,l2,l1];simp;omega,?_,?_,?_,fun j y hy=>?_⟩
  ·exact (((Like.gate S _ _).trans (Like.gate _ _ _)).trans (Like.gate _ _ _)).trans lk
  ·rw [sameG]
   simp only
   rw [la]
   rfl
  ·rw [sameG]
   simp only [List.length_cons,nl]
  ·cases j with
   | zero=>
    simp only [List.getElem?_cons_zero,Option.some.injEq] at hy
    subst hy
    refine ⟨_,rfl,Ev.mono (by omega) o3,?_⟩
    rw [lit_pfx p' q3,v3,lit_neg z1,lit_neg z2,v2,lit_pfx p2 q1,v1]
    have hn1:lit W1 (neg1 x.a)=!lit W x.a:=by rw [lit_pfx p1 (by rw [neg1_var zx];exact hxl),lit_neg zx]
    rw [hn1,lit_pfx p1 hsl,lit_neg z0,Nat.add_zero]
    cases lit W x.a <;> cases lit W (sh i) <;> rfl
   | succ j=>
    simp only [List.getElem?_cons_succ] at hy
    obtain ⟨y',h1,h4,h5⟩:=hj j y hy
    refine ⟨y',by rw [sameG];exact h1,h4,?_⟩
    rw [h5,show i+1+j=i+(j+1) by omega]
    have hyl:(y.a / 2).toNat<W.length:=by have:=(hL y (List.mem_cons_of_mem _ (List.mem_of_getElem? hy))).lt hm;omega
    have hshl:(sh (i+(j+1)) / 2).toNat<W.length:=by
     have hjl:=(List.getElem?_eq_some_iff.1 hy).1
     have:=((hs (i+(j+1))).resolve_right (by simp;omega)).lt hm
     omega
    rw [lit_pfx pa hyl,lit_pfx pa hshl]
theorem chain_ev (hm:0≤C.mx):∀ {L:List Int} {b:Int} {S:Circ} {G:List L3} {W:List Bool},Ev C p W0 S G W->OkL C (defs C).2.2 (p+G.length) b->(∀ x∈L,OkL C (defs C).2.2 (p+G.length) x) ->
  ∃ G' W',Ev C p W0 (chainG L b S).1 G' W'/\W <+: W'/\G'.length=G.length+L.length/\Like S (chainG L b S).1/\(chainG L b S).1.lats=S.lats/\OkL C (defs C).2.2 (p+G'.length) (chainG L b S).2/\lit W' (chainG L b S).2=(lit W b && L.all (lit W))
 | [],b,S,G,W,e,hb,hL=>⟨G,W,e,List.prefix_rfl,by simp,.refl _,rfl,hb,by simp [chainG]⟩
 | x::L,b,S,G,W,e,hb,hL=>by
  have hx:=hL x (List.mem_cons_self ..)
  have el:=e.len
  obtain ⟨G1,W1,e1,p1,l1,v1,o1⟩:=e.gateL hm hb hx
  obtain ⟨G',W',e',p',l',lk,la,ok,hv⟩:=chain_ev hm (L:=L) e1 o1 (fun y hy=>Ev.mono (by omega) (hL y (List.mem_cons_of_mem _ hy)))
  refine ⟨G',W',e',p1.trans p',by rw [l',l1];simp;omega,(Like.gate S _ _).trans lk,by rw [chainG,la];rfl,ok,?_⟩
  rw [chainG,hv,v1,List.all_cons,Bool.and_assoc]
  congr 2
  rw [Bool.eq_iff_iff,List.all_eq_true,List.all_eq_true]
  have:∀ y∈L,lit W1 y=lit W y:=fun y hy=>lit_pfx p1 (by have:=(hL y (List.mem_cons_of_mem _ hy)).lt hm;omega)
  exact ⟨fun h y hy=>by rw [<- this y hy];exact h y hy,fun h y hy=>by rw [this y hy];exact h y hy⟩
end
end Go.Hx
