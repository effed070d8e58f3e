/- Words and facts that the claim's proof leans on. No condition. -/
import Derived.Test.YtdpbdjdgdmheiaaGreatMA
import Derived.Test.YtdpbdjdgdmheiaaGreatMC
import Derived.Test.YtdpbdjdgdmheiaaGreatSM
import Derived.Test.YtdpbdjdgdmheiaaGreatFA
set_option linter.unusedVariables false
set_option linter.unusedSimpArgs false
namespace Go.Hx
open Go.Proofs.YtdpbdjdgdmheiaaGreat
def lsP (C:Circ) (must:List Int):Nat:=2+C.lats.length+must.length
structure LsA (C:Circ) (must:List Int) (G NL:List L3):Prop where
 ands:(lassoX C must).ands=C.ands++G
 mx:(lassoX C must).mx=C.mx+(lsP C must:Nat)+G.length
 gl:G.length=2+7*C.lats.length+3*must.length
 gok:∀ (i:Nat) g,G[i]?=some g->g.a=2*(C.mx+(lsP C must:Nat)+1+i)/\OkL C (defs C).2.2 (lsP C must+i) g.b/\OkL C (defs C).2.2 (lsP C must+i) g.c
 lats:(lassoX C must).lats=C.lats++NL
 nl:NL.length=1+C.lats.length+must.length
 na:∀ (i:Nat) y,NL[i]?=some y->y.a=2*(C.mx+2+i)/\y.c=0/\OkL C (defs C).2.2 (lsP C must+G.length) y.b
 bad:OkL C (defs C).2.2 (lsP C must+G.length) (ls7 C must).2
 like:Like (ls0 C must) (ls7 C must).1
structure LsW (C:Circ) (must:List Int) (NL:List L3) (W0 W:List Bool):Prop where
 now:lit W (nL (ls0 C must))=(lit W0 (lsSave C) && !lit W0 (lsSaved C))
 v0:∀ y,NL[0]?=some y->lit W y.b=(lit W0 (lsSave C) || lit W0 (lsSaved C))
 sh:∀ (i:Nat) x y,C.lats[i]?=some x->NL[1+i]?=some y->lit W y.b=if (lit W0 (lsSave C) && !lit W0 (lsSaved C))=true then lit W0 x.a else lit W0 (lsSh C i)
 se:∀ (i:Nat) q y,must[i]?=some q->NL[1+C.lats.length+i]?=some y->lit W y.b=(lit W0 (lsSe C i) || ((lit W0 (lsSave C) || lit W0 (lsSaved C)) && lit W0 q))
 bad:lit W (ls7 C must).2=true↔lit W0 (lsSaved C)=true/\(∀ (i:Nat) x,C.lats[i]?=some x->lit W0 x.a=lit W0 (lsSh C i))/\∀ i,i<must.length->lit W0 (lsSe C i)=true
section
variable {C:Circ} {must:List Int} {W0:List Bool}
theorem us_lat (h:(chk C).2=0):∀ x∈C.lats,us1 C.mx (defs C).2.2 x.a=0:=fun x hx=>by
 obtain ⟨i,hi⟩:=List.mem_iff_getElem?.1 hx
 obtain ⟨h1,h2,h3,h4⟩:=(dn h).l i x hi
 rw [us1_zero]
 exact ⟨⟨by omega,by omega⟩,fun _=>by rw [getD_mk h4];simp⟩
theorem lasso_ev (h:(chk C).2=0) (hm:∀ q∈must,us1 C.mx (defs C).2.2 q=0) (hW:W0.length=(C.mx+1).toNat+lsP C must):∃ G NL,LsA C must G NL/\LsW C must NL W0 (evalG W0 G):=by
 have m0:=(gok h).mx0
 have hp:((lsP C must:Nat):Int)=2+C.lats.length+must.length:=by unfold lsP;omega
 have e0:Ev C (lsP C must) W0 (ls0 C must) [] W0:=⟨by simp [ls0],by simp only [ls0,lsN,List.length_nil];omega,fun i g hg=>by simp at hg,rfl,hW⟩
 have new:∀ {q:Nat} {l:Int},2*(C.mx+1)≤l->l≤2*(C.mx+(lsP C must:Nat))+1->OkL C (defs C).2.2 (lsP C must+q) l:=fun h1 h2=>.inr ⟨h1,by omega⟩
 have osv:∀ {q:Nat},OkL C (defs C).2.2 (lsP C must+q) (lsSave C):=new (by unfold lsSave;omega) (by unfold lsSave;omega)
 have osd:∀ {q:Nat},OkL C (defs C).2.2 (lsP C must+q) (lsSaved C):=new (by unfold lsSaved;omega) (by unfold lsSaved;omega)
 have osh:∀ {q:Nat} (j:Nat),OkL C (defs C).2.2 (lsP C must+q) (lsSh C j)∨0+C.lats.length≤j:=fun {q} j=>by
  rcases Nat.lt_or_ge j C.lats.length with hj | hj
  ·exact .inl (new (by unfold lsSh;omega) (by unfold lsSh;omega))
  ·exact .inr (by omega)
 have ose:∀ {q:Nat} (j:Nat),OkL C (defs C).2.2 (lsP C must+q) (lsSe C j)∨0+must.length≤j:=fun {q} j=>by
  rcases Nat.lt_or_ge j must.length with hj | hj
  ·exact .inl (new (by unfold lsSe;omega) (by unfold lsSe;omega))
  ·exact .inr (by omega)
 have ola:∀ {q:Nat},∀ x∈C.lats,OkL C (defs C).2.2 (lsP C must+q) x.a:=fun {q} x hx=>.inl (us_lat h x hx)
 have omu:∀ {q:Nat},∀ x∈must,OkL C (defs C).2.2 (lsP C must+q) x:=fun {q} x hx=>.inl (hm x hx)
 have lt0:∀ {W:List Bool} {l:Int},W0 <+: W->OkL C (defs C).2.2 (lsP C must+0) l->lit W l=lit W0 l:=fun {W l} hpf ho=>lit_pfx hpf (by have:=ho.lt m0;omega)
 obtain ⟨G1,W1,e1,p1,l1,v1,o1⟩:=e0.gateL m0 (osv (q:=0)) (osd (q:=0)).neg
 change Ev C (lsP C must) W0 (ls1 C must) G1 W1 at e1
 obtain ⟨G2,W2,e2,p2,l2,v2,o2⟩:=e1.gateL m0 (osv (q:=G1.length)).neg (osd (q:=G1.length)).neg
 change Ev C (lsP C must) W0 (ls2 C must) G2 W2 at e2
 have e3:Ev C (lsP C must) W0 (ls3 C must) G2 W2:=e2.lats _
 have p02:=p1.trans p2
 have q1:(nL (ls0 C must) / 2).toNat<W1.length:=by rw [e1.len];have:=o1.lt m0;omega
 have q2:(nL (ls1 C must) / 2).toNat<W2.length:=by rw [e2.len];have:=o2.lt m0;omega
 have z1:0≤nL (ls0 C must):=(o1.rng m0).1
 have z2:0≤nL (ls1 C must):=(o2.rng m0).1
 have hsd0:0≤lsSaved C:=by unfold lsSaved;omega
 have hsv0:0≤lsSave C:=by unfold lsSave;omega
 have vn:lit W2 (nL (ls0 C must))=(lit W0 (lsSave C) && !lit W0 (lsSaved C)):=by rw [lit_pfx p2 q1,v1,lit_neg hsd0]
 have vh:lit W2 (lsHeld C must)=(lit W0 (lsSave C) || lit W0 (lsSaved C)):=by
  unfold lsHeld
  rw [lit_neg z2,v2,lit_neg hsd0,lit_neg hsv0,lt0 p1 osv,lt0 p1 osd]
  cases lit W0 (lsSave C) <;> cases lit W0 (lsSaved C) <;> rfl
 have onow:OkL C (defs C).2.2 (lsP C must+G2.length) (nL (ls0 C must)):=o1.mono (by omega)
 have oheld:OkL C (defs C).2.2 (lsP C must+G2.length) (lsHeld C must):=o2.neg.mono (by omega)
 obtain ⟨G4,W4,N4,e4,p4,l4,k4,a4,n4,s4⟩:=shad_ev m0 (L:=C.lats) (i:=0) (sh:=lsSh C) e3 onow ola osh
 change Ev C (lsP C must) W0 (ls4 C must) G4 W4 at e4
 change Like (ls3 C must) (ls4 C must) at k4
 obtain ⟨G5,W5,N5,e5,p5,l5,k5,a5,n5,s5⟩:=seen_ev m0 (L:=must) (i:=0) (se:=lsSe C) e4 (oheld.mono (by omega)) omu ose
 change Ev C (lsP C must) W0 (ls5 C must) G5 W5 at e5
 change Like (ls4 C must) (ls5 C must) at k5
 obtain ⟨G6,W6,e6,p6,l6,k6,a6,n6,s6⟩:=same_ev m0 (L:=C.lats) (i:=0) (sh:=lsSh C) e5 ola osh
 change Ev C (lsP C must) W0 (ls6 C must).1 G6 W6 at e6
 change Like (ls5 C must) (ls6 C must).1 at k6
 have o6:∀ x∈(ls6 C must).2++(List.range must.length).map (lsSe C),OkL C (defs C).2.2 (lsP C must+G6.length) x:=fun x hx=>by
  rcases List.mem_append.1 hx with hx | hx
  ·obtain ⟨i,hi⟩:=List.mem_iff_getElem?.1 hx
   have hil:=(List.getElem?_eq_some_iff.1 hi).1
   change i<(sameG (lsSh C) C.lats 0 (ls5 C must)).2.length at hil
   rw [n6] at hil
   obtain ⟨y,h1,h2,_⟩:=s6 i _ (List.getElem?_eq_getElem hil)
   have:some x=some y:=hi.symm.trans h1
   rw [Option.some.inj this]
   exact h2
  ·obtain ⟨i,hi,rfl⟩:=List.mem_map.1 hx
   have:=List.mem_range.1 hi
   exact (ose i).resolve_right (by omega)
 obtain ⟨G7,W7,e7,p7,l7,k7,a7,o7,v7⟩:=chain_ev m0 (L:=(ls6 C must).2++(List.range must.length).map (lsSe C)) e6 (osd (q:=G6.length)) o6
 change Ev C (lsP C must) W0 (ls7 C must).1 G7 W7 at e7
 change Like (ls6 C must).1 (ls7 C must).1 at k7
 have p04:=p02.trans p4
 have p05:=p04.trans p5
 have p06:=p05.trans p6
 have p47:=(p5.trans p6).trans p7
 have p57:=p6.trans p7
 have hn6:(ls6 C must).2.length=C.lats.length:=n6
 have hg7:G7.length=2+7*C.lats.length+3*must.length:=by rw [l7,l6,l5,l4,l2,l1,List.length_append,hn6];simp;omega
 have hW7:W7=evalG W0 G7:=e7.ev
 have y0:OkL C (defs C).2.2 (lsP C must+G2.length) (lsHeld C must):=oheld
 refine ⟨G7,⟨lsSaved C,lsHeld C must,0⟩::(N4++N5),⟨e7.ands,e7.mx,hg7,e7.ok,?_,by simp [n4,n5];omega,fun i y hy=>?_,o7,?_⟩,⟨by rw [<- hW7,lit_pfx (p4.trans p47) (by have:=onow.lt m0;rw [e2.len];omega),vn],fun y hy=>?_,fun i x y hx hy=>?_,fun i q y hq hy=>?_,?_⟩⟩
 ·show (ls7 C must).1.lats=_
  change (ls7 C must).1.lats=(ls6 C must).1.lats at a7
  change (ls6 C must).1.lats=(ls5 C must).lats at a6
  change (ls5 C must).lats=(ls4 C must).lats++N5 at a5
  change (ls4 C must).lats=(ls3 C must).lats++N4 at a4
  rw [a7,a6,a5,a4]
  simp [ls3]
 ·cases i with
  | zero=>
   simp only [List.getElem?_cons_zero,Option.some.injEq] at hy
   subst hy
   exact ⟨by simp only [lsSaved];omega,rfl,oheld.mono (by omega)⟩
  | succ i=>
   rw [List.getElem?_cons_succ] at hy
   rcases append_at hy with hy | ⟨h1,hy⟩
   ·have hil:=(List.getElem?_eq_some_iff.1 hy).1
    obtain ⟨y',g1,g2,g3,g4,_⟩:=s4 i _ (List.getElem?_eq_getElem (by omega))
    obtain rfl:=Option.some.inj (hy.symm.trans g1)
    exact ⟨by rw [g2];unfold lsSh;omega,g3,g4.mono (by omega)⟩
   ·have hil:=(List.getElem?_eq_some_iff.1 hy).1
    obtain ⟨y',g1,g2,g3,g4,_⟩:=s5 (i-N4.length) _ (List.getElem?_eq_getElem (by omega))
    obtain rfl:=Option.some.inj (hy.symm.trans g1)
    exact ⟨by rw [g2];unfold lsSe;omega,g3,g4.mono (by omega)⟩
 ·have k03:Like (ls0 C must) (ls3 C must):=⟨rfl,rfl,rfl,rfl,rfl,rfl,rfl,rfl⟩
  exact (((k03.trans k4).trans k5).trans k6).trans k7
 ·simp only [List.getElem?_cons_zero,Option.some.injEq] at hy
  subst hy
  show lit _ (lsHeld C must)=_
  rw [<- hW7,lit_pfx (p4.trans p47) (by have:=oheld.lt m0;rw [e2.len];omega),vh]
 ·rw [show 1+i=i+1 by omega,List.getElem?_cons_succ] at hy
  have hil:=(List.getElem?_eq_some_iff.1 hx).1
  rw [List.getElem?_append_left (by omega)] at hy
  obtain ⟨y',g1,g2,g3,g4,g5⟩:=s4 i x hx
  obtain rfl:=Option.some.inj (hy.symm.trans g1)
  rw [<- hW7,lit_pfx p47 (by have:=g4.lt m0;rw [e4.len];omega),g5,vn,lt0 p02 (ola x (List.mem_of_getElem? hx)),Nat.zero_add,lt0 p02 ((osh i).resolve_right (by omega))]
 ·rw [show 1+C.lats.length+i=C.lats.length+i+1 by omega,List.getElem?_cons_succ] at hy
  have hil:=(List.getElem?_eq_some_iff.1 hq).1
  rw [List.getElem?_append_right (by omega),n4,Nat.add_sub_cancel_left] at hy
  obtain ⟨y',g1,g2,g3,g4,g5⟩:=s5 i q hq
  obtain rfl:=Option.some.inj (hy.symm.trans g1)
  rw [<- hW7,lit_pfx p57 (by have:=g4.lt m0;rw [e5.len];omega),g5,lt0 p04 (omu q (List.mem_of_getElem? hq)),Nat.zero_add,lt0 p04 ((ose i).resolve_right (by omega)),lit_pfx p4 (by have:=oheld.lt m0;rw [e2.len];omega),vh]
 ·rw [<- hW7]
  change lit W7 (ls7 C must).2=_ at v7
  rw [v7,Bool.and_eq_true,List.all_eq_true,lt0 p06 osd]
  refine and_congr_right fun _=>⟨fun ha=>⟨fun i x hx=>?_,fun i hi=>?_⟩,fun ⟨ha,hb⟩ x hx=>?_⟩
  ·have hil:=(List.getElem?_eq_some_iff.1 hx).1
   obtain ⟨y,h1,h2,h3⟩:=s6 i x hx
   have:=ha y (List.mem_append_left _ (List.mem_of_getElem? h1))
   rw [h3,lt0 p05 (ola x (List.mem_of_getElem? hx)),Nat.zero_add,lt0 p05 ((osh i).resolve_right (by omega))] at this
   simpa using this
  ·have:=ha (lsSe C i) (List.mem_append_right _ (List.mem_map.2 ⟨i,List.mem_range.2 hi,rfl⟩))
   rw [lt0 p06 ((ose i).resolve_right (by omega))] at this
   exact this
  ·rcases List.mem_append.1 hx with hx | hx
   ·obtain ⟨i,hi⟩:=List.mem_iff_getElem?.1 hx
    have hil:=(List.getElem?_eq_some_iff.1 hi).1
    rw [hn6] at hil
    obtain ⟨y,h1,h2,h3⟩:=s6 i _ (List.getElem?_eq_getElem hil)
    obtain rfl:x=y:=Option.some.inj (hi.symm.trans h1)
    rw [h3,lt0 p05 (ola _ (List.getElem_mem hil)),Nat.zero_add,lt0 p05 ((osh i).resolve_right (by omega)),ha i _ (List.getElem?_eq_getElem hil)]
    simp
   ·obtain ⟨i,hi,rfl⟩:=List.mem_map.1 hx
    have hi:=List.mem_range.1 hi
    rw [lt0 p06 ((ose i).resolve_right (by omega))]
    exact hb i hi
end
end Go.Hx
namespace Go.Proofs.YtdpbdjdgdmheiaaGreat
open Go.Hx
section
variable {C:Circ} {must:List Int} {G NL:List L3}
theorem ls_more (a:LsA C must G NL):More C (lassoX C must) [lsSave C] NL G (lsP C must):=by
 have hl:=a.nl
 refine ⟨a.like.ins,a.lats,a.ands,a.mx,?_,fun i g hg=>(a.gok i g hg).1,fun x hx=>?_⟩
 ·refine List.ext_getElem? fun i=>?_
  rw [List.getElem?_map]
  cases i with
  | zero=>rw [List.getElem?_range (by unfold lsP;omega)];simp [lsSave]
  | succ i=>
   rw [List.singleton_append,List.getElem?_cons_succ,List.getElem?_map]
   rcases Nat.lt_or_ge i NL.length with h | h
   ·rw [List.getElem?_range (by unfold lsP;omega),List.getElem?_eq_getElem h]
    have:=(a.na i _ (List.getElem?_eq_getElem h)).1
    simp only [Option.map_some,this,Option.some.injEq]
    omega
   ·rw [List.getElem?_eq_none h,List.getElem?_eq_none (by simp;unfold lsP;omega)]
    rfl
 ·obtain ⟨i,hi⟩:=List.mem_iff_getElem?.1 hx
  exact .inl (a.na i x hi).2.1
def MustOk (C:Circ) (must:List Int):Prop:=∀ q∈must,us1 C.mx (defs C).2.2 q=0
theorem lasso_some (h:(chk C).2=0) (hm:MustOk C must):∃ G NL,LsA C must G NL:=by
 obtain ⟨G,NL,a,_⟩:=lasso_ev h hm (W0:=List.replicate ((C.mx+1).toNat+lsP C must) false) (by simp)
 exact ⟨G,NL,a⟩
theorem lasso_w (h:(chk C).2=0) (hm:MustOk C must) (a:LsA C must G NL) {W0:List Bool} (hW:W0.length=(C.mx+1).toNat+lsP C must):LsW C must NL W0 (evalG W0 G):=by
 obtain ⟨G',NL',a',w⟩:=lasso_ev h hm hW
 have e1:=a.ands
 rw [a'.ands] at e1
 have e2:=a.lats
 rw [a'.lats] at e2
 rw [<- List.append_cancel_left e1,<- List.append_cancel_left e2]
 exact w
theorem lasso_chk (h:(chk C).2=0) (hm:MustOk C must) (hl:¬ LLong C must):chk (lassoX C must)=(0,0):=by
 obtain ⟨G,NL,a⟩:=lasso_some h hm
 obtain ⟨⟨b0,b1⟩,b2,b3,b4,b5,b6,b7,b8,b9,b10,b11,b12⟩:=chk_bounds h
 obtain ⟨u1,u2,u3,u4,u5,u6,u7⟩:=uses_ok h
 have k:=a.like
 have hj:(lassoX C must).just=[]:=k.just
 have hf:(lassoX C must).fair=[]:=k.fair
 have ho:(lassoX C must).outs=[]:=k.outs
 have hs:(lassoX C must).syms=[]:=k.syms
 have hc:(lassoX C must).coms=[]:=k.coms
 have hcs:(lassoX C must).cons=C.cons:=k.cons
 have hi:(lassoX C must).ins=C.ins++[lsSave C]:=k.ins
 have hg:=a.gl
 have hn:=a.nl
 refine chk_more (ls_more a) h (sizeE_ok ?_ ?_) (fun i g hg=>(a.gok i g hg).2) (fun x hx=>?_) (fun x hx=>by rw [ho] at hx;cases hx) (fun x hx=>?_) (fun x hx=>?_) (fun l hl=>by rw [hj] at hl;cases hl) (fun x hx=>by rw [hf] at hx;cases hx) ?_ ?_
 ·rw [a.mx]
  unfold LLong at hl
  unfold lsP
  omega
 ·unfold Big
  rw [hj,hf,ho,hs,hc,hcs,hi,a.lats,a.ands]
  unfold LLong at hl
  have:(lassoX C must).bads.length=1:=rfl
  simp only [List.length_append,List.length_nil,List.length_singleton,List.map_nil,List.sum_nil]
  omega
 ·obtain ⟨i,hi⟩:=List.mem_iff_getElem?.1 hx
  exact (a.na i x hi).2.2
 ·have:(lassoX C must).bads=[(ls7 C must).2]:=rfl
  rw [this,List.mem_singleton] at hx
  subst hx
  exact a.bad
 ·rw [hcs] at hx
  exact .inl (u4 x hx)
 ·unfold syF;rw [hs];rfl
 ·unfold comF;rw [hc];rfl
end
structure LsSt where
 st:List Bool
 sv:Bool
 sh:List Bool
 se:List Bool
def LsSt.l (s:LsSt):List Bool:=s.st++(s.sv::(s.sh++s.se))
noncomputable def lsStep (C:Circ) (must:List Int) (s:LsSt) (V:List Bool) (b:Bool):LsSt:=
 ⟨nextL C V,b || s.sv,if (b && !s.sv)=true then s.st else s.sh,List.zipWith (fun e q=>e || ((b || s.sv) && lit V q)) s.se must⟩
def LsSt.Bad (s:LsSt):Prop:=s.sv=true/\s.st=s.sh/\∀ e∈s.se,e=true
structure LsSt.Ok (C:Circ) (must:List Int) (s:LsSt):Prop where
 st:s.st.length=C.lats.length
 sh:s.sh.length=C.lats.length
 se:s.se.length=must.length
theorem lit_at {W:List Bool} {l:Int} {j:Nat} {x:Bool} (h:W[j]?=some x) (hl:l=2*(j:Int)):lit W l=x:=by
 unfold lit
 rw [List.getD_eq_getElem?_getD,decide_eq_false (by omega),show (l / 2).toNat=j by omega,h]
 simp
section
variable {C:Circ} {must:List Int} {G NL:List L3} {s:LsSt} {r:List Bool} {b:Bool}
theorem LsSt.Ok.step (o:s.Ok C must) {V:List Bool}:(lsStep C must s V b).Ok C must:=by
 refine ⟨by simp [lsStep,nextL],?_,by simp [lsStep,o.se]⟩
 simp only [lsStep]
 split
 ·exact o.st
 ·exact o.sh
open Classical in
noncomputable def lsMo (C:Circ) (s:LsSt) (V:List Bool):Mo:=⟨s.l,C.cons.all (lit V),if s.Bad then [0] else [],[]⟩
theorem lasso_step (h:(chk C).2=0) (hm:MustOk C must) (hX:(chk (lassoX C must)).2=0) (o:s.Ok C must) (hr:r.length=C.ins.length) :
  moOf (lassoX C must) s.l (valsOf (lassoX C must) s.l (r++[b]))=lsMo C s (valsOf C s.st r)/\nextL (lassoX C must) (valsOf (lassoX C must) s.l (r++[b]))=(lsStep C must s (valsOf C s.st r) b).l:=by
 obtain ⟨G,NL,a⟩:=lasso_some h hm
 have m0:=(gok h).mx0
 have hv:=valsOf_is h hr o.st
 have hV:=hv.len
 obtain ⟨l1,_,_,l4,_⟩:=good_lits h
 have hwl:(s.sv::(s.sh++s.se)).length=1+C.lats.length+must.length:=by simp [o.sh,o.se];omega
 have hnl:=a.nl
 have eW:=vals_more (ls_more a) h hX (fun i g hg=>(a.gok i g hg).2) o.st hr (st2:=s.sv::(s.sh++s.se)) (row2:=[b]) (by omega) rfl
 have hlen:(valsOf C s.st r++([b]++(s.sv::(s.sh++s.se)))).length=(C.mx+1).toNat+lsP C must:=by
  rw [List.length_append,List.length_append,hwl,hV];unfold lsP;simp;omega
 have w:=lasso_w h hm a hlen
 change valsOf (lassoX C must) s.l (r++[b])=_ at eW
 rw [eW]
 obtain ⟨W0,hW0⟩:∃ W0,W0=valsOf C s.st r++([b]++(s.sv::(s.sh++s.se))):=⟨_,rfl⟩
 obtain ⟨V,hVd⟩:∃ V,V=valsOf C s.st r:=⟨_,rfl⟩
 rw [<- hVd] at hW0 hV hv ⊢
 rw [<- hVd,<- hW0] at w hlen
 rw [<- hW0]
 have at0:∀ (j:Nat) x,([b]++(s.sv::(s.sh++s.se)))[j]?=some x->∀ l:Int,l=2*(C.mx+1+j)->lit W0 l=x:=fun j x hx l hl=>by
  refine lit_at (j:=(C.mx+1).toNat+j) ?_ (by omega)
  rw [hW0,List.getElem?_append_right (by omega),hV,Nat.add_sub_cancel_left]
  exact hx
 have vsv:lit W0 (lsSave C)=b:=at0 0 b rfl _ (by unfold lsSave;omega)
 have vsd:lit W0 (lsSaved C)=s.sv:=at0 1 s.sv rfl _ (by unfold lsSaved;omega)
 have vsh:∀ (i:Nat) x,s.sh[i]?=some x->lit W0 (lsSh C i)=x:=fun i x hx=>at0 (2+i) x (by
  have:=(List.getElem?_eq_some_iff.1 hx).1
  rw [show 2+i=i+1+1 by omega]
  simp only [List.singleton_append,List.getElem?_cons_succ]
  rw [List.getElem?_append_left this]
  exact hx) _ (by unfold lsSh;omega)
 have vse:∀ (i:Nat) x,s.se[i]?=some x->lit W0 (lsSe C i)=x:=fun i x hx=>at0 (2+(C.lats.length+i)) x (by
  rw [show 2+(C.lats.length+i)=C.lats.length+i+1+1 by omega]
  simp only [List.singleton_append,List.getElem?_cons_succ]
  rw [List.getElem?_append_right (by have:=o.sh;omega),o.sh,Nat.add_sub_cancel_left]
  exact hx) _ (by unfold lsSe;omega)
 have old:∀ {l:Int},0≤l->l≤2*C.mx+1->lit W0 l=lit V l:=fun {l} h1 h2=>lit_pfx ⟨_,hW0.symm⟩ (by omega)
 have oldW:∀ {l:Int},0≤l->l≤2*C.mx+1->lit (evalG W0 G) l=lit V l:=fun {l} h1 h2=>by rw [lit_evalG (by rw [hlen];omega),old h1 h2]
 have vla:∀ (i:Nat) x y,C.lats[i]?=some x->s.st[i]?=some y->lit W0 x.a=y:=fun i x y hx hy=>by
  obtain ⟨h1,h2,h3,h4⟩:=(dn h).l i x hx
  rw [old (by omega) (by omega)]
  exact lit_at (hv.l i x y hx hy) (by omega)
 have vq:∀ q∈must,lit W0 q=lit V q:=fun q hq=>by
  have:=(us1_zero.1 (hm q hq)).1
  exact old this.1 (by omega)
 have eb:lit (evalG W0 G) (ls7 C must).2=true↔s.Bad:=by
  rw [w.bad,vsd]
  refine and_congr_right fun _=>and_congr ⟨fun hh=>?_,fun hh i x hx=>?_⟩ ⟨fun hh e he=>?_,fun hh i hi=>?_⟩
  ·refine List.ext_getElem? fun i=>?_
   have e1:=o.st
   have e2:=o.sh
   rcases Nat.lt_or_ge i C.lats.length with hi | hi
   ·have:=hh i _ (List.getElem?_eq_getElem hi)
    rw [vla i _ _ (List.getElem?_eq_getElem hi) (List.getElem?_eq_getElem (by omega)),vsh i _ (List.getElem?_eq_getElem (by omega))] at this
    rw [List.getElem?_eq_getElem (by omega),List.getElem?_eq_getElem (by omega),this]
   ·rw [List.getElem?_eq_none (by omega),List.getElem?_eq_none (by omega)]
  ·have hil:=(List.getElem?_eq_some_iff.1 hx).1
   have hsi:=List.getElem?_eq_getElem (l:=s.st) (i:=i) (by rw [o.st];exact hil)
   rw [vla i x _ hx hsi]
   exact (vsh i _ (by rw [<- hh];exact hsi)).symm
  ·obtain ⟨i,hi⟩:=List.mem_iff_getElem?.1 he
   have hil:=(List.getElem?_eq_some_iff.1 hi).1
   rw [<- vse i e hi]
   exact hh i (by have:=o.se;omega)
  ·have hsi:=List.getElem?_eq_getElem (l:=s.se) (i:=i) (by rw [o.se];exact hi)
   rw [vse i _ hsi]
   exact hh _ (List.mem_of_getElem? hsi)
 constructor
 ·unfold moOf lsMo
  have k:=a.like
  rw [show (lassoX C must).cons=C.cons from k.cons,show (lassoX C must).just=[] from k.just,show (lassoX C must).fair=[] from k.fair,show (lassoX C must).bads=[(ls7 C must).2] from rfl]
  have hcon:C.cons.all (lit (evalG W0 G))=C.cons.all (lit V):=by
   rw [Bool.eq_iff_iff,List.all_eq_true,List.all_eq_true]
   have:∀ x∈C.cons,lit (evalG W0 G) x=lit V x:=fun x hx=>oldW (l4 x hx).1 (l4 x hx).2
   exact ⟨fun hh x hx=>by rw [<- this x hx];exact hh x hx,fun hh x hx=>by rw [this x hx];exact hh x hx⟩
  rw [hcon]
  simp only [badF,justF,fairF,List.append_nil]
  congr 1
  by_cases hB:s.Bad
  ·rw [if_pos (eb.2 hB),if_pos hB];rfl
  ·rw [if_neg fun hh=>hB (eb.1 hh),if_neg hB]
 ·unfold nextL LsSt.l lsStep
  rw [a.lats,List.map_append]
  simp only
  congr 1
  ·exact List.map_congr_left fun x hx=>oldW (l1 x hx).1 (l1 x hx).2
  ·refine List.ext_getElem? fun i=>?_
   cases i with
   | zero=>
    have hy:=List.getElem?_eq_getElem (l:=NL) (i:=0) (by omega)
    rw [List.getElem?_map,hy,List.getElem?_cons_zero,Option.map_some,w.v0 _ hy,vsv,vsd]
   | succ i=>
    rw [List.getElem?_cons_succ,List.getElem?_map]
    have e1:=o.st
    have e2:=o.sh
    have e3:=o.se
    have hshl:(if (b && !s.sv)=true then s.st else s.sh).length=C.lats.length:=by split <;> assumption
    rcases Nat.lt_or_ge i C.lats.length with hi | hi
    ·have hy:=List.getElem?_eq_getElem (l:=NL) (i:=1+i) (by omega)
     rw [show i+1=1+i by omega,hy,Option.map_some,w.sh i _ _ (List.getElem?_eq_getElem hi) hy,vsv,vsd,List.getElem?_append_left (by omega),vla i _ _ (List.getElem?_eq_getElem hi) (List.getElem?_eq_getElem (by omega)),vsh i _ (List.getElem?_eq_getElem (by omega))]
     split
     ·rw [List.getElem?_eq_getElem (by omega)]
     ·rw [List.getElem?_eq_getElem (by omega)]
    ·rcases Nat.lt_or_ge i (C.lats.length+must.length) with hk | hk
     ·have hy:=List.getElem?_eq_getElem (l:=NL) (i:=1+C.lats.length+(i-C.lats.length)) (by omega)
      have hq:=List.getElem?_eq_getElem (l:=must) (i:=i-C.lats.length) (by omega)
      have hse:=List.getElem?_eq_getElem (l:=s.se) (i:=i-C.lats.length) (by omega)
      rw [show i+1=1+C.lats.length+(i-C.lats.length) by omega,hy,Option.map_some,w.se _ _ _ hq hy,vsv,vsd,vse _ _ hse,vq _ (List.mem_of_getElem? hq),List.getElem?_append_right (by omega),hshl,List.getElem?_zipWith,hse,hq]
     ·rw [List.getElem?_eq_none (by omega),List.getElem?_append_right (by omega),hshl,List.getElem?_eq_none (by simp;omega)]
      rfl
noncomputable def lsMs (C:Circ) (must:List Int):LsSt->List (List Bool×Bool)->List Mo
 | _,[]=>[]
 | s,(r,b)::rs=>lsMo C s (valsOf C s.st r)::lsMs C must (lsStep C must s (valsOf C s.st r) b) rs
noncomputable def lsEnd (C:Circ) (must:List Int):LsSt->List (List Bool×Bool)->LsSt
 | s,[]=>s
 | s,(r,b)::rs=>lsEnd C must (lsStep C must s (valsOf C s.st r) b) rs
def lsRow (p:List Bool×Bool):List Bool:=p.1++[p.2]
theorem movs_lasso (h:(chk C).2=0) (hm:MustOk C must) (hX:(chk (lassoX C must)).2=0):∀ {rs:List (List Bool×Bool)} {s:LsSt},s.Ok C must->(∀ p∈rs,p.1.length=C.ins.length)->movs (lassoX C must) s.l (rs.map lsRow)=lsMs C must s rs
 | [],_,_,_=>rfl
 | (r,b)::rs,s,o,hr=>by
  obtain ⟨h1,h2⟩:=lasso_step (b:=b) h hm hX o (hr _ (List.mem_cons_self ..))
  rw [List.map_cons,movs,lsMs]
  show moOf (lassoX C must) s.l (valsOf (lassoX C must) s.l (r++[b]))::movs (lassoX C must) (nextL (lassoX C must) (valsOf (lassoX C must) s.l (r++[b]))) _=_
  rw [h1,h2,movs_lasso h hm hX o.step fun p hp=>hr p (List.mem_cons_of_mem _ hp)]
end
end Go.Proofs.YtdpbdjdgdmheiaaGreat
namespace Go.Proofs.YtdpbdjdgdmheiaaGreat
open Go.Hx
theorem mem_fairF {a:Int} {V:List Bool} {s:Mk}:∀ {l:List Int} {o:Nat},s∈fairF a V l o↔∃ (i:Nat) (x:Int),l[i]?=some x/\s=(a,((o+i:Nat):Int))/\lit V x=true
 | [],o=>by simp [fairF]
 | x::l,o=>by
  rw [fairF,List.mem_append,mem_fairF]
  constructor
  ·rintro (h | ⟨i,y,h1,h2,h3⟩)
   ·split at h
    ·rename_i hx
     rw [List.mem_singleton] at h
     exact ⟨0,x,rfl,by rw [h] <;> rfl,hx⟩
    ·cases h
   ·exact ⟨i+1,y,by simpa using h1,by rw [h2];congr 2;omega,h3⟩
  ·rintro ⟨i,y,h1,h2,h3⟩
   cases i with
   | zero=>
    simp only [List.getElem?_cons_zero,Option.some.injEq] at h1
    subst h1
    left
    rw [if_pos h3,List.mem_singleton,h2];rfl
   | succ i=>exact .inr ⟨i,y,by simpa using h1,by rw [h2];congr 2;omega,h3⟩
theorem mem_justF {V:List Bool} {s:Mk}:∀ {L:List (List Int)} {o:Nat},s∈justF V L o↔∃ (j:Nat) (l:List Int) (i:Nat) (x:Int),L[j]?=some l/\l[i]?=some x/\s=(((o+j:Nat):Int),(i:Int))/\lit V x=true
 | [],o=>by simp [justF]
 | l::L,o=>by
  rw [justF,List.mem_append,mem_justF,mem_fairF]
  constructor
  ·rintro (⟨i,x,h1,h2,h3⟩ | ⟨j,l',i,x,h1,h2,h3,h4⟩)
   ·exact ⟨0,l,i,x,rfl,h1,by rw [h2,Nat.zero_add];rfl,h3⟩
   ·exact ⟨j+1,l',i,x,by simpa using h1,h2,by rw [h3];congr 2;omega,h4⟩
  ·rintro ⟨j,l',i,x,h1,h2,h3,h4⟩
   cases j with
   | zero=>
    simp only [List.getElem?_cons_zero,Option.some.injEq] at h1
    subst h1
    exact .inl ⟨i,x,h2,by rw [h3,Nat.zero_add];rfl,h4⟩
   | succ j=>exact .inr ⟨j,l',i,x,by simpa using h1,h2,by rw [h3];congr 2;omega,h4⟩
noncomputable def stepsV (C:Circ):List Bool->List (List Bool)->List (List Bool)
 | _,[]=>[]
 | st,r::rs=>valsOf C st r::stepsV C (nextL C (valsOf C st r)) rs
theorem movs_fair {C:Circ} {s:Mk}:∀ {rs:List (List Bool)} {st:List Bool},(∃ m∈movs C st rs,s∈m.fair)↔∃ V∈stepsV C st rs,s∈justF V C.just 0++fairF (-1) V C.fair 0
 | [],st=>by simp [movs,stepsV]
 | r::rs,st=>by
  rw [movs,stepsV]
  simp only [List.mem_cons,exists_eq_or_imp]
  rw [movs_fair]
  rfl
theorem came_app {C:Circ} {s:Mk} {A R:List (List Bool)} {st:List Bool}:cameIn (movs C st (A++R)) A.length s↔∃ V∈stepsV C (endS C st A) R,s∈justF V C.just 0++fairF (-1) V C.fair 0:=by
 unfold cameIn
 rw [movs_app,List.drop_left' movs_len,movs_fair]
theorem came_must {C:Circ} {j:Int} {A R:List (List Bool)} {st:List Bool} (h0:0≤j) (h1:j<C.just.length) :
  ((∀ k,k<(C.just.getD j.toNat []).length->cameIn (movs C st (A++R)) A.length (j,(k:Int)))/\∀ k,k<C.fair.length->cameIn (movs C st (A++R)) A.length (-1,(k:Int))) ↔
   ∀ q∈mustOf C j,∃ V∈stepsV C (endS C st A) R,lit V q=true:=by
 have hj:j.toNat<C.just.length:=by omega
 have hg:C.just.getD j.toNat []=C.just[j.toNat]:=by rw [List.getD_eq_getElem?_getD,List.getElem?_eq_getElem hj];rfl
 have one:∀ (V:List Bool) (k:Nat) x,C.just[j.toNat][k]?=some x->((j,(k:Int))∈justF V C.just 0++fairF (-1) V C.fair 0↔lit V x=true):=fun V k x hx=>by
  rw [List.mem_append,mem_justF,mem_fairF]
  constructor
  ·rintro (⟨j',l,i,y,h2,h3,h4,h5⟩ | ⟨i,y,h2,h3,h4⟩)
   ·simp only [Prod.mk.injEq] at h4
    obtain ⟨h6,h7⟩:=h4
    obtain rfl:j'=j.toNat:=by omega
    obtain rfl:k=i:=by omega
    rw [List.getElem?_eq_getElem hj] at h2
    obtain rfl:=Option.some.inj h2
    rw [hx] at h3
    rw [Option.some.inj h3]
    exact h5
   ·simp only [Prod.mk.injEq] at h3;omega
  ·exact fun h=>.inl ⟨j.toNat,_,k,x,List.getElem?_eq_getElem hj,hx,by rw [Nat.zero_add,Int.toNat_of_nonneg h0],h⟩
 have two:∀ (V:List Bool) (k:Nat) x,C.fair[k]?=some x->((-1,(k:Int))∈justF V C.just 0++fairF (-1) V C.fair 0↔lit V x=true):=fun V k x hx=>by
  rw [List.mem_append,mem_justF,mem_fairF]
  constructor
  ·rintro (⟨j',l,i,y,h2,h3,h4,h5⟩ | ⟨i,y,h2,h3,h4⟩)
   ·simp only [Prod.mk.injEq] at h4;omega
   ·simp only [Prod.mk.injEq] at h3
    obtain rfl:k=i:=by omega
    rw [hx] at h2
    rw [Option.some.inj h2]
    exact h4
  ·exact fun h=>.inr ⟨k,x,hx,by simp,h⟩
 have ex:∀ {P Q:List Bool->Prop} {L:List (List Bool)},(∀ V,P V↔Q V)->((∃ V∈L,P V)↔∃ V∈L,Q V):=fun h=>⟨fun ⟨V,a,b⟩=>⟨V,a,(h V).1 b⟩,fun ⟨V,a,b⟩=>⟨V,a,(h V).2 b⟩⟩
 unfold mustOf
 rw [hg]
 constructor
 ·rintro ⟨ha,hb⟩ q hq
  rcases List.mem_append.1 hq with hq | hq
  ·obtain ⟨k,hk⟩:=List.mem_iff_getElem?.1 hq
   have:=came_app.1 (ha k (List.getElem?_eq_some_iff.1 hk).1)
   exact (ex fun V=>one V k q hk).1 this
  ·obtain ⟨k,hk⟩:=List.mem_iff_getElem?.1 hq
   have:=came_app.1 (hb k (List.getElem?_eq_some_iff.1 hk).1)
   exact (ex fun V=>two V k q hk).1 this
 ·intro h
  refine ⟨fun k hk=>came_app.2 ?_,fun k hk=>came_app.2 ?_⟩
  ·exact (ex fun V=>one V k _ (List.getElem?_eq_getElem hk)).2 (h _ (List.mem_append_left _ (List.getElem_mem hk)))
  ·exact (ex fun V=>two V k _ (List.getElem?_eq_getElem hk)).2 (h _ (List.mem_append_right _ (List.getElem_mem hk)))
section
variable {C:Circ} {must:List Int}
theorem lsMs_app:∀ {A B:List (List Bool×Bool)} {s:LsSt},lsMs C must s (A++B)=lsMs C must s A++lsMs C must (lsEnd C must s A) B
 | [],B,s=>rfl
 | (r,b)::A,B,s=>by rw [List.cons_append,lsMs,lsMs,lsEnd,List.cons_append,lsMs_app]
theorem lsEnd_app:∀ {A B:List (List Bool×Bool)} {s:LsSt},lsEnd C must s (A++B)=lsEnd C must (lsEnd C must s A) B
 | [],B,s=>rfl
 | (r,b)::A,B,s=>by rw [List.cons_append,lsEnd,lsEnd,lsEnd_app]
theorem lsMs_len:∀ {A:List (List Bool×Bool)} {s:LsSt},(lsMs C must s A).length=A.length
 | [],s=>rfl
 | (r,b)::A,s=>by rw [lsMs,List.length_cons,List.length_cons,lsMs_len]
theorem lsMs_ok:∀ {A:List (List Bool×Bool)} {s:LsSt},(∀ m∈lsMs C must s A,m.ok=true)↔∀ m∈movs C s.st (A.map (·.1)),m.ok=true
 | [],s=>by simp [lsMs,movs]
 | (r,b)::A,s=>by
  rw [lsMs,List.map_cons,movs,List.forall_mem_cons,List.forall_mem_cons,lsMs_ok]
  rfl
theorem lastM_ls {A:List (List Bool×Bool)} {r:List Bool} {b:Bool} {s:LsSt}:lastM (lsMs C must s (A++[(r,b)]))=lsMo C (lsEnd C must s A) (valsOf C (lsEnd C must s A).st r):=by
 unfold lastM
 rw [lsMs_app,List.length_append,lsMs_len,List.getD_eq_getElem?_getD,List.getElem?_append_right (by rw [lsMs_len];simp [lsMs]),lsMs_len]
 simp [lsMs,lsMs_len]
theorem zipF {se:List Bool} {must:List Int} {g:Bool->Int->Bool} (hl:se.length=must.length) (hg:∀ e q,g e q=e):List.zipWith g se must=se:=by
 refine List.ext_getElem? fun i=>?_
 rw [List.getElem?_zipWith]
 rcases Nat.lt_or_ge i se.length with h | h
 ·rw [List.getElem?_eq_getElem h,List.getElem?_eq_getElem (by omega)];simp [hg]
 ·rw [List.getElem?_eq_none h]
theorem lsPre:∀ {A:List (List Bool×Bool)} {s:LsSt},s.sv=false->s.se.length=must.length->(∀ p∈A,p.2=false)->lsEnd C must s A=⟨endS C s.st (A.map (·.1)),false,s.sh,s.se⟩
 | [],s,h,_,_=>by rw [lsEnd,List.map_nil,endS,<- h]
 | (r,b)::A,s,h,hl,hA=>by
  have hb:b=false:=hA _ (List.mem_cons_self ..)
  have e:lsStep C must s (valsOf C s.st r) b=⟨nextL C (valsOf C s.st r),false,s.sh,s.se⟩:=by
   unfold lsStep
   rw [hb,h]
   simp only [Bool.false_or,Bool.false_and,Bool.or_false,Bool.false_eq_true,if_false]
   rw [zipF hl (fun _ _=>rfl)]
  rw [lsEnd,e,lsPre (s:=⟨nextL C (valsOf C s.st r),false,s.sh,s.se⟩) rfl hl fun p hp=>hA p (List.mem_cons_of_mem _ hp)]
  rfl
noncomputable def seenL (C:Circ) (must:List Int):List Bool->List (List Bool)->List Bool->List Bool
 | _,[],se=>se
 | st,r::rs,se=>seenL C must (nextL C (valsOf C st r)) rs (List.zipWith (fun e q=>e || lit (valsOf C st r) q) se must)
theorem lsAft:∀ {A:List (List Bool×Bool)} {s:LsSt},s.sv=true->lsEnd C must s A=⟨endS C s.st (A.map (·.1)),true,s.sh,seenL C must s.st (A.map (·.1)) s.se⟩
 | [],s,h=>by rw [lsEnd,List.map_nil,endS,seenL,<- h]
 | (r,b)::A,s,h=>by
  have e:lsStep C must s (valsOf C s.st r) b=⟨nextL C (valsOf C s.st r),true,s.sh,List.zipWith (fun e q=>e || lit (valsOf C s.st r) q) s.se must⟩:=by
   unfold lsStep
   rw [h]
   simp only [Bool.or_true,Bool.not_true,Bool.and_false,Bool.true_and,Bool.false_eq_true,if_false]
  rw [lsEnd,e,lsAft (s:=⟨nextL C (valsOf C s.st r),true,s.sh,List.zipWith (fun e q=>e || lit (valsOf C s.st r) q) s.se must⟩) rfl]
  rfl
theorem seenL_at:∀ {rs:List (List Bool)} {st se:List Bool} {i:Nat} {q:Int} {e:Bool},must[i]?=some q->se[i]?=some e->(seenL C must st rs se)[i]?=some (e || (stepsV C st rs).any fun V=>lit V q)
 | [],st,se,i,q,e,hq,he=>by rw [seenL,stepsV,he];simp
 | r::rs,st,se,i,q,e,hq,he=>by
  rw [seenL,stepsV,seenL_at (e:=e || lit (valsOf C st r) q) hq (by rw [List.getElem?_zipWith,he,hq]),List.any_cons,Bool.or_assoc]
theorem seenL_len:∀ {rs:List (List Bool)} {st se:List Bool},se.length=must.length->(seenL C must st rs se).length=must.length
 | [],st,se,h=>h
 | r::rs,st,se,h=>by rw [seenL];exact seenL_len (by simp [h])
theorem seenL_all {rs:List (List Bool)} {st:List Bool}:(∀ e∈seenL C must st rs (List.replicate must.length false),e=true)↔∀ q∈must,∃ V∈stepsV C st rs,lit V q=true:=by
 have hat:∀ i (hi:i<must.length),(seenL C must st rs (List.replicate must.length false))[i]?=some ((stepsV C st rs).any fun V=>lit V must[i]):=fun i hi=>by
  rw [seenL_at (e:=false) (List.getElem?_eq_getElem hi) (by rw [List.getElem?_replicate,if_pos hi]),Bool.false_or]
 constructor
 ·intro h q hq
  obtain ⟨i,hi,rfl⟩:=List.getElem_of_mem hq
  have:=h _ (List.mem_of_getElem? (hat i hi))
  rw [List.any_eq_true] at this
  exact this
 ·intro h e he
  obtain ⟨i,hi⟩:=List.mem_iff_getElem?.1 he
  have hil:=(List.getElem?_eq_some_iff.1 hi).1
  rw [seenL_len (by simp)] at hil
  rw [hat i hil] at hi
  rw [<- Option.some.inj hi,List.any_eq_true]
  exact h _ (List.getElem_mem hil)
def lsS0 (must:List Int) (st sh:List Bool):LsSt:=⟨st,false,sh,List.replicate must.length false⟩
theorem lsMid {A B:List (List Bool×Bool)} {r:List Bool} {st sh:List Bool} (hA:∀ p∈A,p.2=false) :
  lsEnd C must (lsS0 must st sh) (A++(r,true)::B)=⟨endS C (endS C st (A.map (·.1))) (r::B.map (·.1)),true,endS C st (A.map (·.1)),seenL C must (endS C st (A.map (·.1))) (r::B.map (·.1)) (List.replicate must.length false)⟩:=by
 rw [lsEnd_app,lsPre rfl (by simp [lsS0]) hA,lsEnd,lsAft (by simp [lsStep])]
 simp only [lsStep,lsS0,endS,seenL,Bool.not_false,Bool.and_true,if_true,Bool.true_or,Bool.true_and]
theorem lsMid_bad {A B:List (List Bool×Bool)} {r:List Bool} {st sh:List Bool} (hA:∀ p∈A,p.2=false) :
  (lsEnd C must (lsS0 must st sh) (A++(r,true)::B)).Bad↔endS C (endS C st (A.map (·.1))) (r::B.map (·.1))=endS C st (A.map (·.1))/\∀ q∈must,∃ V∈stepsV C (endS C st (A.map (·.1))) (r::B.map (·.1)),lit V q=true:=by
 rw [lsMid hA]
 unfold LsSt.Bad
 simp only [true_and]
 rw [seenL_all]
def loopF (nI nL:Nat):List Mo->List (List Bool)->Nat->Int->Int
 | M::Ms,r::rs,i,lp=>loopF nI nL Ms rs (i+1) (if (r.getD nI false && !M.st.getD nL false)=true then (i:Int) else lp)
 | _,_,_,lp=>lp
theorem row_at {p:List Bool×Bool} {n:Nat} (h:p.1.length=n):(lsRow p).getD n false=p.2:=by
 unfold lsRow
 rw [List.getD_eq_getElem?_getD,List.getElem?_append_right (by omega),h,Nat.sub_self];rfl
theorem sv_at {s:LsSt} {n:Nat} (h:s.st.length=n):s.l.getD n false=s.sv:=by
 unfold LsSt.l
 rw [List.getD_eq_getElem?_getD,List.getElem?_append_right (by omega),h,Nat.sub_self];rfl
theorem loop_pre:∀ {A B:List (List Bool×Bool)} {Ms:List Mo} {s:LsSt} {i:Nat} {lp:Int},s.Ok C must->(∀ p∈A,p.2=false)->(∀ p∈A,p.1.length=C.ins.length) ->
  loopF C.ins.length C.lats.length (lsMs C must s A++Ms) ((A++B).map lsRow) i lp=loopF C.ins.length C.lats.length Ms (B.map lsRow) (i+A.length) lp
 | [],B,Ms,s,i,lp,o,hA,hr=>by simp [lsMs]
 | p::A,B,Ms,s,i,lp,o,hA,hr=>by
  obtain ⟨r,b⟩:=p
  have hb:b=false:=hA _ (List.mem_cons_self ..)
  rw [lsMs,List.cons_append,List.cons_append,List.map_cons,loopF,row_at (hr _ (List.mem_cons_self ..)),hb]
  simp only [Bool.false_and,Bool.false_eq_true,if_false]
  rw [loop_pre o.step (fun p hp=>hA p (List.mem_cons_of_mem _ hp)) fun p hp=>hr p (List.mem_cons_of_mem _ hp),List.length_cons,show i+1+A.length=i+(A.length+1) by omega]
theorem loop_aft:∀ {A:List (List Bool×Bool)} {s:LsSt} {i:Nat} {lp:Int},s.Ok C must->s.sv=true->loopF C.ins.length C.lats.length (lsMs C must s A) (A.map lsRow) i lp=lp
 | [],s,i,lp,o,hs=>rfl
 | p::A,s,i,lp,o,hs=>by
  obtain ⟨r,b⟩:=p
  rw [lsMs,List.map_cons,loopF]
  simp only [lsMo,sv_at o.st,hs,Bool.not_true,Bool.and_false,Bool.false_eq_true,if_false]
  exact loop_aft o.step (by simp [lsStep,hs])
theorem loop_at {A B:List (List Bool×Bool)} {r:List Bool} {st sh:List Bool} (o:(lsS0 must st sh).Ok C must) (hA:∀ p∈A,p.2=false) (hr:∀ p∈A++(r,true)::B,p.1.length=C.ins.length) :
  loopF C.ins.length C.lats.length (lsMs C must (lsS0 must st sh) (A++(r,true)::B)) ((A++(r,true)::B).map lsRow) 0 0=A.length:=by
 have hrA:∀ p∈A,p.1.length=C.ins.length:=fun p hp=>hr p (List.mem_append_left _ hp)
 rw [lsMs_app,loop_pre o hA hrA,lsPre rfl (by simp [lsS0]) hA,lsMs,List.map_cons,loopF,row_at (hr _ (List.mem_append_right _ (List.mem_cons_self ..)))]
 have o2:LsSt.Ok C must ⟨endS C (lsS0 must st sh).st (A.map (·.1)),false,(lsS0 must st sh).sh,(lsS0 must st sh).se⟩:=by
  refine ⟨?_,o.sh,o.se⟩
  have:∀ {rs:List (List Bool)} {st:List Bool},st.length=C.lats.length->(endS C st rs).length=C.lats.length:=by
   intro rs
   induction rs with
   | nil=>intro st h;exact h
   | cons r rs ih=>intro st h;rw [endS];exact ih (by simp [nextL])
  exact this o.st
 simp only [lsMo,sv_at o2.st,Bool.not_false,Bool.and_true,if_true]
 rw [loop_aft o2.step (by simp [lsStep])]
 simp
end
end Go.Proofs.YtdpbdjdgdmheiaaGreat
namespace Go.Proofs.YtdpbdjdgdmheiaaGreat
open Go.Hx
def FitN (T:Tr) (nl ni most:Nat):Prop:=T.init.length=nl/\1≤T.ins.length/\T.ins.length≤most/\∀ r∈T.ins,r.length=ni
instance (T:Tr) (a b c:Nat):Decidable (FitN T a b c):=by unfold FitN;infer_instance
def prs (T:Tr):List (List Bool×Bool):=(T.ins++[T.ins.getD T.loop.toNat []]).mapIdx fun i r=>(r,decide ((i:Int)=T.loop))
def forthT (C:Circ) (must:List Int) (T:Tr):Tr:=⟨T.init++List.replicate (1+C.lats.length+must.length) false,(prs T).map lsRow,-1⟩
noncomputable def forE (C:Circ) (j:Int) (T:Tr):Int:=if lsE C j≠0 then lsE C j else if ¬ FitN T C.lats.length C.ins.length 511 then 4 else if (propQ C 106 j T).2≠0 then 260 else 0
noncomputable def forR (C:Circ) (j:Int) (T:Tr):Tr:=if forE C j T=0 then forthT C (mustOf C j) T else Tr.zero
noncomputable def backT (C X:Circ) (U:Tr):Tr:=⟨U.init.take C.lats.length,(U.ins.take (U.ins.length-1)).map (·.take C.ins.length),loopF C.ins.length C.lats.length (movs X U.init U.ins) U.ins 0 0⟩
noncomputable def backE (C:Circ) (j:Int) (U:Tr):Int:=if lsE C j≠0 then lsE C j else if ¬ FitN U (lassoX C (mustOf C j)).lats.length (lassoX C (mustOf C j)).ins.length 512 then 4 else if (propQ (lassoX C (mustOf C j)) 98 0 { U with loop :=-1 }).2≠0 then 260 else 0
noncomputable def backL (C:Circ) (j:Int) (U:Tr):Tr:=if backE C j U=0 then backT C (lassoX C (mustOf C j)) U else Tr.zero
theorem iniF_z:∀ {L NL:List L3} {st st2:List Bool} {o:Nat},(∀ x∈NL,x.c=0)->st.length=L.length->st2.length=NL.length->(iniF (L++NL) (st++st2) o=none↔iniF L st o=none/\∀ b∈st2,b=false)
 | [],[],[],[],o,_,_,_=>by simp [iniF]
 | [],[],[],_::_,_,_,_,h=>by simp at h
 | [],_::_,[],[],_,_,_,h=>by simp at h
 | [],x::NL,[],b::st2,o,hc,h1,h2=>by
  have ih:=iniF_z (L:=[]) (st:=[]) (NL:=NL) (st2:=st2) (o:=o+1) (fun y hy=>hc y (List.mem_cons_of_mem _ hy)) rfl (by simpa using h2)
  have hx:=hc x (List.mem_cons_self ..)
  simp only [List.nil_append] at ih ⊢
  rw [iniF,hx]
  cases b with
  | true=>simp
  | false=>
   rw [if_neg (by simp),ih]
   simp [iniF]
 | [],_,_::_,_,_,_,h,_=>by simp at h
 | _::_,_,[],_,_,_,h,_=>by simp at h
 | y::L,NL,s::st,st2,o,hc,h1,h2=>by
  simp only [List.cons_append,iniF]
  split
  ·simp
  ·exact iniF_z hc (by simpa using h1) h2
theorem rep3 (n k:Nat):List.replicate (1+n+k) false=false::(List.replicate n false++List.replicate k false):=by
 rw [List.replicate_append_replicate,show 1+n+k=n+k+1 by omega,List.replicate_succ]
theorem lsS0_l {C:Circ} {must:List Int} {st:List Bool}:(lsS0 must st (List.replicate C.lats.length false)).l=st++List.replicate (1+C.lats.length+must.length) false:=by rw [rep3];rfl
section
variable {C:Circ} {j:Int} {T U:Tr}
theorem must_ok (h:(chk C).2=0) (h0:0≤j) (h1:j<C.just.length):MustOk C (mustOf C j):=by
 obtain ⟨u1,u2,u3,u4,u5,u6,u7⟩:=uses_ok h
 intro q hq
 unfold mustOf at hq
 rw [List.getD_eq_getElem?_getD,List.getElem?_eq_getElem (show j.toNat<C.just.length by omega)] at hq
 rcases List.mem_append.1 hq with hq | hq
 ·exact u5 _ (List.getElem_mem _) q hq
 ·exact u6 q hq
theorem lsX_facts (hE:lsE C j=0):chk (lassoX C (mustOf C j))=(0,0)/\MustOk C (mustOf C j)/\(chk C).2=0/\(lassoX C (mustOf C j)).lats.length=C.lats.length+(1+C.lats.length+(mustOf C j).length)/\(lassoX C (mustOf C j)).ins.length=C.ins.length+1 /\
  (∃ NL,(lassoX C (mustOf C j)).lats=C.lats++NL/\(∀ x∈NL,x.c=0)/\NL.length=1+C.lats.length+(mustOf C j).length)/\(lassoX C (mustOf C j)).bads.length=1:=by
 obtain ⟨hc,⟨h0,h1⟩,hl⟩:=lsE_ok hE
 have hm:=must_ok hc h0 h1
 obtain ⟨G,NL,a⟩:=lasso_some hc hm
 refine ⟨lasso_chk hc hm hl,hm,hc,?_,?_,⟨NL,a.lats,fun x hx=>?_,a.nl⟩,rfl⟩
 ·rw [a.lats,List.length_append,a.nl]
 ·rw [show (lassoX C (mustOf C j)).ins=C.ins++[lsSave C] from a.like.ins];simp
 ·obtain ⟨i,hi⟩:=List.mem_iff_getElem?.1 hx
  exact (a.na i x hi).2.1
theorem s0_ok {must:List Int} {st:List Bool} (h:st.length=C.lats.length):(lsS0 must st (List.replicate C.lats.length false)).Ok C must:=⟨h,by simp [lsS0],by simp [lsS0]⟩
theorem first_true:∀ {l:List (List Bool×Bool)},(∃ p∈l,p.2=true)->∃ A r B,l=A++(r,true)::B/\∀ p∈A,p.2=false
 | [],h=>by obtain ⟨p,hp,_⟩:=h;cases hp
 | (r,true)::l,_=>⟨[],r,l,rfl,fun p hp=>by cases hp⟩
 | (r,false)::l,h=>by
  obtain ⟨p,hp,h2⟩:=h
  rcases List.mem_cons.1 hp with rfl | hp
  ·cases h2
  ·obtain ⟨A,r',B,e,hA⟩:=first_true ⟨p,hp,h2⟩
   exact ⟨(r,false)::A,r',B,by rw [e] <;> rfl,fun q hq=>by
    rcases List.mem_cons.1 hq with rfl | hq
    ·rfl
    ·exact hA q hq⟩
theorem back (hB:backE C j U=0):(propQ (lassoX C (mustOf C j)) 98 0 { U with loop :=-1 }).2=0/\(propQ C 106 j (backT C (lassoX C (mustOf C j)) U)).2=0:=by
 unfold backE at hB
 split at hB
 ·rename_i h;exact absurd hB h
 rename_i hE
 split at hB
 ·simp at hB
 rename_i hN
 split at hB
 ·simp at hB
 rename_i hP
 have hE:=Decidable.not_not.1 hE
 have hN:=Decidable.not_not.1 hN
 have hP:=Decidable.not_not.1 hP
 refine ⟨hP,?_⟩
 obtain ⟨hX,hm,hc,xl,xi,⟨NL,hNL,hNc,hNl⟩,xb⟩:=lsX_facts hE
 obtain ⟨_,⟨j0,j1⟩,_⟩:=lsE_ok hE
 have hXc:(chk (lassoX C (mustOf C j))).2=0:=by rw [hX]
 obtain ⟨n1,n2,n3,n4⟩:=hN
 rw [xl] at n1
 rw [xi] at n4
 have hfit:Fit (lassoX C (mustOf C j)) { U with loop :=-1 }:=⟨by rw [xl];exact n1,n2,n3,Int.le_refl _,by show (-1:Int)<_;omega,fun r hr=>by rw [xi];exact n4 r hr⟩
 rw [bad_iff2 hXc hfit] at hP
 obtain ⟨_,hini,hok,hbd⟩:=hP
 simp only at hini hok hbd
 obtain ⟨st0,hst⟩:∃ st0,st0=U.init.take C.lats.length:=⟨_,rfl⟩
 have hsl:st0.length=C.lats.length:=by rw [hst,List.length_take];omega
 have hUi:U.init=st0++U.init.drop C.lats.length:=by rw [hst,List.take_append_drop]
 rw [hNL,hUi,iniF_z hNc hsl (by rw [hNl,List.length_drop];omega)] at hini
 obtain ⟨hini,hz⟩:=hini
 have hdr:U.init.drop C.lats.length=List.replicate (1+C.lats.length+(mustOf C j).length) false:=List.eq_replicate_iff.2 ⟨by rw [List.length_drop];omega,hz⟩
 rw [hdr,<- lsS0_l] at hUi
 obtain ⟨rs,hrs⟩:∃ rs,rs=U.ins.map fun r=>(r.take C.ins.length,r.getD C.ins.length false):=⟨_,rfl⟩
 have hins:U.ins=rs.map lsRow:=by
  rw [hrs,List.map_map]
  refine (List.map_id _).symm.trans (List.map_congr_left fun r hr=>?_)
  have:=n4 r hr
  show r=r.take C.ins.length++[r.getD C.ins.length false]
  rw [List.getD_eq_getElem?_getD,List.getElem?_eq_getElem (by omega)]
  refine List.ext_getElem? fun i=>?_
  rcases Nat.lt_or_ge i C.ins.length with h | h
  ·rw [List.getElem?_append_left (by rw [List.length_take];omega),List.getElem?_take,if_pos h]
  ·rw [List.getElem?_append_right (by rw [List.length_take];omega),List.length_take,Nat.min_eq_left (by omega)]
   rcases Nat.eq_or_lt_of_le h with h | h
   ·rw [<- h,Nat.sub_self,List.getElem?_eq_getElem (by omega)];rfl
   ·rw [List.getElem?_eq_none (by omega),List.getElem?_eq_none (by simp;omega)]
 have hrl:∀ p∈rs,p.1.length=C.ins.length:=fun p hp=>by
  rw [hrs] at hp
  obtain ⟨r,hr,rfl⟩:=List.mem_map.1 hp
  have:=n4 r hr
  simp only [List.length_take];omega
 have hs:=s0_ok (C:=C) (must:=mustOf C j) hsl
 have hmv:movs (lassoX C (mustOf C j)) U.init U.ins=lsMs C (mustOf C j) (lsS0 (mustOf C j) st0 (List.replicate C.lats.length false)) rs:=by
  rw [hins,hUi]
  exact movs_lasso hc hm hXc hs hrl
 have hrn:rs.length=U.ins.length:=by rw [hins,List.length_map]
 obtain ⟨rs',rN,bN,hlast⟩:∃ rs' rN bN,rs=rs'++[(rN,bN)]:=by
  have hne:rs≠[]:=fun e=>by rw [e] at hrn;simp at hrn;omega
  exact ⟨rs.dropLast,(rs.getLast hne).1,(rs.getLast hne).2,(List.dropLast_concat_getLast hne).symm⟩
 rw [hmv] at hok hbd
 rw [hlast,lastM_ls] at hbd
 have hBad:(lsEnd C (mustOf C j) (lsS0 (mustOf C j) st0 (List.replicate C.lats.length false)) rs').Bad:=by
  unfold lsMo at hbd
  simp only at hbd
  split at hbd
  ·assumption
  ·cases hbd
 have hex:∃ p∈rs',p.2=true:=by
  refine Classical.byContradiction fun hne=>?_
  have hall:∀ p∈rs',p.2=false:=fun p hp=>by
   cases hb:p.2 with
   | false=>rfl
   | true=>exact absurd ⟨p,hp,hb⟩ hne
  have:=hBad.1
  rw [lsPre rfl (by simp [lsS0]) hall] at this
  cases this
 obtain ⟨A,r,B,hsp,hA⟩:=first_true hex
 rw [hsp,lsMid_bad hA] at hBad
 obtain ⟨hrd,hmust⟩:=hBad
 have hloop:loopF C.ins.length C.lats.length (movs (lassoX C (mustOf C j)) U.init U.ins) U.ins 0 0=A.length:=by
  have e:rs=A++(r,true)::(B++[(rN,bN)]):=by rw [hlast,hsp];simp
  rw [hmv,hins,e]
  exact loop_at hs hA (by rw [<- e];exact hrl)
 have hrows:(U.ins.take (U.ins.length-1)).map (·.take C.ins.length)=A.map (·.1)++r::B.map (·.1):=by
  have e:(U.ins.take (U.ins.length-1)).map (·.take C.ins.length)=rs'.map (·.1):=by
   have:U.ins.length-1=rs'.length:=by rw [<- hrn,hlast];simp
   rw [this,hins,<- List.map_take,List.map_map,hlast,List.take_left' rfl]
   refine List.map_congr_left fun p hp=>?_
   have:=hrl p (by rw [hlast];exact List.mem_append_left _ hp)
   simp only [Function.comp,lsRow]
   exact List.take_left' this
  rw [e,hsp,List.map_append,List.map_cons]
 have hT:backT C (lassoX C (mustOf C j)) U=⟨st0,A.map (·.1)++r::B.map (·.1),A.length⟩:=by
  unfold backT
  rw [hloop,hrows,<- hst]
 rw [hT]
 have hAl:(A.map (·.1)).length=A.length:=List.length_map _
 have hlen:(A.map (·.1)++r::B.map (·.1)).length=rs'.length:=by rw [hsp];simp
 have hlen2:rs'.length+1=U.ins.length:=by rw [<- hrn,hlast];simp
 have hfs:rs.map (·.1)=(A.map (·.1)++r::B.map (·.1))++[rN]:=by rw [hlast,hsp];simp
 have hcm:=(came_must (C:=C) (j:=j) (A:=A.map (·.1)) (R:=r::B.map (·.1)) (st:=st0) j0 j1).2 hmust
 rw [hAl] at hcm
 have l:Lasso C j ⟨st0,A.map (·.1)++r::B.map (·.1),A.length⟩:=by
  refine ⟨hc,j0,j1,⟨hsl,?_,?_,?_,?_,fun r' hr'=>?_⟩,hini,fun m hm'=>?_,by simp,fun M hM=>?_,?_,?_⟩
  ·simp only [List.length_append,List.length_cons];omega
  ·simp only;rw [hlen];omega
  ·simp only;omega
  ·simp only [List.length_append,List.length_cons,List.length_map];omega
  ·simp only at hr'
   have:r'∈rs.map (·.1):=by rw [hfs];exact List.mem_append_left _ hr'
   obtain ⟨p,hp,rfl⟩:=List.mem_map.1 this
   exact hrl p hp
  ·have:=lsMs_ok.1 hok m
   refine this ?_
   show m∈movs C st0 _
   rw [hfs,movs_app]
   exact List.mem_append_left _ hm'
  ·simp only [Int.toNat_natCast] at hM ⊢
   have:=endS_take hM
   rw [<- hAl,List.take_left] at this
   rw [<- this,endS_app]
   exact hrd
  ·simp only [Int.toNat_natCast];exact hcm.1
  ·simp only [Int.toNat_natCast];exact hcm.2
 rw [of_lasso l]
end
end Go.Proofs.YtdpbdjdgdmheiaaGreat
