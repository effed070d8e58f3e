/- Words and facts that the claim's proof leans on. No condition. -/
import Derived.Test.YtdpbdjdgdmheiaaEC
import Derived.Test.YtdpbdjdgdmheiaaSA
import Derived.Test.YtdpbdjdgdmheiaaSI
import Derived.Test.YtdpbdjdgdmheiaaSL
import Derived.Test.YtdpbdjdgdmheiaaSE
import Derived.Test.YtdpbdjdgdmheiaaCAi
import Derived.Test.YtdpbdjdgdmheiaaEA
set_option linter.unusedVariables false
set_option linter.unusedSimpArgs false
namespace Go.Hx
theorem defG_succ {α:Type} {mx k:Int} {f g:α->Int} (hmx:0≤mx) (K:List Mk->DR) (L:List α) :
  ∀ (l:List α) (i:Nat) (B:List Mk),L.drop i=l->B.length=(mx+1).toNat->(∀ (j:Nat) x,i≤j->L[j]?=some x->2≤f x/\f x % 2=0/\f x≤2*mx/\g x=0/\(B.getD (f x / 2).toNat (0,0)).1=0) ->
   (∀ (j j':Nat) x x',i≤j->j<j'->L[j]?=some x->L[j']?=some x'->f x≠f x') ->
   ∃ B',defG mx k f g l i B K=K B'/\B'.length=B.length/\(∀ j:Nat,(∀ (i':Nat) x,i≤i'->L[i']?=some x->(f x / 2).toNat≠j)->B'[j]?=B[j]?)
 | [],i,B,hd,hl,hx,hne=>⟨B,rfl,rfl,fun j _=>rfl⟩
 | y::r,i,B,hd,hl,hx,hne=>by
  have hi:i<L.length:=by
   refine Decidable.byContradiction fun h=>?_
   rw [List.drop_of_length_le (by omega)] at hd
   cases hd
  have hdc:=List.drop_eq_getElem_cons hi
  rw [hd] at hdc
  obtain ⟨hy,hr⟩:=List.cons.inj hdc
  have hLi:L[i]?=some y:=by rw [List.getElem?_eq_getElem hi,hy]
  obtain ⟨k1,k2,k3,k4,k5⟩:=hx i y (Nat.le_refl _) hLi
  have hm:mk1 mx B (f y)=0:=by
   unfold mk1
   rw [if_neg (by omega),if_pos k5]
  obtain ⟨B',e1,e2,e3⟩:=defG_succ hmx K L r (i+1) (put1 B (f y) k i) hr.symm (by simp [put1,hl]) (fun j x hij hjx=>by
   obtain ⟨m1,m2,m3,m4,m5⟩:=hx j x (by omega) hjx
   refine ⟨m1,m2,m3,m4,?_⟩
   have:=hne i j y x (Nat.le_refl _) (by omega) hLi hjx
   unfold put1
   rw [List.getD_eq_getElem?_getD,List.getElem?_set_ne (by omega),<- List.getD_eq_getElem?_getD]
   exact m5) (fun j j' x x' hij hjj=>hne j j' x x' (by omega) hjj)
  refine ⟨B',?_,by rw [e2];simp [put1],fun j hj=>?_⟩
  ·rw [defG,if_pos hm,if_pos k4]
   exact e1
  ·rw [e3 j fun i' x hi' hx'=>hj i' x (by omega) hx']
   unfold put1
   rw [List.getElem?_set_ne (hj i y (Nat.le_refl _) hLi)]
theorem defG_gF {α:Type} {mx k:Int} {f g:α->Int} {K:List Mk->DR}:∀ {L:List α} {i:Int} {B:List Mk},(defG mx k f g L i B K).2.1=0->(∃ B',(K B').2.1=0)/\∀ x∈L,g x=0
 | [],i,B,h=>⟨⟨B,h⟩,fun x hx=>by cases hx⟩
 | x::r,i,B,h=>by
  rw [defG] at h
  split at h
  ·split at h
   ·rename_i hg
    obtain ⟨h2,h3⟩:=defG_gF h
    refine ⟨h2,fun y hy=>?_⟩
    rcases List.mem_cons.1 hy with rfl | hy
    ·exact hg
    ·exact h3 y hy
   ·rename_i h2;exact absurd h h2
  ·rename_i h1;exact absurd h h1
structure DOk (C:Circ):Prop where
 mx:0≤C.mx
 i:∀ (i:Nat) x,C.ins[i]?=some x->2≤x/\x % 2=0/\x≤2*C.mx
 l:∀ (i:Nat) x,C.lats[i]?=some x->2≤x.a/\x.a % 2=0/\x.a≤2*C.mx/\rst x=0
 g:∀ (i:Nat) x,C.ands[i]?=some x->2≤x.a/\x.a % 2=0/\x.a≤2*C.mx
 ii:∀ (i j:Nat) x y,i<j->C.ins[i]?=some x->C.ins[j]?=some y->x≠y
 ll:∀ (i j:Nat) x y,i<j->C.lats[i]?=some x->C.lats[j]?=some y->x.a≠y.a
 gg:∀ (i j:Nat) x y,i<j->C.ands[i]?=some x->C.ands[j]?=some y->x.a≠y.a
 il:∀ (i j:Nat) x y,C.ins[i]?=some x->C.lats[j]?=some y->x≠y.a
 ig:∀ (i j:Nat) x y,C.ins[i]?=some x->C.ands[j]?=some y->x≠y.a
 lg:∀ (i j:Nat) x y,C.lats[i]?=some x->C.ands[j]?=some y->x.a≠y.a
theorem DOk.defs {C:Circ} (d:DOk C):(defs C).2.1=0:=by
 have hmx:=d.mx
 have rep:∀ j:Nat,((List.replicate (C.mx+1).toNat ((0:Int),(0:Int))).getD j (0,0)).1=0:=fun j=>by
  rw [List.getD_eq_getElem?_getD,List.getElem?_replicate]
  split <;> rfl
 unfold Go.Hx.defs
 obtain ⟨B1,e1,n1,s1⟩:=defG_succ (k:=1) (f:=id) (g:=fun _=>0) hmx (fun B=>defG C.mx 2 L3.a rst C.lats 0 B fun B=>defG C.mx 3 L3.a (fun _=>0) C.ands 0 B fun B=>(0,0,B)) C.ins C.ins 0 (List.replicate (C.mx+1).toNat (0,0)) rfl (by simp)
  (fun j x _ hx=>by obtain ⟨a,b,c⟩:=d.i j x hx;exact ⟨a,b,c,rfl,rep _⟩) (fun j j' x x' _ hjj hx hx'=>d.ii j j' x x' hjj hx hx')
 have f1:∀ y:Int,2≤y->y % 2=0->(∀ (i:Nat) x,C.ins[i]?=some x->x≠y)->(B1.getD (y / 2).toNat (0,0)).1=0:=fun y h2 he hy=>by
  rw [List.getD_eq_getElem?_getD,s1 _ fun i x _ hx=>by have:=hy i x hx;have:=d.i i x hx;simp only [id];omega,<- List.getD_eq_getElem?_getD]
  exact rep _
 obtain ⟨B2,e2,n2,s2⟩:=defG_succ (k:=2) (f:=L3.a) (g:=rst) hmx (fun B=>defG C.mx 3 L3.a (fun _=>0) C.ands 0 B fun B=>(0,0,B)) C.lats C.lats 0 B1 rfl (by rw [n1];simp)
  (fun j x _ hx=>by obtain ⟨a,b,c,e⟩:=d.l j x hx;exact ⟨a,b,c,e,f1 _ a b fun i x' hx'=>d.il i j x' x hx' hx⟩) (fun j j' x x' _ hjj hx hx'=>d.ll j j' x x' hjj hx hx')
 obtain ⟨B3,e3,n3,s3⟩:=defG_succ (k:=3) (f:=L3.a) (g:=fun _=>0) hmx (fun B=>((0:Int),(0:Int),B)) C.ands C.ands 0 B2 rfl (by rw [n2,n1];simp)
  (fun j x _ hx=>by
   obtain ⟨a,b,c⟩:=d.g j x hx
   refine ⟨a,b,c,rfl,?_⟩
   rw [List.getD_eq_getElem?_getD,s2 _ fun i x' _ hx'=>by have:=d.lg i j x' x hx' hx;have:=d.l i x' hx';omega,<- List.getD_eq_getElem?_getD]
   exact f1 _ a b fun i x' hx'=>d.ig i j x' x hx' hx) (fun j j' x x' _ hjj hx hx'=>d.gg j j' x x' hjj hx hx')
 rw [show ((0:Nat):Int)=0 from rfl] at e1 e2 e3
 rw [e1]
 rw [e2,e3]
theorem dok_of {C:Circ} (h:(chk C).2=0):DOk C:=by
 have d:=dn h
 have hd:=(Go.Proofs.Ytdpbdjdgdmheiaa.chk_ok h).2.1
 have hr:∀ x∈C.lats,rst x=0:=by
  unfold Go.Hx.defs at hd
  obtain ⟨⟨B1,h1⟩,_⟩:=defG_gF hd
  exact (defG_gF h1).2
 refine ⟨(gok h).mx0,fun i x hx=>?_,fun i x hx=>?_,fun i x hx=>?_,fun i j x y hij hx hy=>?_,fun i j x y hij hx hy=>?_,fun i j x y hij hx hy=>?_,fun i j x y hx hy=>?_,fun i j x y hx hy=>?_,fun i j x y hx hy=>?_⟩
 ·obtain ⟨a,b,c,_⟩:=d.i i x hx;exact ⟨a,b,c⟩
 ·obtain ⟨a,b,c,_⟩:=d.l i x hx;exact ⟨a,b,c,hr x (List.mem_of_getElem? hx)⟩
 ·obtain ⟨a,b,c,_⟩:=d.g i x hx;exact ⟨a,b,c⟩
 ·intro e;subst e
  have h1:=(d.i i x hx).2.2.2;have h2:=(d.i j x hy).2.2.2
  rw [h1] at h2;simp at h2;omega
 ·intro e
  have h1:=(d.l i x hx).2.2.2;have h2:=(d.l j y hy).2.2.2
  rw [<- e,h1] at h2;simp at h2;omega
 ·intro e
  have h1:=(d.g i x hx).2.2.2;have h2:=(d.g j y hy).2.2.2
  rw [<- e,h1] at h2;simp at h2;omega
 ·intro e
  have h1:=(d.i i x hx).2.2.2;have h2:=(d.l j y hy).2.2.2
  rw [<- e,h1] at h2;simp at h2
 ·intro e
  have h1:=(d.i i x hx).2.2.2;have h2:=(d.g j y hy).2.2.2
  rw [<- e,h1] at h2;simp at h2
 ·intro e
  have h1:=(d.l i x hx).2.2.2;have h2:=(d.g j y hy).2.2.2
  rw [<- e,h1] at h2;simp at h2
end Go.Hx
namespace Go.Proofs.Ytdpbdjdgdmheiaa
open Go.Hx
theorem foldCons_ex:∀ (l:List Int) (C:Circ) (g:Int),∃ G:List L3,(foldCons l C g).1={ C with mx:=C.mx+l.length,ands:=C.ands++G }/\G.length=l.length/\∀ (i:Nat) x,G[i]?=some x->x.a=2*(C.mx+1+i)
 | [],C,g=>⟨[],by simp [foldCons],rfl,fun i x h=>by simp at h⟩
 | y::l,C,g=>by
  obtain ⟨G,h1,h2,h3⟩:=foldCons_ex l (gate1 C g y) (2*(C.mx+1))
  refine ⟨⟨2*(C.mx+1),max g y,min g y⟩::G,?_,by simp [h2],fun i x hx=>?_⟩
  ·rw [foldCons,h1]
   simp only [gate1,Circ.mk.injEq,and_true,true_and,List.length_cons,List.append_assoc,List.cons_append,List.nil_append]
   omega
  ·cases i with
   | zero=>
    simp only [List.getElem?_cons_zero,Option.some.injEq] at hx
    subst hx
    simp
   | succ i=>
    simp only [List.getElem?_cons_succ] at hx
    have:=h3 i x hx
    simp only [gate1] at this
    omega
theorem foldBads_ex (good:Int):∀ (l:List Int) (o:Nat) (C:Circ),o+l.length≤C.bads.length->∃ G:List L3,foldBads good l o C={ C with mx:=C.mx+l.length,ands:=C.ands++G,bads:=C.bads.take o++(List.range l.length).map (fun i=>2*(C.mx+1+(i:Nat)))++C.bads.drop (o+l.length) }/\G.length=l.length /\
  ∀ (i:Nat) x,G[i]?=some x->x.a=2*(C.mx+1+i)
 | [],o,C,_=>⟨[],by simp [foldBads],rfl,fun i x h=>by simp at h⟩
 | y::l,o,C,ho=>by
  simp only [List.length_cons] at ho
  obtain ⟨G,h1,h2,h3⟩:=foldBads_ex good l (o+1) { gate1 C y good with bads:=C.bads.set o (2*(C.mx+1)) } (by simp;omega)
  refine ⟨⟨2*(C.mx+1),max y good,min y good⟩::G,?_,by simp [h2],fun i x hx=>?_⟩
  ·rw [foldBads,h1]
   simp only [gate1,Circ.mk.injEq,and_true,true_and,List.length_cons,List.append_assoc,List.cons_append,List.nil_append]
   refine ⟨by omega,?_⟩
   have t1:(C.bads.set o (2*(C.mx+1))).take (o+1)=C.bads.take o++[2*(C.mx+1)]:=by
    rw [List.take_succ_eq_append_getElem (by simp;omega),List.getElem_set_self,List.take_set_of_le (Nat.le_refl _)]
   have t2:(C.bads.set o (2*(C.mx+1))).drop (o+1+l.length)=C.bads.drop (o+(l.length+1)):=by
    rw [List.drop_set_of_lt (by omega)]
    congr 1
    omega
   rw [t1,t2,List.range_succ_eq_map,List.map_cons,List.map_map,List.append_assoc]
   congr 1
   simp only [List.cons_append,List.nil_append,Int.natCast_zero,Int.add_zero,List.cons.injEq,true_and]
   congr 1
   refine List.map_congr_left fun i _=>?_
   simp only [Function.comp]
   omega
  ·cases i with
   | zero=>
    simp only [List.getElem?_cons_zero,Option.some.injEq] at hx
    subst hx
    simp
   | succ i=>
    simp only [List.getElem?_cons_succ] at hx
    have:=h3 i x hx
    simp only [gate1] at this
    omega
theorem foldC_ex (C:Circ):∃ (G:List L3) (good:Int),foldC C={ C with mx:=C.mx+1+C.cons.length+C.bads.length,ands:=C.ands++G,bads:=(List.range C.bads.length).map (fun i=>2*(C.mx+1+C.cons.length+1+(i:Nat))),lats:=C.lats++[⟨2*(C.mx+1),good,1⟩],fair:=C.fair++[good],cons:=[],syms:=C.syms.filter fun s=>decide (s.k≠99) } /\
  G.length=C.cons.length+C.bads.length/\∀ (i:Nat) x,G[i]?=some x->x.a=2*(C.mx+2+i):=by
 obtain ⟨G1,a1,a2,a3⟩:=foldCons_ex C.cons { C with mx:=C.mx+1 } (2*(C.mx+1))
 obtain ⟨g,hg⟩:∃ g,g=(foldCons C.cons { C with mx:=C.mx+1 } (2*(C.mx+1))).2:=⟨_,rfl⟩
 obtain ⟨G2,b1,b2,b3⟩:=foldBads_ex g C.bads 0 (foldCons C.cons { C with mx:=C.mx+1 } (2*(C.mx+1))).1 (by rw [a1];simp)
 refine ⟨G1++G2,g,?_,by simp [a2,b2],fun i x hx=>?_⟩
 ·unfold foldC
  simp only
  rw [<- hg,b1,a1]
  simp only [Circ.mk.injEq,List.append_assoc,and_true,true_and,List.take_zero,List.nil_append,Nat.zero_add,List.drop_length,List.append_nil]
 ·rcases Nat.lt_or_ge i G1.length with h | h
  ·rw [List.getElem?_append_left h] at hx
   have:=a3 i x hx
   simp only at this
   omega
  ·rw [List.getElem?_append_right h] at hx
   have:=b3 _ x hx
   rw [a1] at this
   simp only at this
   omega
theorem dok_fold {C:Circ} (h:(chk C).2=0):DOk (foldC C):=by
 have d:=dok_of h
 obtain ⟨G,good,hF,hG,hGa⟩:=foldC_ex C
 have hmx:=d.mx
 have lat:∀ (i:Nat) x,(C.lats++[(⟨2*(C.mx+1),good,1⟩:L3)])[i]?=some x->C.lats[i]?=some x∨(i=C.lats.length/\x=⟨2*(C.mx+1),good,1⟩):=fun i x hx=>by
  rcases Nat.lt_or_ge i C.lats.length with h | h
  ·rw [List.getElem?_append_left h] at hx;exact .inl hx
  ·rw [List.getElem?_append_right h] at hx
   have:=(List.getElem?_eq_some_iff.1 hx).1
   simp at this
   have hi:i=C.lats.length:=by omega
   subst hi
   simp at hx
   exact .inr ⟨rfl,hx.symm⟩
 have and':∀ (i:Nat) x,(C.ands++G)[i]?=some x->C.ands[i]?=some x∨(C.ands.length≤i/\i-C.ands.length<G.length/\x.a=2*(C.mx+2+((i-C.ands.length:Nat):Int))):=fun i x hx=>by
  rcases Nat.lt_or_ge i C.ands.length with h | h
  ·rw [List.getElem?_append_left h] at hx;exact .inl hx
  ·rw [List.getElem?_append_right h] at hx
   exact .inr ⟨h,(List.getElem?_eq_some_iff.1 hx).1,hGa _ x hx⟩
 rw [hF]
 refine ⟨by simp only;omega,fun i x hx=>?_,fun i x hx=>?_,fun i x hx=>?_,d.ii,fun i j x y hij hx hy=>?_,fun i j x y hij hx hy=>?_,fun i j x y hx hy=>?_,fun i j x y hx hy=>?_,fun i j x y hx hy=>?_⟩
 ·have:=d.i i x hx;simp only at this ⊢;omega
 ·rcases lat i x hx with hx | ⟨_,rfl⟩
  ·obtain ⟨a,b,c,e⟩:=d.l i x hx;simp only;exact ⟨a,b,by omega,e⟩
  ·simp only;exact ⟨by omega,by omega,by omega,by unfold rst;simp⟩
 ·rcases and' i x hx with hx | ⟨h1,h2,h3⟩
  ·have:=d.g i x hx;simp only at this ⊢;omega
  ·simp only;omega
 ·rcases lat i x hx with hx' | ⟨hi,rfl⟩
  ·rcases lat j y hy with hy' | ⟨_,rfl⟩
   ·exact d.ll i j x y hij hx' hy'
   ·have:=d.l i x hx';simp only;omega
  ·have:=(List.getElem?_eq_some_iff.1 hy).1
   simp at this
   omega
 ·rcases and' i x hx with hx' | ⟨h1,h2,h3⟩
  ·rcases and' j y hy with hy' | ⟨k1,k2,k3⟩
   ·exact d.gg i j x y hij hx' hy'
   ·have:=d.g i x hx';omega
  ·rcases and' j y hy with hy' | ⟨k1,k2,k3⟩
   ·have:=(List.getElem?_eq_some_iff.1 hy').1;omega
   ·omega
 ·have a:=d.i i x hx
  rcases lat j y hy with hy' | ⟨_,rfl⟩
  ·exact d.il i j x y hx hy'
  ·simp only;omega
 ·have a:=d.i i x hx
  rcases and' j y hy with hy' | ⟨k1,k2,k3⟩
  ·exact d.ig i j x y hx hy'
  ·omega
 ·rcases lat i x hx with hx' | ⟨_,rfl⟩
  ·rcases and' j y hy with hy' | ⟨k1,k2,k3⟩
   ·exact d.lg i j x y hx' hy'
   ·have:=d.l i x hx';omega
  ·rcases and' j y hy with hy' | ⟨k1,k2,k3⟩
   ·have:=d.g j y hy';simp only;omega
   ·simp only;omega
end Go.Proofs.Ytdpbdjdgdmheiaa
namespace Go.Proofs.Ytdpbdjdgdmheiaa
open Go.Hx
theorem foldCons_all:∀ (l:List Int) (C:Circ),∃ G:List L3,foldCons l C (2*C.mx)=({ C with mx:=C.mx+l.length,ands:=C.ands++G },2*(C.mx+l.length))/\G.length=l.length /\
  ∀ (i:Nat) x,G[i]?=some x->∃ y,l[i]?=some y/\x=⟨2*(C.mx+1+i),max (2*(C.mx+i)) y,min (2*(C.mx+i)) y⟩
 | [],C=>⟨[],by simp [foldCons],rfl,fun i x h=>by simp at h⟩
 | y::l,C=>by
  obtain ⟨G,h1,h2,h3⟩:=foldCons_all l (gate1 C (2*C.mx) y)
  refine ⟨⟨2*(C.mx+1),max (2*C.mx) y,min (2*C.mx) y⟩::G,?_,by simp [h2],fun i x hx=>?_⟩
  ·have e:(gate1 C (2*C.mx) y).mx=C.mx+1:=rfl
   rw [e] at h1
   rw [foldCons,h1]
   simp only [gate1,Prod.mk.injEq,Circ.mk.injEq,and_true,true_and,List.length_cons,List.append_assoc,List.cons_append,List.nil_append]
   exact ⟨by omega,by omega⟩
  ·cases i with
   | zero=>
    simp only [List.getElem?_cons_zero,Option.some.injEq] at hx
    subst hx
    exact ⟨y,rfl,by simp⟩
   | succ i=>
    simp only [List.getElem?_cons_succ] at hx
    obtain ⟨z,hz,he⟩:=h3 i x hx
    refine ⟨z,by simpa using hz,?_⟩
    rw [he]
    simp only [gate1]
    rw [show C.mx+1+(i:Int)=C.mx+((i+1:Nat):Int) by omega,show C.mx+1+1+(i:Int)=C.mx+1+((i+1:Nat):Int) by omega]
theorem foldBads_all (good:Int):∀ (l:List Int) (o:Nat) (C:Circ),o+l.length≤C.bads.length->∃ G:List L3,foldBads good l o C={ C with mx:=C.mx+l.length,ands:=C.ands++G,bads:=C.bads.take o++(List.range l.length).map (fun i=>2*(C.mx+1+(i:Nat)))++C.bads.drop (o+l.length) }/\G.length=l.length /\
  ∀ (i:Nat) x,G[i]?=some x->∃ y,l[i]?=some y/\x=⟨2*(C.mx+1+i),max y good,min y good⟩
 | [],o,C,_=>⟨[],by simp [foldBads],rfl,fun i x h=>by simp at h⟩
 | y::l,o,C,ho=>by
  simp only [List.length_cons] at ho
  obtain ⟨G,h1,h2,h3⟩:=foldBads_all good l (o+1) { gate1 C y good with bads:=C.bads.set o (2*(C.mx+1)) } (by simp;omega)
  refine ⟨⟨2*(C.mx+1),max y good,min y good⟩::G,?_,by simp [h2],fun i x hx=>?_⟩
  ·rw [foldBads,h1]
   simp only [gate1,Circ.mk.injEq,and_true,true_and,List.length_cons,List.append_assoc,List.cons_append,List.nil_append]
   refine ⟨by omega,?_⟩
   have t1:(C.bads.set o (2*(C.mx+1))).take (o+1)=C.bads.take o++[2*(C.mx+1)]:=by
    rw [List.take_succ_eq_append_getElem (by simp;omega),List.getElem_set_self,List.take_set_of_le (Nat.le_refl _)]
   have t2:(C.bads.set o (2*(C.mx+1))).drop (o+1+l.length)=C.bads.drop (o+(l.length+1)):=by
    rw [List.drop_set_of_lt (by omega)]
    congr 1
    omega
   rw [t1,t2,List.range_succ_eq_map,List.map_cons,List.map_map,List.append_assoc]
   congr 1
   simp only [List.cons_append,List.nil_append,Int.natCast_zero,Int.add_zero,List.cons.injEq,true_and]
   congr 1
   refine List.map_congr_left fun i _=>?_
   simp only [Function.comp]
   omega
  ·cases i with
   | zero=>
    simp only [List.getElem?_cons_zero,Option.some.injEq] at hx
    subst hx
    exact ⟨y,rfl,by simp⟩
   | succ i=>
    simp only [List.getElem?_cons_succ] at hx
    obtain ⟨z,hz,he⟩:=h3 i x hx
    refine ⟨z,by simpa using hz,?_⟩
    rw [he]
    simp only [gate1]
    rw [show C.mx+1+1+(i:Int)=C.mx+1+((i+1:Nat):Int) by omega]
structure FoldIs (C F:Circ) (G:List L3):Prop where
 eq:F={ C with mx:=C.mx+1+C.cons.length+C.bads.length,ands:=C.ands++G,bads:=(List.range C.bads.length).map (fun i=>2*(C.mx+1+C.cons.length+1+(i:Nat))),lats:=C.lats++[⟨2*(C.mx+1),2*(C.mx+1+C.cons.length),1⟩],fair:=C.fair++[2*(C.mx+1+C.cons.length)],cons:=[],syms:=C.syms.filter fun s=>decide (s.k≠99) }
 len:G.length=C.cons.length+C.bads.length
 con:∀ (i:Nat) x,C.cons[i]?=some x->G[i]?=some ⟨2*(C.mx+2+i),max (2*(C.mx+1+i)) x,min (2*(C.mx+1+i)) x⟩
 bad:∀ (i:Nat) x,C.bads[i]?=some x->G[C.cons.length+i]?=some ⟨2*(C.mx+2+C.cons.length+i),max x (2*(C.mx+1+C.cons.length)),min x (2*(C.mx+1+C.cons.length))⟩
theorem foldC_is (C:Circ):∃ G,FoldIs C (foldC C) G:=by
 obtain ⟨G1,a1,a2,a3⟩:=foldCons_all C.cons { C with mx:=C.mx+1 }
 obtain ⟨G2,b1,b2,b3⟩:=foldBads_all (2*(C.mx+1+C.cons.length)) C.bads 0 { C with mx:=C.mx+1+C.cons.length,ands:=C.ands++G1 } (by simp)
 simp only at a1 b1
 refine ⟨G1++G2,?_,by simp [a2,b2],fun i x hx=>?_,fun i x hx=>?_⟩
 ·unfold foldC
  simp only
  rw [a1]
  simp only
  rw [b1]
  simp only [Circ.mk.injEq,List.append_assoc,and_true,true_and,List.take_zero,List.nil_append,Nat.zero_add,List.drop_length,List.append_nil]
 ·have hi:=(List.getElem?_eq_some_iff.1 hx).1
  rw [List.getElem?_append_left (by omega)]
  have hg:=List.getElem?_eq_getElem (l:=G1) (i:=i) (by omega)
  obtain ⟨y,hy,he⟩:=a3 i _ hg
  rw [hx] at hy
  obtain rfl:=Option.some.inj hy
  rw [hg,he]
  simp only [Option.some.injEq,L3.mk.injEq,and_true]
  omega
 ·have hi:=(List.getElem?_eq_some_iff.1 hx).1
  rw [List.getElem?_append_right (by omega),a2,Nat.add_sub_cancel_left]
  have hg:=List.getElem?_eq_getElem (l:=G2) (i:=i) (by omega)
  obtain ⟨y,hy,he⟩:=b3 i _ hg
  rw [hx] at hy
  obtain rfl:=Option.some.inj hy
  rw [hg,he]
  simp only [Option.some.injEq,L3.mk.injEq,and_true]
  omega
end Go.Proofs.Ytdpbdjdgdmheiaa
namespace Go.Proofs.Ytdpbdjdgdmheiaa
open Go.Hx
theorem us1_zero {mx:Int} {B:List Mk} {l:Int}:us1 mx B l=0↔(0≤l/\l≤2*mx+1)/\(1<l->(B.getD (l / 2).toNat (0,0)).1≠0):=by
 unfold us1
 split
 ·rename_i h
  exact iff_of_false (by omega) fun hh=>by omega
 ·rename_i h
  split
  ·rename_i h2
   exact iff_of_false (by omega) fun hh=>hh.2 h2.1 h2.2
  ·rename_i h2
   exact iff_of_true rfl ⟨by omega,fun h3 h4=>h2 ⟨h3,h4⟩⟩
theorem firstE_all {α:Type} {f:α->Int}:∀ {l:List α} {i:Int} {z:Int×Int},(∀ x∈l,f x=0)->firstE f l i z=z
 | [],_,_,_=>rfl
 | x::r,i,z,h=>by
  rw [firstE,if_pos (h x (List.mem_cons_self ..))]
  exact firstE_all fun y hy=>h y (List.mem_cons_of_mem _ hy)
theorem usL_all {mx:Int} {B:List Mk} {l:List Int} (h:∀ x∈l,us1 mx B x=0):usL mx B l=0:=by
 unfold usL
 rw [firstE_all h]
section
variable {C F:Circ} {G:List L3} {BC BF:List Mk}
theorem getD_mk {B:List Mk} {j:Nat} {p:Mk} (h:B[j]?=some p):B.getD j (0,0)=p:=by rw [List.getD_eq_getElem?_getD,h];rfl
theorem us1_old (f:FoldIs C F G) (dC:Dn C BC) (dF:Dn F BF) {l:Int} (h:us1 C.mx BC l=0):us1 F.mx BF l=0:=by
 rw [us1_zero] at h ⊢
 obtain ⟨⟨h1,h2⟩,h3⟩:=h
 have hmx:F.mx=C.mx+1+C.cons.length+C.bads.length:=by rw [f.eq]
 refine ⟨⟨h1,by omega⟩,fun hl=>?_⟩
 have hj:(l / 2).toNat<BC.length:=by rw [dC.len];omega
 have hp:=List.getElem?_eq_getElem hj
 have h4:=h3 hl
 rw [getD_mk hp] at h4
 rcases dC.b _ _ hp with hz | ⟨a,b,x,hx,e⟩ | ⟨a,b,x,hx,e⟩ | ⟨a,b,x,hx,e⟩
 ·rw [hz] at h4;exact absurd rfl h4
 ·have:=(dF.i _ x (by rw [f.eq];exact hx)).2.2.2
  rw [e] at this
  rw [getD_mk this];simp
 ·have:=(dF.l _ x (by rw [f.eq];simp only;rw [List.getElem?_append_left (List.getElem?_eq_some_iff.1 hx).1];exact hx)).2.2.2
  rw [e] at this
  rw [getD_mk this];simp
 ·have:=(dF.g _ x (by rw [f.eq];simp only;rw [List.getElem?_append_left (List.getElem?_eq_some_iff.1 hx).1];exact hx)).2.2.2
  rw [e] at this
  rw [getD_mk this];simp
theorem FoldIs.out (f:FoldIs C F G) {i:Nat} (hi:i<C.cons.length+C.bads.length):∃ x,G[i]?=some x/\x.a=2*(C.mx+2+i):=by
 rcases Nat.lt_or_ge i C.cons.length with h | h
 ·exact ⟨_,f.con i _ (List.getElem?_eq_getElem h),rfl⟩
 ·have:=f.bad (i-C.cons.length) _ (List.getElem?_eq_getElem (by omega))
  rw [show C.cons.length+(i-C.cons.length)=i by omega] at this
  exact ⟨_,this,by simp only;omega⟩
theorem us1_new (f:FoldIs C F G) (hm:0≤C.mx) (dF:Dn F BF) {k:Nat} (hk:k≤C.cons.length+C.bads.length):us1 F.mx BF (2*(C.mx+1+k))=0:=by
 rw [us1_zero]
 have hmx:F.mx=C.mx+1+C.cons.length+C.bads.length:=by rw [f.eq]
 refine ⟨by omega,fun _=>?_⟩
 cases k with
 | zero=>
  have:=(dF.l C.lats.length ⟨2*(C.mx+1),2*(C.mx+1+C.cons.length),1⟩ (by rw [f.eq];simp)).2.2.2
  simp only at this
  rw [show 2*(C.mx+1+((0:Nat):Int))=2*(C.mx+1) by omega,getD_mk this];simp
 | succ k=>
  obtain ⟨x,hx,hxa⟩:=f.out (i:=k) (by omega)
  have:=(dF.g (C.ands.length+k) x (by rw [f.eq];simp only;rw [List.getElem?_append_right (by omega),Nat.add_sub_cancel_left];exact hx)).2.2.2
  rw [hxa] at this
  rw [show 2*(C.mx+1+((k+1:Nat):Int))=2*(C.mx+2+(k:Int)) by omega,getD_mk this];simp
theorem uses_fold (f:FoldIs C F G) (hm:0≤C.mx) (dC:Dn C BC) (dF:Dn F BF) (h:(uses C BC).2=0):(uses F BF).2=0:=by
 unfold uses at h
 obtain ⟨h1,h⟩:=firstE_ok h
 obtain ⟨h2,h⟩:=firstE_ok h
 obtain ⟨h3,h⟩:=firstE_ok h
 obtain ⟨h4,h⟩:=firstE_ok h
 obtain ⟨h5,h⟩:=firstE_ok h
 obtain ⟨h6,h⟩:=firstE_ok h
 obtain ⟨h7,h⟩:=firstE_ok h
 have old:∀ {l:Int},us1 C.mx BC l=0->us1 F.mx BF l=0:=fun hl=>us1_old f dC dF hl
 have new:∀ {k:Nat},k≤C.cons.length+C.bads.length->us1 F.mx BF (2*(C.mx+1+k))=0:=fun hk=>us1_new f hm dF hk
 have mxn:∀ {x y:Int},us1 F.mx BF x=0->us1 F.mx BF y=0->us1 F.mx BF (max x y)=0/\us1 F.mx BF (min x y)=0:=fun {x y} hx hy=>by
  constructor
  ·rcases Int.le_total x y with h | h
   ·rw [Int.max_eq_right h];exact hy
   ·rw [Int.max_eq_left h];exact hx
  ·rcases Int.le_total x y with h | h
   ·rw [Int.min_eq_left h];exact hx
   ·rw [Int.min_eq_right h];exact hy
 unfold uses
 rw [firstE_all (l:=F.lats),firstE_all (l:=F.outs),firstE_all (l:=F.bads),firstE_all (l:=F.cons),firstE_all (l:=F.just),firstE_all (l:=F.fair),firstE_all (l:=F.ands)]
 ·intro x hx
  obtain ⟨i,hxi⟩:=List.mem_iff_getElem?.1 hx
  have two:us1 F.mx BF x.b=0/\us1 F.mx BF x.c=0:=by
   have hF:F.ands=C.ands++G:=by rw [f.eq]
   rw [hF] at hxi
   rcases Nat.lt_or_ge i C.ands.length with hl | hl
   ·rw [List.getElem?_append_left hl] at hxi
    have t:=(firstE_ok (h7 _ (List.mem_of_getElem? hxi))).1
    exact ⟨old (t _ (List.mem_cons_self ..)),old (t _ (List.mem_cons_of_mem _ (List.mem_cons_self ..)))⟩
   ·rw [List.getElem?_append_right hl] at hxi
    have hgl:=(List.getElem?_eq_some_iff.1 hxi).1
    have hlen:=f.len
    rcases Nat.lt_or_ge (i-C.ands.length) C.cons.length with hc | hc
    ·have:=f.con _ _ (List.getElem?_eq_getElem hc)
     rw [hxi] at this
     rw [Option.some.inj this]
     exact mxn (new (by omega)) (old (h4 _ (List.getElem_mem hc)))
    ·have hbl:i-C.ands.length-C.cons.length<C.bads.length:=by omega
     have:=f.bad _ _ (List.getElem?_eq_getElem hbl)
     rw [show C.cons.length+(i-C.ands.length-C.cons.length)=i-C.ands.length by omega,hxi] at this
     rw [Option.some.inj this]
     exact mxn (old (h3 _ (List.getElem_mem hbl))) (new (by omega))
  exact usL_all fun l hl=>by
   simp only [List.mem_cons,List.not_mem_nil,or_false] at hl
   rcases hl with rfl | rfl
   ·exact two.1
   ·exact two.2
 ·intro x hx
  rw [f.eq] at hx
  rcases List.mem_append.1 hx with hx | hx
  ·exact old (h6 x hx)
  ·rw [List.mem_singleton] at hx;subst hx;exact new (by omega)
 ·intro x hx
  rw [f.eq] at hx
  exact usL_all fun l hl=>old ((firstE_ok (h5 x hx)).1 l hl)
 ·intro x hx
  rw [f.eq] at hx
  cases hx
 ·intro x hx
  rw [f.eq] at hx
  obtain ⟨i,hi,rfl⟩:=List.mem_map.1 hx
  rw [List.mem_range] at hi
  have:=new (k:=C.cons.length+1+i) (by omega)
  rw [show C.mx+1+((C.cons.length+1+i:Nat):Int)=C.mx+1+C.cons.length+1+(i:Nat) by omega] at this
  exact this
 ·intro x hx
  rw [f.eq] at hx
  exact old (h2 x hx)
 ·intro x hx
  rw [f.eq] at hx
  rcases List.mem_append.1 hx with hx | hx
  ·exact old (h1 x hx)
  ·rw [List.mem_singleton] at hx;subst hx;exact new (by omega)
end
end Go.Proofs.Ytdpbdjdgdmheiaa
namespace Go.Proofs.Ytdpbdjdgdmheiaa
open Go.Hx
section
variable {C F:Circ} {G:List L3} {BC BF:List Mk}
theorem gate_def {B:List Mk} (d:Dn C B) {l:Int} {y:Nat} (hy:y∈gateOf B l):∃ x,C.ands[y]?=some x/\(x.a / 2).toNat=(l / 2).toNat:=by
 unfold gateOf at hy
 split at hy
 ·rename_i h3
  rw [List.mem_singleton] at hy
  rcases Nat.lt_or_ge (l / 2).toNat B.length with h | h
  ·have hp:=List.getElem?_eq_getElem h
   rw [getD_mk hp] at h3 hy
   rcases d.b _ _ hp with hz | ⟨a,_⟩ | ⟨a,_⟩ | ⟨a,b,x,hx,e⟩
   ·rw [hz] at h3;simp at h3
   ·omega
   ·omega
   ·subst hy;exact ⟨x,hx,e⟩
  ·rw [List.getD_eq_getElem?_getD,List.getElem?_eq_none h] at h3
   simp at h3
 ·cases hy
theorem out_new (f:FoldIs C F G) {i:Nat} {x:L3} (hx:G[i]?=some x):x.a=2*(C.mx+2+i)/\i<C.cons.length+C.bads.length:=by
 have hi:=(List.getElem?_eq_some_iff.1 hx).1
 have:=f.len
 obtain ⟨x',h1,h2⟩:=f.out (i:=i) (by omega)
 rw [hx] at h1
 obtain rfl:=Option.some.inj h1
 exact ⟨h2,by omega⟩
theorem lead (f:FoldIs C F G) (dC:Dn C BC) (dF:Dn F BF) {l:Int} (h0:0≤l) {y:Nat} (hy:y∈gateOf BF l) :
  (l≤2*C.mx+1->y<C.ands.length/\y∈gateOf BC l)/\∀ k:Nat,l=2*(C.mx+1+k)->y<C.ands.length+k:=by
 obtain ⟨x,hx,e⟩:=gate_def dF hy
 have hF:F.ands=C.ands++G:=by rw [f.eq]
 rw [hF] at hx
 rcases Nat.lt_or_ge y C.ands.length with h | h
 ·rw [List.getElem?_append_left h] at hx
  obtain ⟨a,b,c,dd⟩:=dC.g _ x hx
  refine ⟨fun _=>⟨h,?_⟩,fun k _=>by omega⟩
  rw [e] at dd
  have:=mem_gate dd rfl
  simpa using this
 ·rw [List.getElem?_append_right h] at hx
  obtain ⟨ha,_⟩:=out_new f hx
  exact ⟨fun hl=>by omega,fun k hk=>by omega⟩
theorem cyc_fold (f:FoldIs C F G) (hm:0≤C.mx) (dC:Dn C BC) (dF:Dn F BF) (hl:∀ x∈C.ands,(0≤x.b/\x.b≤2*C.mx+1)/\0≤x.c/\x.c≤2*C.mx+1) (hc:∀ x∈C.cons,0≤x/\x≤2*C.mx+1) (hb:∀ x∈C.bads,0≤x/\x≤2*C.mx+1) (h:cyc C BC=none):cyc F BF=none:=by
 have hF:F.ands=C.ands++G:=by rw [f.eq]
 have hno:∀ i,i<C.ands.length->¬ Rnd C BC i:=fun i hi hr=>by
  unfold cyc at h
  rw [List.find?_eq_none] at h
  exact h i (List.mem_range.2 hi) (@decide_eq_true _ (_) hr)
 have step:∀ i y,y∈bel F BF i->(i<C.ands.length->y<C.ands.length/\y∈bel C BC i)/\(C.ands.length≤i->y<i):=fun i y hy=>by
  unfold bel at hy
  rw [hF] at hy
  constructor
  ·intro hi
   rw [List.getElem?_append_left hi] at hy
   have hx:=List.getElem?_eq_getElem hi
   rw [hx] at hy
   simp only at hy
   have hlx:=hl _ (List.getElem_mem hi)
   unfold bel
   rw [hx]
   simp only
   rcases List.mem_append.1 hy with hy | hy
   ·have:=(lead f dC dF hlx.1.1 hy).1 hlx.1.2
    exact ⟨this.1,List.mem_append_left _ this.2⟩
   ·have:=(lead f dC dF hlx.2.1 hy).1 hlx.2.2
    exact ⟨this.1,List.mem_append_right _ this.2⟩
  ·intro hi
   rw [List.getElem?_append_right hi] at hy
   cases hg:G[i-C.ands.length]? with
   | none=>rw [hg] at hy;cases hy
   | some x=>
    rw [hg] at hy
    simp only at hy
    obtain ⟨_,hk⟩:=out_new f hg
    have two:∃ (o:Int) (k:Nat),(0≤o/\o≤2*C.mx+1)/\k≤i-C.ands.length/\((x.b=o∨x.b=2*(C.mx+1+k))/\(x.c=o∨x.c=2*(C.mx+1+k))):=by
     have mm:∀ p q:Int,(max p q=p∨max p q=q)/\(min p q=p∨min p q=q):=fun p q=>by omega
     rcases Nat.lt_or_ge (i-C.ands.length) C.cons.length with h1 | h1
     ·have:=f.con _ _ (List.getElem?_eq_getElem h1)
      rw [hg] at this
      have e:=Option.some.inj this
      refine ⟨C.cons[i-C.ands.length],i-C.ands.length,hc _ (List.getElem_mem h1),Nat.le_refl _,?_⟩
      rw [e]
      have:=mm (2*(C.mx+1+((i-C.ands.length:Nat):Int))) C.cons[i-C.ands.length]
      exact ⟨this.1.symm,this.2.symm⟩
     ·have h2:i-C.ands.length-C.cons.length<C.bads.length:=by omega
      have:=f.bad _ _ (List.getElem?_eq_getElem h2)
      rw [show C.cons.length+(i-C.ands.length-C.cons.length)=i-C.ands.length by omega,hg] at this
      have e:=Option.some.inj this
      refine ⟨C.bads[i-C.ands.length-C.cons.length],C.cons.length,hb _ (List.getElem_mem h2),h1,?_⟩
      rw [e]
      exact mm C.bads[i-C.ands.length-C.cons.length] (2*(C.mx+1+(C.cons.length:Int)))
    obtain ⟨o,k,ho,hki,hbx,hcx⟩:=two
    have one:∀ l,(l=o∨l=2*(C.mx+1+k))->y∈gateOf BF l->y<i:=fun l hl hy=>by
     rcases hl with rfl | rfl
     ·have:=(lead f dC dF ho.1 hy).1 ho.2;omega
     ·have:=(lead f dC dF (by omega) hy).2 k rfl;omega
    rcases List.mem_append.1 hy with hy | hy
    ·exact one _ hbx hy
    ·exact one _ hcx hy
 have key:∀ a b,Relation.TransGen (fun a b=>b∈bel F BF a) a b->(a<C.ands.length->b<C.ands.length/\Relation.TransGen (fun a b=>b∈bel C BC a) a b)/\(C.ands.length≤a->b<a):=by
  intro a b hab
  induction hab with
  | single h1=>
   have:=step _ _ h1
   exact ⟨fun ha=>⟨(this.1 ha).1,.single (this.1 ha).2⟩,this.2⟩
  | tail _ h2 ih=>
   have:=step _ _ h2
   refine ⟨fun ha=>?_,fun ha=>?_⟩
   ·obtain ⟨g1,g2⟩:=ih.1 ha
    exact ⟨(this.1 g1).1,.tail g2 (this.1 g1).2⟩
   ·have g:=ih.2 ha
    rename_i b' c' _
    rcases Nat.lt_or_ge b' C.ands.length with h | h
    ·have:=(this.1 h).1;omega
    ·have:=this.2 h;omega
 refine cyc_none fun j hj hr=>?_
 have:=key j j hr
 rcases Nat.lt_or_ge j C.ands.length with h | h
 ·exact hno j h (this.1 h).2
 ·have:=this.2 h;omega
theorem many_fold (f:FoldIs C F G) {k:Int} (hk:k≠99):many C k≤many F k:=by
 unfold many
 rw [f.eq]
 simp only [List.length_append,List.length_map,List.length_range,List.length_cons,List.length_nil]
 repeat' split
 all_goals omega
theorem symF_fold (f:FoldIs C F G):∀ (l pre:List Sy) (i i':Nat),symF C pre l i=none->symF F (pre.filter fun s=>decide (s.k≠99)) (l.filter fun s=>decide (s.k≠99)) i'=none
 | [],pre,i,i',_=>rfl
 | s::r,pre,i,i',h=>by
  rw [symF] at h
  split at h
  ·simp at h
  ·rename_i hs
   have ih:=symF_fold f r (pre++[s]) (i+1)
   rw [List.filter_cons]
   by_cases hk:s.k≠99
   ·rw [if_pos (by simpa using hk),symF,if_neg]
    ·have:=ih (i'+1) h
     rw [List.filter_append,List.filter_cons,if_pos (by simpa using hk),List.filter_nil] at this
     exact this
    ·intro hb
     apply hs
     unfold SymBad at hb ⊢
     rcases hb with hb | hb | hb | hb | ⟨p,hp,e⟩ | hb
     ·exact .inl hb
     ·exact .inr (.inl (Int.le_trans (many_fold f hk) hb))
     ·exact .inr (.inr (.inl hb))
     ·exact .inr (.inr (.inr (.inl hb)))
     ·exact .inr (.inr (.inr (.inr (.inl ⟨p,(List.mem_filter.1 hp).1,e⟩))))
     ·exact .inr (.inr (.inr (.inr (.inr hb))))
   ·rw [if_neg (by simpa using hk)]
    have:=ih i' h
    rw [List.filter_append,List.filter_cons,if_neg (by simpa using hk),List.filter_nil,List.append_nil] at this
    exact this
end
theorem good_litsF {C:Circ} (h:(chk C).2=0):(∀ x∈C.lats,0≤x.b/\x.b≤2*C.mx+1)/\(∀ x∈C.outs,0≤x/\x≤2*C.mx+1)/\(∀ x∈C.bads,0≤x/\x≤2*C.mx+1)/\(∀ x∈C.cons,0≤x/\x≤2*C.mx+1)/\True:=by
 have hu:=(chk_ok h).2.2.1
 unfold uses at hu
 obtain ⟨h1,hu⟩:=firstE_ok hu
 obtain ⟨h2,hu⟩:=firstE_ok hu
 obtain ⟨h3,hu⟩:=firstE_ok hu
 obtain ⟨h4,hu⟩:=firstE_ok hu
 exact ⟨fun x hx=>us1_ok (h1 x hx),fun x hx=>us1_ok (h2 x hx),fun x hx=>us1_ok (h3 x hx),fun x hx=>us1_ok (h4 x hx),trivial⟩
theorem chk_fold {C:Circ} (h:(chk C).2=0) (hl:¬ FLong C):chk (foldC C)=(0,0):=by
 obtain ⟨G,f⟩:=foldC_is C
 obtain ⟨c1,c2,c10003,c10004,c10005,c10006⟩:=chk_ok h
 have b:=chk_bounds h
 have hD:=(dok_fold h).defs
 have dF:=dn_of (dok_fold h).mx hD
 have dC:=dn h
 obtain ⟨_,_,l3,l4,_⟩:=good_litsF h
 have fl:¬ (16384<C.mx+1+(C.cons.length+C.bads.length)∨16384≤C.lats.length∨16384≤C.fair.length∨16384<C.ands.length+(C.cons.length+C.bads.length)):=hl
 have hsf:=List.length_filter_le (fun s:Sy=>decide (s.k≠99)) C.syms
 have hG:=f.len
 have s0:sizeE (foldC C)=0:=by
  apply sizeE_ok
  ·rw [f.eq];simp only;omega
  ·unfold Big
   rw [f.eq]
   simp only [List.length_append,List.length_map,List.length_range,List.length_cons,List.length_nil]
   omega
 have s3:=uses_fold f b.1.1 dC dF c10003
 have s4:=cyc_fold f b.1.1 dC dF (gok h).lits l4 l3 c10004
 have s5:syF (foldC C)=none:=by
  have:=symF_fold f C.syms [] 0 0 c10005
  unfold syF
  have e:(foldC C).syms=C.syms.filter fun s=>decide (s.k≠99):=by rw [f.eq]
  rw [e]
  exact this
 have s6:comF (foldC C)=none:=by
  have e:(foldC C).coms=C.coms:=by rw [f.eq]
  unfold comF at c10006 ⊢
  rw [e]
  exact c10006
 unfold chk
 rw [if_neg (by rw [s0];simp),if_neg (by rw [hD];simp),if_neg (by rw [s3];simp),s4,s5,s6]
end Go.Proofs.Ytdpbdjdgdmheiaa
namespace Go.Hx
theorem nodup_sub:∀ (a b:List Nat),a.Nodup->(∀ x∈a,x∈b)->a.length≤b.length
 | [],b,_,_=>Nat.zero_le _
 | x::a,b,hn,h=>by
  have hx:=h x (List.mem_cons_self ..)
  have hn2:=List.nodup_cons.1 hn
  have:=nodup_sub a (b.erase x) hn2.2 fun y hy=>by
   have:y≠x:=fun e=>hn2.1 (e▸hy)
   exact (List.mem_erase_of_ne this).2 (h y (List.mem_cons_of_mem _ hy))
  rw [List.length_erase_of_mem hx] at this
  have hp:=List.length_pos_of_mem hx
  rw [List.length_cons]
  omega
theorem topo_step {n:Nat} {bl:Nat->List Nat} {out:List Nat} (hnd:out.Nodup) (hlt:∀ i∈out,i<n) (hb:∀ i y,y∈bl i->y<n) (hno:∀ i,i<n->¬ Relation.TransGen (fun a b=>b∈bl a) i i) (hlen:out.length<n):∃ i,i<n/\i∉out/\∀ y∈bl i,y∈out:=by
 refine Classical.byContradiction fun hc=>?_
 have next:∀ i,i<n->i∉out->∃ y,y∈bl i/\y<n/\y∉out:=fun i hi ho=>by
  refine Classical.byContradiction fun h=>hc ⟨i,hi,ho,fun y hy=>Decidable.byContradiction fun hy2=>h ⟨y,hy,hb i y hy,hy2⟩⟩
 obtain ⟨i0,hi0,ho0⟩:∃ i,i<n/\i∉out:=by
  refine Classical.byContradiction fun h=>?_
  have hall:∀ i,i<n->i∈out:=fun i hi=>Decidable.byContradiction fun hh=>h ⟨i,hi,hh⟩
  have:=List.nodup_range (n:=n)
  have hle:(List.range n).length≤out.length:=by
   exact nodup_sub (List.range n) out this fun x hx=>hall x (List.mem_range.1 hx)
  rw [List.length_range] at hle
  omega
 have key:∀ k,∃ (s:Nat) (l:List Nat),l.length=k/\(s::l).Nodup/\(∀ x∈s::l,x<n)/\s∉out/\∀ x∈l,Relation.TransGen (fun a b=>b∈bl a) x s:=by
  intro k
  induction k with
  | zero=>exact ⟨i0,[],rfl,by simp,(fun x hx=>by simp at hx;omega),ho0,fun x hx=>by cases hx⟩
  | succ k ih=>
   obtain ⟨s,l,h1,h2,h3,h4,h5⟩:=ih
   obtain ⟨y,hy,hyn,hyo⟩:=next s (h3 s (List.mem_cons_self ..)) h4
   have h6:∀ x∈s::l,Relation.TransGen (fun a b=>b∈bl a) x y:=fun x hx=>by
    rcases List.mem_cons.1 hx with rfl | hx
    ·exact .single hy
    ·exact .tail (h5 x hx) hy
   refine ⟨y,s::l,by rw [List.length_cons,h1],List.nodup_cons.2 ⟨fun hm=>hno y hyn (h6 y hm),h2⟩,fun x hx=>?_,hyo,h6⟩
   rcases List.mem_cons.1 hx with rfl | hx
   ·exact hyn
   ·exact h3 x hx
 obtain ⟨s,l,h1,h2,h3,_⟩:=key n
 have:=nodup_len n (s::l) h2 h3
 rw [List.length_cons] at this
 omega
theorem topo_ex {n:Nat} {bl:Nat->List Nat} (hb:∀ i y,y∈bl i->y<n) (hno:∀ i,i<n->¬ Relation.TransGen (fun a b=>b∈bl a) i i):∃ out,Topo n bl out:=by
 have key:∀ k,k≤n->∃ out:List Nat,out.length=k/\out.Nodup/\(∀ i∈out,i<n)/\∀ m (hm:m<out.length),∀ y∈bl out[m],y∈out.take m:=by
  intro k
  induction k with
  | zero=>exact fun _=>⟨[],rfl,List.nodup_nil,(fun i hi=>by cases hi),fun m hm=>by simp at hm⟩
  | succ k ih=>
   intro hk
   obtain ⟨out,h1,h2,h3,h4⟩:=ih (by omega)
   obtain ⟨i,hi,ho,hy⟩:=topo_step h2 h3 hb hno (by omega)
   refine ⟨out++[i],by simp [h1],List.nodup_append.2 ⟨h2,by simp,fun a ha b hb' e=>?_⟩,fun j hj=>?_,fun m hm y hy'=>?_⟩
   ·rw [List.mem_singleton] at hb';subst hb';exact ho (e▸ha)
   ·rcases List.mem_append.1 hj with hj | hj
    ·exact h3 j hj
    ·rw [List.mem_singleton] at hj;subst hj;exact hi
   ·rcases Nat.lt_or_ge m out.length with h | h
    ·rw [List.getElem_append_left h] at hy'
     rw [List.take_append_of_le_length (by omega)]
     exact h4 m h y hy'
    ·have hm2:m=out.length:=by simp at hm;omega
     subst hm2
     rw [List.take_left]
     rw [List.getElem_append_right (by omega)] at hy'
     simp at hy'
     exact hy y hy'
 obtain ⟨out,h1,h2,h3,h4⟩:=key n (Nat.le_refl _)
 refine ⟨out,h2,h3,h4,fun i hi _=>Decidable.byContradiction fun ho=>?_⟩
 have:=nodup_sub (i::out) (List.range n) (List.nodup_cons.2 ⟨ho,h2⟩) fun x hx=>by
  rcases List.mem_cons.1 hx with rfl | hx
  ·exact List.mem_range.2 hi
  ·exact List.mem_range.2 (h3 x hx)
 simp at this
 omega
theorem good_ex {C:Circ} (h:(Go.Hx.chk C).2=0):∃ out,GoodC C out:=by
 have hc:=(Go.Proofs.Ytdpbdjdgdmheiaa.chk_ok h).2.2.2.1
 obtain ⟨out,t⟩:=topo_ex (n:=C.ands.length) (bl:=bel C (defs C).2.2) (fun i y hy=>Go.Proofs.Ytdpbdjdgdmheiaa.bel_lt (gok h) i y hy) fun i hi hr=>by
  unfold cyc at hc
  rw [List.find?_eq_none] at hc
  exact hc i (List.mem_range.2 hi) (@decide_eq_true _ (_) hr)
 exact ⟨out,h,t⟩
end Go.Hx
namespace Go.Proofs.Ytdpbdjdgdmheiaa
open Go.Hx
def conAll (V:List Bool) (C:Circ) (hd:Bool) (k:Nat):Bool:=hd && (C.cons.take k).all (lit V)
def gv (V:List Bool) (C:Circ) (hd:Bool) (i:Nat):Bool:=if i<C.cons.length then conAll V C hd (i+1) else (conAll V C hd C.cons.length && lit V (C.bads.getD (i-C.cons.length) 0))
def VF (V:List Bool) (C:Circ) (hd:Bool):List Bool:=V++hd::(List.range (C.cons.length+C.bads.length)).map (gv V C hd)
section
variable {C F:Circ} {G:List L3} {BC BF:List Mk} {V st row:List Bool} {hd:Bool}
theorem VF_old (hV:V.length=(C.mx+1).toNat) {j:Nat} (hj:j<(C.mx+1).toNat):(VF V C hd)[j]?=V[j]?:=by
 unfold VF
 rw [List.getElem?_append_left (by omega)]
theorem VF_hd (hV:V.length=(C.mx+1).toNat):(VF V C hd)[(C.mx+1).toNat]?=some hd:=by
 unfold VF
 rw [List.getElem?_append_right (by omega),hV,Nat.sub_self]
 rfl
theorem VF_new (hV:V.length=(C.mx+1).toNat) {i:Nat} (hi:i<C.cons.length+C.bads.length):(VF V C hd)[(C.mx+1).toNat+1+i]?=some (gv V C hd i):=by
 unfold VF
 rw [List.getElem?_append_right (by omega),hV,show (C.mx+1).toNat+1+i-(C.mx+1).toNat=i+1 by omega,List.getElem?_cons_succ,List.getElem?_map,List.getElem?_range hi]
 rfl
theorem lit_old (hm:0≤C.mx) (hV:V.length=(C.mx+1).toNat) {l:Int} (h:0≤l/\l≤2*C.mx+1):lit (VF V C hd) l=lit V l:=by
 unfold lit
 rw [List.getD_eq_getElem?_getD,VF_old hV (by omega),<- List.getD_eq_getElem?_getD]
theorem lit_new (hm:0≤C.mx) (hV:V.length=(C.mx+1).toNat) {k:Nat} (hk:k≤C.cons.length):lit (VF V C hd) (2*(C.mx+1+k))=conAll V C hd k:=by
 unfold lit
 rw [List.getD_eq_getElem?_getD,decide_eq_false (by omega),Bool.bne_false]
 cases k with
 | zero=>
  rw [show (2*(C.mx+1+((0:Nat):Int)) / 2).toNat=(C.mx+1).toNat by omega,VF_hd hV]
  simp [conAll]
 | succ k=>
  rw [show (2*(C.mx+1+((k+1:Nat):Int)) / 2).toNat=(C.mx+1).toNat+1+k by omega,VF_new hV (by omega)]
  simp only [Option.getD_some,gv]
  rw [if_pos (by omega)]
theorem and_mm (W:List Bool) (x y:Int):(lit W (max x y) && lit W (min x y))=(lit W x && lit W y):=by
 rcases Int.le_total x y with h | h
 ·rw [Int.max_eq_right h,Int.min_eq_left h,Bool.and_comm]
 ·rw [Int.max_eq_left h,Int.min_eq_right h]
theorem val_fold (f:FoldIs C F G) (hm:0≤C.mx) (dC:Dn C BC) (dF:Dn F BF) (hl:∀ x∈C.ands,(0≤x.b/\x.b≤2*C.mx+1)/\0≤x.c/\x.c≤2*C.mx+1) (hc:∀ x∈C.cons,0≤x/\x≤2*C.mx+1) (hb:∀ x∈C.bads,0≤x/\x≤2*C.mx+1)
  (hs:st.length=C.lats.length) (hv:Val C BC st row V):Val F BF (st++[hd]) row (VF V C hd):=by
 have hV:=hv.len
 have hmx:F.mx=C.mx+1+C.cons.length+C.bads.length:=by rw [f.eq]
 have hF:F.ands=C.ands++G:=by rw [f.eq]
 have hL:F.lats=C.lats++[⟨2*(C.mx+1),2*(C.mx+1+C.cons.length),1⟩]:=by rw [f.eq]
 have hI:F.ins=C.ins:=by rw [f.eq]
 refine ⟨?_,fun j hj=>?_,fun i x b hx hbb=>?_,fun i x b hx hbb=>?_,fun i x hx=>?_⟩
 ·unfold VF
  simp only [List.length_append,List.length_cons,List.length_map,List.length_range]
  omega
 ·have hjl:=(List.getElem?_eq_some_iff.1 hj).1
  rw [dF.len] at hjl
  rcases Nat.lt_or_ge j (C.mx+1).toNat with h | h
  ·rw [VF_old hV h]
   have hp:=List.getElem?_eq_getElem (l:=BC) (i:=j) (by rw [dC.len];exact h)
   rcases dC.b _ _ hp with hz | ⟨a,b,x,hx,e⟩ | ⟨a,b,x,hx,e⟩ | ⟨a,b,x,hx,e⟩
   ·exact hv.z j (by rw [hp,hz])
   ·have:=(dF.i _ x (by rw [hI];exact hx)).2.2.2
    rw [e,hj] at this;simp at this
   ·have:=(dF.l _ x (by rw [hL,List.getElem?_append_left (List.getElem?_eq_some_iff.1 hx).1];exact hx)).2.2.2
    rw [e,hj] at this;simp at this
   ·have:=(dF.g _ x (by rw [hF,List.getElem?_append_left (List.getElem?_eq_some_iff.1 hx).1];exact hx)).2.2.2
    rw [e,hj] at this;simp at this
  ·exfalso
   rcases Nat.eq_or_lt_of_le h with h | h
   ·have:=(dF.l C.lats.length ⟨2*(C.mx+1),2*(C.mx+1+C.cons.length),1⟩ (by rw [hL];simp)).2.2.2
    simp only at this
    rw [show (2*(C.mx+1) / 2).toNat=j by omega,hj] at this
    simp at this
   ·obtain ⟨x,hx,hxa⟩:=f.out (i:=j-(C.mx+1).toNat-1) (by omega)
    have:=(dF.g (C.ands.length+(j-(C.mx+1).toNat-1)) x (by rw [hF,List.getElem?_append_right (by omega),Nat.add_sub_cancel_left];exact hx)).2.2.2
    rw [hxa,show (2*(C.mx+2+((j-(C.mx+1).toNat-1:Nat):Int)) / 2).toNat=j by omega,hj] at this
    simp at this
 ·rw [hI] at hx
  have:=dC.i i x hx
  rw [VF_old hV (by omega)]
  exact hv.i i x b hx hbb
 ·rw [hL] at hx
  rcases Nat.lt_or_ge i C.lats.length with h | h
  ·rw [List.getElem?_append_left h] at hx
   rw [List.getElem?_append_left (by omega)] at hbb
   have:=dC.l i x hx
   rw [VF_old hV (by omega)]
   exact hv.l i x b hx hbb
  ·have hi:=(List.getElem?_eq_some_iff.1 hx).1
   simp at hi
   have hi2:i=C.lats.length:=by omega
   subst hi2
   rw [List.getElem?_append_right (Nat.le_refl _),Nat.sub_self] at hx
   simp at hx
   subst hx
   rw [List.getElem?_append_right (by omega),hs,Nat.sub_self] at hbb
   simp at hbb
   subst hbb
   rw [show (2*(C.mx+1) / 2).toNat=(C.mx+1).toNat by omega]
   exact VF_hd hV
 ·rw [hF] at hx
  rcases Nat.lt_or_ge i C.ands.length with h | h
  ·rw [List.getElem?_append_left h] at hx
   have:=dC.g i x hx
   have hlx:=hl x (List.mem_of_getElem? hx)
   rw [VF_old hV (by omega),lit_old hm hV hlx.1,lit_old hm hV hlx.2]
   exact hv.g i x hx
  ·rw [List.getElem?_append_right h] at hx
   obtain ⟨ha,hk⟩:=out_new f hx
   rw [ha,show (2*(C.mx+2+((i-C.ands.length:Nat):Int)) / 2).toNat=(C.mx+1).toNat+1+(i-C.ands.length) by omega,VF_new hV hk]
   congr 1
   unfold gv
   rcases Nat.lt_or_ge (i-C.ands.length) C.cons.length with h1 | h1
   ·have:=f.con _ _ (List.getElem?_eq_getElem h1)
    rw [hx] at this
    rw [Option.some.inj this,if_pos h1]
    simp only
    rw [and_mm,lit_new hm hV (by omega),lit_old hm hV (hc _ (List.getElem_mem h1))]
    unfold conAll
    rw [List.take_succ_eq_append_getElem h1,List.all_append,Bool.and_assoc]
    simp
   ·have h2:i-C.ands.length-C.cons.length<C.bads.length:=by omega
    have:=f.bad _ _ (List.getElem?_eq_getElem h2)
    rw [show C.cons.length+(i-C.ands.length-C.cons.length)=i-C.ands.length by omega,hx] at this
    rw [Option.some.inj this,if_neg (by omega)]
    simp only
    rw [and_mm,Bool.and_comm (lit (VF V C hd) _),lit_new hm hV (Nat.le_refl _),lit_old hm hV (hb _ (List.getElem_mem h2)),List.getD_eq_getElem?_getD,List.getElem?_eq_getElem h2]
    rfl
end
end Go.Proofs.Ytdpbdjdgdmheiaa
namespace Go.Hx
theorem val_ex {C:Circ} {out:List Nat} {st row:List Bool} (g:GoodC C out) (hr:row.length=C.ins.length) (hs:st.length=C.lats.length):∃ v,Val C (defs C).2.2 st row v:=by
 have d:=dn g.chk
 have h1:∀ i,i≤C.ins.length->∃ v,V1 C (defs C).2.2 st row v i:=by
  intro i
  induction i with
  | zero=>exact fun _=>⟨_,V1.start d⟩
  | succ i ih=>
   intro hi
   obtain ⟨v,hv⟩:=ih (by omega)
   exact ⟨_,hv.step d (List.getElem?_eq_getElem (show i<C.ins.length by omega)) (List.getElem?_eq_getElem (show i<row.length by omega))⟩
 obtain ⟨v1,hv1⟩:=h1 _ (Nat.le_refl _)
 have h2:∀ i,i≤C.lats.length->∃ v,V2 C (defs C).2.2 st row v i:=by
  intro i
  induction i with
  | zero=>exact fun _=>⟨_,hv1.done d⟩
  | succ i ih=>
   intro hi
   obtain ⟨v,hv⟩:=ih (by omega)
   exact ⟨_,hv.step d (List.getElem?_eq_getElem (show i<C.lats.length by omega)) (List.getElem?_eq_getElem (show i<st.length by omega))⟩
 obtain ⟨v2,hv2⟩:=h2 _ (Nat.le_refl _)
 have h3:∀ i,i≤out.length->∃ v,V3 C (defs C).2.2 st row v out i:=by
  intro i
  induction i with
  | zero=>exact fun _=>⟨_,hv2.done d out⟩
  | succ i ih=>
   intro hi
   obtain ⟨v,hv⟩:=ih (by omega)
   have ho:i<out.length:=by omega
   exact ⟨_,hv.step d g.topo ho (List.getElem?_eq_getElem (g.topo.lt _ (List.getElem_mem ho)))⟩
 obtain ⟨v3,hv3⟩:=h3 _ (Nat.le_refl _)
 exact ⟨v3,hv3.done d (g.all (gok g.chk))⟩
theorem valsOf_is {C:Circ} {st row:List Bool} (h:(Go.Hx.chk C).2=0) (hr:row.length=C.ins.length) (hs:st.length=C.lats.length):Val C (defs C).2.2 st row (valsOf C st row):=by
 obtain ⟨out,g⟩:=good_ex h
 obtain ⟨v,hv⟩:=val_ex g hr hs
 rw [valsOf_eq g hr hs hv]
 exact hv
end Go.Hx
namespace Go.Hx
end Go.Hx
namespace Go.Proofs.Ytdpbdjdgdmheiaa
open Go.Hx
section
variable {C:Circ} {st row:List Bool} {hd:Bool}
theorem vals_fold (h:(chk C).2=0) (hl:¬ FLong C) (hs:st.length=C.lats.length) (hr:row.length=C.ins.length):valsOf (foldC C) (st++[hd]) row=VF (valsOf C st row) C hd:=by
 obtain ⟨G,f⟩:=foldC_is C
 have hF:(chk (foldC C)).2=0:=by rw [chk_fold h hl]
 obtain ⟨out,gF⟩:=good_ex hF
 obtain ⟨_,_,l3,l4,_⟩:=good_litsF h
 refine valsOf_eq gF ?_ ?_ (val_fold f (gok h).mx0 (dn h) (dn hF) (gok h).lits l4 l3 hs (valsOf_is h hr hs))
 ·rw [f.eq];exact hr
 ·rw [f.eq];simp [hs]
theorem lit_bad (hm:0≤C.mx) {V:List Bool} (hV:V.length=(C.mx+1).toNat) {i:Nat} (hi:i<C.bads.length):lit (VF V C hd) (2*(C.mx+1+C.cons.length+1+(i:Nat)))=(conAll V C hd C.cons.length && lit V C.bads[i]):=by
 unfold lit
 rw [List.getD_eq_getElem?_getD,decide_eq_false (by omega),Bool.bne_false,show (2*(C.mx+1+C.cons.length+1+(i:Nat)) / 2).toNat=(C.mx+1).toNat+1+(C.cons.length+i) by omega,VF_new hV (by omega)]
 simp only [Option.getD_some,gv]
 rw [if_neg (by omega),Nat.add_sub_cancel_left,List.getD_eq_getElem?_getD,List.getElem?_eq_getElem hi]
 rfl
theorem conAll_all {V:List Bool}:conAll V C hd C.cons.length=(hd && C.cons.all (lit V)):=by unfold conAll;rw [List.take_length]
theorem nextL_fold (h:(chk C).2=0) {V:List Bool} (hV:V.length=(C.mx+1).toNat):nextL (foldC C) (VF V C hd)=nextL C V++[hd && C.cons.all (lit V)]:=by
 obtain ⟨G,f⟩:=foldC_is C
 have hm:=(gok h).mx0
 obtain ⟨l1,_⟩:=good_lits h
 unfold nextL
 have hlats:(foldC C).lats=C.lats++[⟨2*(C.mx+1),2*(C.mx+1+C.cons.length),1⟩]:=by rw [f.eq]
 rw [hlats,List.map_append]
 congr 1
 ·exact List.map_congr_left fun x hx=>lit_old hm hV (l1 x hx)
 ·rw [List.map_singleton,lit_new hm hV (Nat.le_refl _),conAll_all]
theorem valsOf_len (h:(chk C).2=0) (hs:st.length=C.lats.length) (hr:row.length=C.ins.length):(valsOf C st row).length=(C.mx+1).toNat:=(valsOf_is h hr hs).len
end
end Go.Proofs.Ytdpbdjdgdmheiaa
namespace Go.Proofs.Ytdpbdjdgdmheiaa
open Go.Hx
theorem bad_iff2 {C:Circ} {i:Int} {T:Tr} (hc:(chk C).2=0) (hf:Fit C T):(propQ C 98 i T).2=0↔(0≤i/\i<C.bads.length)/\iniF C.lats T.init 0=none/\(∀ m∈movs C T.init T.ins,m.ok=true)/\i∈(lastM (movs C T.init T.ins)).bads:=by
 have hR:runR C T=(movs C T.init T.ins,0):=by unfold runR;rw [if_neg (by simp [hc]),if_pos hf]
 rw [propQ_bad hc]
 by_cases hi:0≤i/\i<C.bads.length
 ·rw [if_pos hi]
  unfold badQ
  by_cases hq:(runQ C T).2.2=0
  ·obtain ⟨_,_,hQ,hin,hbk⟩:=runQ_ok hq
   rw [if_neg (by simp [hq]),hQ]
   rw [brkF_none] at hbk
   simp only
   split
   ·rename_i h
    exact iff_of_true rfl ⟨hi,hin,hbk,h⟩
   ·rename_i h
    exact iff_of_false (by simp) fun hh=>h hh.2.2.2
  ·rw [if_pos hq]
   refine iff_of_false hq fun ⟨_,g1,g2,_⟩=>hq ?_
   unfold runQ
   rw [if_neg (by simp [hR]),g1,hR]
   simp only
   rw [(brkF_none (i:=0)).2 g2]
 ·rw [if_neg hi]
  exact iff_of_false (by simp) fun hh=>hi hh.1
section
variable {C:Circ}
end
end Go.Proofs.Ytdpbdjdgdmheiaa
namespace Go.Proofs.Ytdpbdjdgdmheiaa
open Go.Hx Go.Deep
section
variable {H:Type} {enc:TypeId×Value->H} {W:World} {base:Nat} {held:Bool}
end
theorem ok_of_chk {C:Circ} (h:(chk C).2=0) (h1:∀ x∈C.lats,W64 x.c) (h2:∀ s∈C.syms,W64 s.i/\0≤s.k/\s.k≤255/\s.s.size≤140737488355328) (h3:∀ s∈C.coms,s.size≤140737488355328):C.Ok:=by
 obtain ⟨⟨b0,b1⟩,b2,b3,b4,b5,b6,b7,b8,b9,b10,b11,b12⟩:=chk_bounds h
 obtain ⟨l1,l2,l3,l4,l5,l6⟩:=good_lits h
 have d:=dok_of h
 have gk:=gok h
 have w:∀ {x:Int},0≤x->x≤2*C.mx+1->W64 x:=fun {x} g1 g2=>by unfold W64;omega
 have hj:∀ r∈C.just,r.length≤16384:=fun r hr=>by have:=le_sumS hr;omega
 refine ⟨by unfold W64;omega,fun x hx=>?_,fun x hx=>?_,fun x hx=>w (l2 x hx).1 (l2 x hx).2,fun x hx=>w (l3 x hx).1 (l3 x hx).2,fun x hx=>w (l4 x hx).1 (l4 x hx).2,fun r hr=>⟨fun x hx=>w (l5 r hr x hx).1 (l5 r hr x hx).2,by have:=hj r hr;omega⟩,fun x hx=>w (l6 x hx).1 (l6 x hx).2,fun x hx=>?_,h2,h3,by omega,?_⟩
 ·obtain ⟨i,hi⟩:=List.mem_iff_getElem?.1 hx
  obtain ⟨a,b,c⟩:=d.i i x hi
  exact w (by omega) (by omega)
 ·obtain ⟨i,hi⟩:=List.mem_iff_getElem?.1 hx
  obtain ⟨a,b,c,_⟩:=d.l i x hi
  exact ⟨w (by omega) (by omega),w (l1 x hx).1 (l1 x hx).2,h1 x hx⟩
 ·obtain ⟨i,hi⟩:=List.mem_iff_getElem?.1 hx
  obtain ⟨a,b,c⟩:=d.g i x hi
  have:=gk.lits x hx
  exact ⟨w (by omega) (by omega),w this.1.1 this.1.2,w this.2.1 this.2.2⟩
 ·exact ⟨by omega,by omega,by omega,by omega,by omega,by omega,by omega,by omega,by omega,by omega,fun r hr=>by have:=hj r hr;omega⟩
theorem fold_Ok {C:Circ} (ok:C.Ok) (h:(chk C).2=0) (hl:¬ FLong C):(foldC C).Ok:=by
 obtain ⟨G,f⟩:=foldC_is C
 refine ok_of_chk (by rw [chk_fold h hl]) (fun x hx=>?_) (fun s hs=>?_) fun s hs=>?_
 ·rw [f.eq] at hx
  rcases List.mem_append.1 hx with hx | hx
  ·exact (ok.lats x hx).2.2
  ·rw [List.mem_singleton] at hx;subst hx;exact (⟨by decide,by decide⟩:W64 1)
 ·rw [f.eq] at hs
  exact ok.syms s (List.mem_filter.1 hs).1
 ·rw [f.eq] at hs
  exact ok.coms s hs
theorem foldR_ok2 {C:Circ} (h:(foldR C).2=0):foldR C=(foldC C,0)/\(chk C).2=0/\¬ FLong C:=by
 obtain ⟨h1,h2⟩:=foldR_ok h
 refine ⟨h1,h2,fun hl=>?_⟩
 unfold foldR at h
 rw [if_neg (by simp [h2]),if_pos hl] at h
 simp at h
section
variable {h:Heap} {v:CV} {C:Circ} {w:TV} {T:Tr}
end
end Go.Proofs.Ytdpbdjdgdmheiaa
