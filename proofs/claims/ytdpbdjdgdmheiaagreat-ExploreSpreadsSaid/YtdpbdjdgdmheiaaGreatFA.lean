/- Words and facts that the claim's proof leans on. No condition. -/
import Derived.Test.YtdpbdjdgdmheiaaGreatEC
import Derived.Test.YtdpbdjdgdmheiaaGreatSA
import Derived.Test.YtdpbdjdgdmheiaaGreatSI
import Derived.Test.YtdpbdjdgdmheiaaGreatSL
import Derived.Test.YtdpbdjdgdmheiaaGreatSE
import Derived.Test.YtdpbdjdgdmheiaaGreatHxV
import Derived.Test.YtdpbdjdgdmheiaaGreatEA
set_option linter.unusedVariables false
set_option linter.unusedSimpArgs false
namespace Go.Hx
theorem defG_succ {α:Type} {mx k:Int} {f g:α->Int} (hmx:0≤mx) (K:List Mk->DR) (L:List α) :
  ∀ (l:List α) (i:Nat) (B:List Mk),L.drop i=l->B.length=(mx+1).toNat->(∀ (j:Nat) x,i≤j->L[j]?=some x->2≤f x/\f x % 2=0/\f x≤2*mx/\g x=0/\(B.getD (f x / 2).toNat (0,0)).1=0) ->
   (∀ (j j':Nat) x x',i≤j->j<j'->L[j]?=some x->L[j']?=some x'->f x≠f x') ->
   ∃ B',defG mx k f g l i B K=K B'/\B'.length=B.length/\(∀ j:Nat,(∀ (i':Nat) x,i≤i'->L[i']?=some x->(f x / 2).toNat≠j)->B'[j]?=B[j]?)
 | [],i,B,hd,hl,hx,hne=>⟨B,rfl,rfl,fun j _=>rfl⟩
 | y::r,i,B,hd,hl,hx,hne=>by
  have hi:i<L.length:=by
   refine Decidable.byContradiction fun h=>?_
   rw [List.drop_of_length_le (by omega)] at hd
   cases hd
  have hdc:=List.drop_eq_getElem_cons hi
  rw [hd] at hdc
  obtain ⟨hy,hr⟩:=List.cons.inj hdc
  have hLi:L[i]?=some y:=by rw [List.getElem?_eq_getElem hi,hy]
  obtain ⟨k1,k2,k3,k4,k5⟩:=hx i y (Nat.le_refl _) hLi
  have hm:mk1 mx B (f y)=0:=by
   unfold mk1
   rw [if_neg (by omega),if_pos k5]
  obtain ⟨B',e1,e2,e3⟩:=defG_succ hmx K L r (i+1) (put1 B (f y) k i) hr.symm (by simp [put1,hl]) (fun j x hij hjx=>by
   obtain ⟨m1,m2,m3,m4,m5⟩:=hx j x (by omega) hjx
   refine ⟨m1,m2,m3,m4,?_⟩
   have:=hne i j y x (Nat.le_refl _) (by omega) hLi hjx
   unfold put1
   rw [List.getD_eq_getElem?_getD,List.getElem?_set_ne (by omega),<- List.getD_eq_getElem?_getD]
   exact m5) (fun j j' x x' hij hjj=>hne j j' x x' (by omega) hjj)
  refine ⟨B',?_,by rw [e2];simp [put1],fun j hj=>?_⟩
  ·rw [defG,if_pos hm,if_pos k4]
   exact e1
  ·rw [e3 j fun i' x hi' hx'=>hj i' x (by omega) hx']
   unfold put1
   rw [List.getElem?_set_ne (hj i y (Nat.le_refl _) hLi)]
theorem defG_gF {α:Type} {mx k:Int} {f g:α->Int} {K:List Mk->DR}:∀ {L:List α} {i:Int} {B:List Mk},(defG mx k f g L i B K).2.1=0->(∃ B',(K B').2.1=0)/\∀ x∈L,g x=0
 | [],i,B,h=>⟨⟨B,h⟩,fun x hx=>by cases hx⟩
 | x::r,i,B,h=>by
  rw [defG] at h
  split at h
  ·split at h
   ·rename_i hg
    obtain ⟨h2,h3⟩:=defG_gF h
    refine ⟨h2,fun y hy=>?_⟩
    rcases List.mem_cons.1 hy with rfl | hy
    ·exact hg
    ·exact h3 y hy
   ·rename_i h2;exact absurd h h2
  ·rename_i h1;exact absurd h h1
structure DOk (C:Circ):Prop where
 mx:0≤C.mx
 i:∀ (i:Nat) x,C.ins[i]?=some x->2≤x/\x % 2=0/\x≤2*C.mx
 l:∀ (i:Nat) x,C.lats[i]?=some x->2≤x.a/\x.a % 2=0/\x.a≤2*C.mx/\rst x=0
 g:∀ (i:Nat) x,C.ands[i]?=some x->2≤x.a/\x.a % 2=0/\x.a≤2*C.mx
 ii:∀ (i j:Nat) x y,i<j->C.ins[i]?=some x->C.ins[j]?=some y->x≠y
 ll:∀ (i j:Nat) x y,i<j->C.lats[i]?=some x->C.lats[j]?=some y->x.a≠y.a
 gg:∀ (i j:Nat) x y,i<j->C.ands[i]?=some x->C.ands[j]?=some y->x.a≠y.a
 il:∀ (i j:Nat) x y,C.ins[i]?=some x->C.lats[j]?=some y->x≠y.a
 ig:∀ (i j:Nat) x y,C.ins[i]?=some x->C.ands[j]?=some y->x≠y.a
 lg:∀ (i j:Nat) x y,C.lats[i]?=some x->C.ands[j]?=some y->x.a≠y.a
theorem DOk.defs {C:Circ} (d:DOk C):(defs C).2.1=0:=by
 have hmx:=d.mx
 have rep:∀ j:Nat,((List.replicate (C.mx+1).toNat ((0:Int),(0:Int))).getD j (0,0)).1=0:=fun j=>by
  rw [List.getD_eq_getElem?_getD,List.getElem?_replicate]
  split <;> rfl
 unfold Go.Hx.defs
 obtain ⟨B1,e1,n1,s1⟩:=defG_succ (k:=1) (f:=id) (g:=fun _=>0) hmx (fun B=>defG C.mx 2 L3.a rst C.lats 0 B fun B=>defG C.mx 3 L3.a (fun _=>0) C.ands 0 B fun B=>(0,0,B)) C.ins C.ins 0 (List.replicate (C.mx+1).toNat (0,0)) rfl (by simp)
  (fun j x _ hx=>by obtain ⟨a,b,c⟩:=d.i j x hx;exact ⟨a,b,c,rfl,rep _⟩) (fun j j' x x' _ hjj hx hx'=>d.ii j j' x x' hjj hx hx')
 have f1:∀ y:Int,2≤y->y % 2=0->(∀ (i:Nat) x,C.ins[i]?=some x->x≠y)->(B1.getD (y / 2).toNat (0,0)).1=0:=fun y h2 he hy=>by
  rw [List.getD_eq_getElem?_getD,s1 _ fun i x _ hx=>by have:=hy i x hx;have:=d.i i x hx;simp only [id];omega,<- List.getD_eq_getElem?_getD]
  exact rep _
 obtain ⟨B2,e2,n2,s2⟩:=defG_succ (k:=2) (f:=L3.a) (g:=rst) hmx (fun B=>defG C.mx 3 L3.a (fun _=>0) C.ands 0 B fun B=>(0,0,B)) C.lats C.lats 0 B1 rfl (by rw [n1];simp)
  (fun j x _ hx=>by obtain ⟨a,b,c,e⟩:=d.l j x hx;exact ⟨a,b,c,e,f1 _ a b fun i x' hx'=>d.il i j x' x hx' hx⟩) (fun j j' x x' _ hjj hx hx'=>d.ll j j' x x' hjj hx hx')
 obtain ⟨B3,e3,n3,s3⟩:=defG_succ (k:=3) (f:=L3.a) (g:=fun _=>0) hmx (fun B=>((0:Int),(0:Int),B)) C.ands C.ands 0 B2 rfl (by rw [n2,n1];simp)
  (fun j x _ hx=>by
   obtain ⟨a,b,c⟩:=d.g j x hx
   refine ⟨a,b,c,rfl,?_⟩
   rw [List.getD_eq_getElem?_getD,s2 _ fun i x' _ hx'=>by have:=d.lg i j x' x hx' hx;have:=d.l i x' hx';omega,<- List.getD_eq_getElem?_getD]
   exact f1 _ a b fun i x' hx'=>d.ig i j x' x hx' hx) (fun j j' x x' _ hjj hx hx'=>d.gg j j' x x' hjj hx hx')
 rw [show ((0:Nat):Int)=0 from rfl] at e1 e2 e3
 rw [e1]
 rw [e2,e3]
theorem dok_of {C:Circ} (h:(chk C).2=0):DOk C:=by
 have d:=dn h
 have hd:=(Go.Proofs.YtdpbdjdgdmheiaaGreat.chk_ok h).2.1
 have hr:∀ x∈C.lats,rst x=0:=by
  unfold Go.Hx.defs at hd
  obtain ⟨⟨B1,h1⟩,_⟩:=defG_gF hd
  exact (defG_gF h1).2
 refine ⟨(gok h).mx0,fun i x hx=>?_,fun i x hx=>?_,fun i x hx=>?_,fun i j x y hij hx hy=>?_,fun i j x y hij hx hy=>?_,fun i j x y hij hx hy=>?_,fun i j x y hx hy=>?_,fun i j x y hx hy=>?_,fun i j x y hx hy=>?_⟩
 ·obtain ⟨a,b,c,_⟩:=d.i i x hx;exact ⟨a,b,c⟩
 ·obtain ⟨a,b,c,_⟩:=d.l i x hx;exact ⟨a,b,c,hr x (List.mem_of_getElem? hx)⟩
 ·obtain ⟨a,b,c,_⟩:=d.g i x hx;exact ⟨a,b,c⟩
 ·intro e;subst e
  have h1:=(d.i i x hx).2.2.2;have h2:=(d.i j x hy).2.2.2
  rw [h1] at h2;simp at h2;omega
 ·intro e
  have h1:=(d.l i x hx).2.2.2;have h2:=(d.l j y hy).2.2.2
  rw [<- e,h1] at h2;simp at h2;omega
 ·intro e
  have h1:=(d.g i x hx).2.2.2;have h2:=(d.g j y hy).2.2.2
  rw [<- e,h1] at h2;simp at h2;omega
 ·intro e
  have h1:=(d.i i x hx).2.2.2;have h2:=(d.l j y hy).2.2.2
  rw [<- e,h1] at h2;simp at h2
 ·intro e
  have h1:=(d.i i x hx).2.2.2;have h2:=(d.g j y hy).2.2.2
  rw [<- e,h1] at h2;simp at h2
 ·intro e
  have h1:=(d.l i x hx).2.2.2;have h2:=(d.g j y hy).2.2.2
  rw [<- e,h1] at h2;simp at h2
end Go.Hx
namespace Go.Proofs.YtdpbdjdgdmheiaaGreat
open Go.Hx
end Go.Proofs.YtdpbdjdgdmheiaaGreat
namespace Go.Proofs.YtdpbdjdgdmheiaaGreat
open Go.Hx
structure FoldIs (C F:Circ) (G:List L3):Prop where
 eq:F={ C with mx:=C.mx+1+C.cons.length+C.bads.length,ands:=C.ands++G,bads:=(List.range C.bads.length).map (fun i=>2*(C.mx+1+C.cons.length+1+(i:Nat))),lats:=C.lats++[⟨2*(C.mx+1),2*(C.mx+1+C.cons.length),1⟩],fair:=C.fair++[2*(C.mx+1+C.cons.length)],cons:=[],syms:=C.syms.filter fun s=>decide (s.k≠99) }
 len:G.length=C.cons.length+C.bads.length
 con:∀ (i:Nat) x,C.cons[i]?=some x->G[i]?=some ⟨2*(C.mx+2+i),max (2*(C.mx+1+i)) x,min (2*(C.mx+1+i)) x⟩
 bad:∀ (i:Nat) x,C.bads[i]?=some x->G[C.cons.length+i]?=some ⟨2*(C.mx+2+C.cons.length+i),max x (2*(C.mx+1+C.cons.length)),min x (2*(C.mx+1+C.cons.length))⟩
end Go.Proofs.YtdpbdjdgdmheiaaGreat
namespace Go.Proofs.YtdpbdjdgdmheiaaGreat
open Go.Hx
theorem us1_zero {mx:Int} {B:List Mk} {l:Int}:us1 mx B l=0↔(0≤l/\l≤2*mx+1)/\(1<l->(B.getD (l / 2).toNat (0,0)).1≠0):=by
 unfold us1
 split
 ·rename_i h
  exact iff_of_false (by omega) fun hh=>by omega
 ·rename_i h
  split
  ·rename_i h2
   exact iff_of_false (by omega) fun hh=>hh.2 h2.1 h2.2
  ·rename_i h2
   exact iff_of_true rfl ⟨by omega,fun h3 h4=>h2 ⟨h3,h4⟩⟩
theorem firstE_all {α:Type} {f:α->Int}:∀ {l:List α} {i:Int} {z:Int×Int},(∀ x∈l,f x=0)->firstE f l i z=z
 | [],_,_,_=>rfl
 | x::r,i,z,h=>by
  rw [firstE,if_pos (h x (List.mem_cons_self ..))]
  exact firstE_all fun y hy=>h y (List.mem_cons_of_mem _ hy)
theorem usL_all {mx:Int} {B:List Mk} {l:List Int} (h:∀ x∈l,us1 mx B x=0):usL mx B l=0:=by
 unfold usL
 rw [firstE_all h]
section
variable {C F:Circ} {G:List L3} {BC BF:List Mk}
theorem getD_mk {B:List Mk} {j:Nat} {p:Mk} (h:B[j]?=some p):B.getD j (0,0)=p:=by rw [List.getD_eq_getElem?_getD,h];rfl
theorem FoldIs.out (f:FoldIs C F G) {i:Nat} (hi:i<C.cons.length+C.bads.length):∃ x,G[i]?=some x/\x.a=2*(C.mx+2+i):=by
 rcases Nat.lt_or_ge i C.cons.length with h | h
 ·exact ⟨_,f.con i _ (List.getElem?_eq_getElem h),rfl⟩
 ·have:=f.bad (i-C.cons.length) _ (List.getElem?_eq_getElem (by omega))
  rw [show C.cons.length+(i-C.cons.length)=i by omega] at this
  exact ⟨_,this,by simp only;omega⟩
end
end Go.Proofs.YtdpbdjdgdmheiaaGreat
namespace Go.Proofs.YtdpbdjdgdmheiaaGreat
open Go.Hx
section
variable {C F:Circ} {G:List L3} {BC BF:List Mk}
theorem gate_def {B:List Mk} (d:Dn C B) {l:Int} {y:Nat} (hy:y∈gateOf B l):∃ x,C.ands[y]?=some x/\(x.a / 2).toNat=(l / 2).toNat:=by
 unfold gateOf at hy
 split at hy
 ·rename_i h3
  rw [List.mem_singleton] at hy
  rcases Nat.lt_or_ge (l / 2).toNat B.length with h | h
  ·have hp:=List.getElem?_eq_getElem h
   rw [getD_mk hp] at h3 hy
   rcases d.b _ _ hp with hz | ⟨a,_⟩ | ⟨a,_⟩ | ⟨a,b,x,hx,e⟩
   ·rw [hz] at h3;simp at h3
   ·omega
   ·omega
   ·subst hy;exact ⟨x,hx,e⟩
  ·rw [List.getD_eq_getElem?_getD,List.getElem?_eq_none h] at h3
   simp at h3
 ·cases hy
theorem out_new (f:FoldIs C F G) {i:Nat} {x:L3} (hx:G[i]?=some x):x.a=2*(C.mx+2+i)/\i<C.cons.length+C.bads.length:=by
 have hi:=(List.getElem?_eq_some_iff.1 hx).1
 have:=f.len
 obtain ⟨x',h1,h2⟩:=f.out (i:=i) (by omega)
 rw [hx] at h1
 obtain rfl:=Option.some.inj h1
 exact ⟨h2,by omega⟩
theorem lead (f:FoldIs C F G) (dC:Dn C BC) (dF:Dn F BF) {l:Int} (h0:0≤l) {y:Nat} (hy:y∈gateOf BF l) :
  (l≤2*C.mx+1->y<C.ands.length/\y∈gateOf BC l)/\∀ k:Nat,l=2*(C.mx+1+k)->y<C.ands.length+k:=by
 obtain ⟨x,hx,e⟩:=gate_def dF hy
 have hF:F.ands=C.ands++G:=by rw [f.eq]
 rw [hF] at hx
 rcases Nat.lt_or_ge y C.ands.length with h | h
 ·rw [List.getElem?_append_left h] at hx
  obtain ⟨a,b,c,dd⟩:=dC.g _ x hx
  refine ⟨fun _=>⟨h,?_⟩,fun k _=>by omega⟩
  rw [e] at dd
  have:=mem_gate dd rfl
  simpa using this
 ·rw [List.getElem?_append_right h] at hx
  obtain ⟨ha,_⟩:=out_new f hx
  exact ⟨fun hl=>by omega,fun k hk=>by omega⟩
end
end Go.Proofs.YtdpbdjdgdmheiaaGreat
namespace Go.Hx
theorem nodup_sub:∀ (a b:List Nat),a.Nodup->(∀ x∈a,x∈b)->a.length≤b.length
 | [],b,_,_=>Nat.zero_le _
 | x::a,b,hn,h=>by
  have hx:=h x (List.mem_cons_self ..)
  have hn2:=List.nodup_cons.1 hn
  have:=nodup_sub a (b.erase x) hn2.2 fun y hy=>by
   have:y≠x:=fun e=>hn2.1 (e▸hy)
   exact (List.mem_erase_of_ne this).2 (h y (List.mem_cons_of_mem _ hy))
  rw [List.length_erase_of_mem hx] at this
  have hp:=List.length_pos_of_mem hx
  rw [List.length_cons]
  omega
theorem topo_step {n:Nat} {bl:Nat->List Nat} {out:List Nat} (hnd:out.Nodup) (hlt:∀ i∈out,i<n) (hb:∀ i y,y∈bl i->y<n) (hno:∀ i,i<n->¬ Relation.TransGen (fun a b=>b∈bl a) i i) (hlen:out.length<n):∃ i,i<n/\i∉out/\∀ y∈bl i,y∈out:=by
 refine Classical.byContradiction fun hc=>?_
 have next:∀ i,i<n->i∉out->∃ y,y∈bl i/\y<n/\y∉out:=fun i hi ho=>by
  refine Classical.byContradiction fun h=>hc ⟨i,hi,ho,fun y hy=>Decidable.byContradiction fun hy2=>h ⟨y,hy,hb i y hy,hy2⟩⟩
 obtain ⟨i0,hi0,ho0⟩:∃ i,i<n/\i∉out:=by
  refine Classical.byContradiction fun h=>?_
  have hall:∀ i,i<n->i∈out:=fun i hi=>Decidable.byContradiction fun hh=>h ⟨i,hi,hh⟩
  have:=List.nodup_range (n:=n)
  have hle:(List.range n).length≤out.length:=by
   exact nodup_sub (List.range n) out this fun x hx=>hall x (List.mem_range.1 hx)
  rw [List.length_range] at hle
  omega
 have key:∀ k,∃ (s:Nat) (l:List Nat),l.length=k/\(s::l).Nodup/\(∀ x∈s::l,x<n)/\s∉out/\∀ x∈l,Relation.TransGen (fun a b=>b∈bl a) x s:=by
  intro k
  induction k with
  | zero=>exact ⟨i0,[],rfl,by simp,(fun x hx=>by simp at hx;omega),ho0,fun x hx=>by cases hx⟩
  | succ k ih=>
   obtain ⟨s,l,h1,h2,h3,h4,h5⟩:=ih
   obtain ⟨y,hy,hyn,hyo⟩:=next s (h3 s (List.mem_cons_self ..)) h4
   have h6:∀ x∈s::l,Relation.TransGen (fun a b=>b∈bl a) x y:=fun x hx=>by
    rcases List.mem_cons.1 hx with rfl | hx
    ·exact .single hy
    ·exact .tail (h5 x hx) hy
   refine ⟨y,s::l,by rw [List.length_cons,h1],List.nodup_cons.2 ⟨fun hm=>hno y hyn (h6 y hm),h2⟩,fun x hx=>?_,hyo,h6⟩
   rcases List.mem_cons.1 hx with rfl | hx
   ·exact hyn
   ·exact h3 x hx
 obtain ⟨s,l,h1,h2,h3,_⟩:=key n
 have:=nodup_len n (s::l) h2 h3
 rw [List.length_cons] at this
 omega
theorem topo_ex {n:Nat} {bl:Nat->List Nat} (hb:∀ i y,y∈bl i->y<n) (hno:∀ i,i<n->¬ Relation.TransGen (fun a b=>b∈bl a) i i):∃ out,Topo n bl out:=by
 have key:∀ k,k≤n->∃ out:List Nat,out.length=k/\out.Nodup/\(∀ i∈out,i<n)/\∀ m (hm:m<out.length),∀ y∈bl out[m],y∈out.take m:=by
  intro k
  induction k with
  | zero=>exact fun _=>⟨[],rfl,List.nodup_nil,(fun i hi=>by cases hi),fun m hm=>by simp at hm⟩
  | succ k ih=>
   intro hk
   obtain ⟨out,h1,h2,h3,h4⟩:=ih (by omega)
   obtain ⟨i,hi,ho,hy⟩:=topo_step h2 h3 hb hno (by omega)
   refine ⟨out++[i],by simp [h1],List.nodup_append.2 ⟨h2,by simp,fun a ha b hb' e=>?_⟩,fun j hj=>?_,fun m hm y hy'=>?_⟩
   ·rw [List.mem_singleton] at hb';subst hb';exact ho (e▸ha)
   ·rcases List.mem_append.1 hj with hj | hj
    ·exact h3 j hj
    ·rw [List.mem_singleton] at hj;subst hj;exact hi
   ·rcases Nat.lt_or_ge m out.length with h | h
    ·rw [List.getElem_append_left h] at hy'
     rw [List.take_append_of_le_length (by omega)]
     exact h4 m h y hy'
    ·have hm2:m=out.length:=by simp at hm;omega
     subst hm2
     rw [List.take_left]
     rw [List.getElem_append_right (by omega)] at hy'
     simp at hy'
     exact hy y hy'
 obtain ⟨out,h1,h2,h3,h4⟩:=key n (Nat.le_refl _)
 refine ⟨out,h2,h3,h4,fun i hi _=>Decidable.byContradiction fun ho=>?_⟩
 have:=nodup_sub (i::out) (List.range n) (List.nodup_cons.2 ⟨ho,h2⟩) fun x hx=>by
  rcases List.mem_cons.1 hx with rfl | hx
  ·exact List.mem_range.2 hi
  ·exact List.mem_range.2 (h3 x hx)
 simp at this
 omega
theorem good_ex {C:Circ} (h:(Go.Hx.chk C).2=0):∃ out,GoodC C out:=by
 have hc:=(Go.Proofs.YtdpbdjdgdmheiaaGreat.chk_ok h).2.2.2.1
 obtain ⟨out,t⟩:=topo_ex (n:=C.ands.length) (bl:=bel C (defs C).2.2) (fun i y hy=>Go.Proofs.YtdpbdjdgdmheiaaGreat.bel_lt (gok h) i y hy) fun i hi hr=>by
  unfold cyc at hc
  rw [List.find?_eq_none] at hc
  exact hc i (List.mem_range.2 hi) (@decide_eq_true _ (_) hr)
 exact ⟨out,h,t⟩
end Go.Hx
namespace Go.Proofs.YtdpbdjdgdmheiaaGreat
open Go.Hx
section
variable {C F:Circ} {G:List L3} {BC BF:List Mk} {V st row:List Bool} {hd:Bool}
theorem and_mm (W:List Bool) (x y:Int):(lit W (max x y) && lit W (min x y))=(lit W x && lit W y):=by
 rcases Int.le_total x y with h | h
 ·rw [Int.max_eq_right h,Int.min_eq_left h,Bool.and_comm]
 ·rw [Int.max_eq_left h,Int.min_eq_right h]
end
end Go.Proofs.YtdpbdjdgdmheiaaGreat
namespace Go.Hx
theorem val_ex {C:Circ} {out:List Nat} {st row:List Bool} (g:GoodC C out) (hr:row.length=C.ins.length) (hs:st.length=C.lats.length):∃ v,Val C (defs C).2.2 st row v:=by
 have d:=dn g.chk
 have h1:∀ i,i≤C.ins.length->∃ v,V1 C (defs C).2.2 st row v i:=by
  intro i
  induction i with
  | zero=>exact fun _=>⟨_,V1.start d⟩
  | succ i ih=>
   intro hi
   obtain ⟨v,hv⟩:=ih (by omega)
   exact ⟨_,hv.step d (List.getElem?_eq_getElem (show i<C.ins.length by omega)) (List.getElem?_eq_getElem (show i<row.length by omega))⟩
 obtain ⟨v1,hv1⟩:=h1 _ (Nat.le_refl _)
 have h2:∀ i,i≤C.lats.length->∃ v,V2 C (defs C).2.2 st row v i:=by
  intro i
  induction i with
  | zero=>exact fun _=>⟨_,hv1.done d⟩
  | succ i ih=>
   intro hi
   obtain ⟨v,hv⟩:=ih (by omega)
   exact ⟨_,hv.step d (List.getElem?_eq_getElem (show i<C.lats.length by omega)) (List.getElem?_eq_getElem (show i<st.length by omega))⟩
 obtain ⟨v2,hv2⟩:=h2 _ (Nat.le_refl _)
 have h3:∀ i,i≤out.length->∃ v,V3 C (defs C).2.2 st row v out i:=by
  intro i
  induction i with
  | zero=>exact fun _=>⟨_,hv2.done d out⟩
  | succ i ih=>
   intro hi
   obtain ⟨v,hv⟩:=ih (by omega)
   have ho:i<out.length:=by omega
   exact ⟨_,hv.step d g.topo ho (List.getElem?_eq_getElem (g.topo.lt _ (List.getElem_mem ho)))⟩
 obtain ⟨v3,hv3⟩:=h3 _ (Nat.le_refl _)
 exact ⟨v3,hv3.done d (g.all (gok g.chk))⟩
theorem valsOf_is {C:Circ} {st row:List Bool} (h:(Go.Hx.chk C).2=0) (hr:row.length=C.ins.length) (hs:st.length=C.lats.length):Val C (defs C).2.2 st row (valsOf C st row):=by
 obtain ⟨out,g⟩:=good_ex h
 obtain ⟨v,hv⟩:=val_ex g hr hs
 rw [valsOf_eq g hr hs hv]
 exact hv
end Go.Hx
namespace Go.Hx
end Go.Hx
namespace Go.Proofs.YtdpbdjdgdmheiaaGreat
open Go.Hx
section
variable {C:Circ} {st row:List Bool} {hd:Bool}
theorem valsOf_len (h:(chk C).2=0) (hs:st.length=C.lats.length) (hr:row.length=C.ins.length):(valsOf C st row).length=(C.mx+1).toNat:=(valsOf_is h hr hs).len
end
end Go.Proofs.YtdpbdjdgdmheiaaGreat
namespace Go.Proofs.YtdpbdjdgdmheiaaGreat
open Go.Hx
theorem bad_iff2 {C:Circ} {i:Int} {T:Tr} (hc:(chk C).2=0) (hf:Fit C T):(propQ C 98 i T).2=0↔(0≤i/\i<C.bads.length)/\iniF C.lats T.init 0=none/\(∀ m∈movs C T.init T.ins,m.ok=true)/\i∈(lastM (movs C T.init T.ins)).bads:=by
 have hR:runR C T=(movs C T.init T.ins,0):=by unfold runR;rw [if_neg (by simp [hc]),if_pos hf]
 rw [propQ_bad hc]
 by_cases hi:0≤i/\i<C.bads.length
 ·rw [if_pos hi]
  unfold badQ
  by_cases hq:(runQ C T).2.2=0
  ·obtain ⟨_,_,hQ,hin,hbk⟩:=runQ_ok hq
   rw [if_neg (by simp [hq]),hQ]
   rw [brkF_none] at hbk
   simp only
   split
   ·rename_i h
    exact iff_of_true rfl ⟨hi,hin,hbk,h⟩
   ·rename_i h
    exact iff_of_false (by simp) fun hh=>h hh.2.2.2
  ·rw [if_pos hq]
   refine iff_of_false hq fun ⟨_,g1,g2,_⟩=>hq ?_
   unfold runQ
   rw [if_neg (by simp [hR]),g1,hR]
   simp only
   rw [(brkF_none (i:=0)).2 g2]
 ·rw [if_neg hi]
  exact iff_of_false (by simp) fun hh=>hi hh.1
section
variable {C:Circ}
end
end Go.Proofs.YtdpbdjdgdmheiaaGreat
