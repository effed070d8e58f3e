/- Words and facts that the claim's proof leans on. No condition. -/
import Derived.Test.YtdpbdjdgdmheiaaGreatEA
import Derived.Test.YtdpbdjdgdmheiaaGreatCAe
import Derived.Test.YtdpbdjdgdmheiaaGreatCAf
set_option linter.unusedVariables false
set_option linter.unusedSimpArgs false
namespace Go.Hx
theorem mk1_okS {mx:Int} {B:List Mk} {l:Int} (h:mk1 mx B l=0):2≤l/\l % 2=0/\l≤2*mx:=by
 unfold mk1 at h
 split at h
 ·simp at h
 ·rename_i h1
  omega
theorem le_sumS {r:List Int}:∀ {L:List (List Int)},r∈L->r.length≤(L.map List.length).sum
 | [],h=>(by cases h)
 | x::L,h=>by
  rw [List.map_cons,List.sum_cons]
  rcases List.mem_cons.1 h with rfl | h
  ·omega
  ·have:=le_sumS h;omega
theorem Topo.all {n:Nat} {bl:Nat->List Nat} {out:List Nat} (t:Topo n bl out) (hlt:∀ i y,y∈bl i->y<n) (hno:∀ i,i<n->¬ Relation.TransGen (fun a b=>b∈bl a) i i):∀ i,i<n->i∈out:=by
 intro i0 hi0
 refine Decidable.byContradiction fun hi=>?_
 have next:∀ i,i<n->i∉out->∃ y,y∈bl i/\y<n/\y∉out:=fun i hi ho=>by
  refine Classical.byContradiction fun h=>ho (t.full i hi fun y hy=>Decidable.byContradiction fun hy2=>h ⟨y,hy,hlt i y hy,hy2⟩)
 have key:∀ k,∃ (s:Nat) (l:List Nat),l.length=k/\(s::l).Nodup/\(∀ x∈s::l,x<n)/\s∉out/\∀ x∈l,Relation.TransGen (fun a b=>b∈bl a) x s:=by
  intro k
  induction k with
  | zero=>exact ⟨i0,[],rfl,by simp,(fun x hx=>by simp at hx;omega),hi,fun x hx=>by cases hx⟩
  | succ k ih=>
   obtain ⟨s,l,h1,h2,h3,h4,h5⟩:=ih
   obtain ⟨y,hy,hyn,hyo⟩:=next s (h3 s (List.mem_cons_self ..)) h4
   have h6:∀ x∈s::l,Relation.TransGen (fun a b=>b∈bl a) x y:=fun x hx=>by
    rcases List.mem_cons.1 hx with rfl | hx
    ·exact .single hy
    ·exact .tail (h5 x hx) hy
   refine ⟨y,s::l,by rw [List.length_cons,h1],List.nodup_cons.2 ⟨fun hm=>hno y hyn (h6 y hm),h2⟩,fun x hx=>?_,hyo,h6⟩
   rcases List.mem_cons.1 hx with rfl | hx
   ·exact hyn
   ·exact h3 x hx
 obtain ⟨s,l,h1,h2,h3,_⟩:=key n
 have:=nodup_len n (s::l) h2 h3
 rw [List.length_cons] at this
 omega
structure Dn (C:Circ) (B:List Mk):Prop where
 len:B.length=(C.mx+1).toNat
 i:∀ (i:Nat) x,C.ins[i]?=some x->2≤x/\x % 2=0/\x≤2*C.mx/\B[(x / 2).toNat]?=some (1,(i:Int))
 l:∀ (i:Nat) x,C.lats[i]?=some x->2≤x.a/\x.a % 2=0/\x.a≤2*C.mx/\B[(x.a / 2).toNat]?=some (2,(i:Int))
 g:∀ (i:Nat) x,C.ands[i]?=some x->2≤x.a/\x.a % 2=0/\x.a≤2*C.mx/\B[(x.a / 2).toNat]?=some (3,(i:Int))
 b:∀ (j:Nat) p,B[j]?=some p->p=(0,0)∨(p.1=1/\0≤p.2/\∃ x,C.ins[p.2.toNat]?=some x/\(x / 2).toNat=j)∨(p.1=2/\0≤p.2/\∃ x,C.lats[p.2.toNat]?=some x/\(x.a / 2).toNat=j)∨(p.1=3/\0≤p.2/\∃ x,C.ands[p.2.toNat]?=some x/\(x.a / 2).toNat=j)
theorem defG_dn {α:Type} {mx k:Int} {f g:α->Int} (hmx:0≤mx) (hk:k≠0) (K:List Mk->DR) (D:DR) (hok:D.2.1=0) (L:List α) :
  ∀ (l:List α) (i:Nat) (B:List Mk),L.drop i=l->B.length=(mx+1).toNat->defG mx k f g l i B K=D ->
   ∃ B',K B'=D/\B'.length=B.length/\(∀ (j:Nat) x,i≤j->L[j]?=some x->2≤f x/\f x % 2=0/\f x≤2*mx/\B'[(f x / 2).toNat]?=some (k,(j:Int))) /\
    (∀ (j:Nat) p,B[j]?=some p->p.1≠0->B'[j]?=some p) /\
    (∀ (j:Nat) p,B'[j]?=some p->B[j]?=some p∨(p.1=k/\0≤p.2/\∃ x,L[p.2.toNat]?=some x/\(f x / 2).toNat=j))
 | [],i,B,hd,hl,hD=>by
  refine ⟨B,hD,rfl,fun j x hij hx=>?_,fun j p h _=>h,fun j p h=>.inl h⟩
  have h1:=(List.getElem?_eq_some_iff.1 hx).1
  have h2:L.length≤i:=by have:=congrArg List.length hd;simp at this;omega
  omega
 | y::r,i,B,hd,hl,hD=>by
  have hi:i<L.length:=by
   refine Decidable.byContradiction fun h=>?_
   rw [List.drop_of_length_le (by omega)] at hd
   cases hd
  have hdc:=List.drop_eq_getElem_cons hi
  rw [hd] at hdc
  obtain ⟨hy,hr⟩:=List.cons.inj hdc
  unfold defG at hD
  split at hD
  ·rename_i h1
   split at hD
   ·obtain ⟨k1,k2,k3⟩:=mk1_okS h1
    have hB0:(B.getD (f y / 2).toNat (0,0)).1=0:=by
     unfold mk1 at h1
     split at h1
     ·simp at h1
     ·split at h1
      ·rename_i h;exact h
      ·simp at h1
    have hjl:(f y / 2).toNat<B.length:=by omega
    obtain ⟨B',e1,e2,e3,e4,e5⟩:=defG_dn hmx hk K D hok L r (i+1) (put1 B (f y) k i) hr.symm (by simp [put1,hl]) hD
    have hput:(put1 B (f y) k i)[(f y / 2).toNat]?=some (k,(i:Int)):=by unfold put1;rw [List.getElem?_set_self hjl]
    refine ⟨B',e1,by rw [e2];simp [put1],fun j x hij hx=>?_,fun j p hp hp0=>?_,fun j p hp=>?_⟩
    ·rcases Nat.eq_or_lt_of_le hij with rfl | h
     ·have:x=y:=by rw [List.getElem?_eq_getElem hi] at hx;rw [hy];exact (Option.some.inj hx).symm
      subst this
      exact ⟨k1,k2,k3,e4 _ _ hput hk⟩
     ·exact e3 j x h hx
    ·refine e4 j p ?_ hp0
     unfold put1
     rw [List.getElem?_set_ne]
     ·exact hp
     ·intro e
      subst e
      rw [List.getD_eq_getElem?_getD,hp] at hB0
      exact hp0 hB0
    ·rcases e5 j p hp with h | h
     ·unfold put1 at h
      rw [Go.Proofs.YtdpbdjdgdmheiaaGreat.getElem?_set_eq] at h
      split at h
      ·rename_i hj
       obtain rfl:=Option.some.inj h
       refine .inr ⟨rfl,by simp,y,?_,hj.1⟩
       simp only [Int.toNat_natCast]
       rw [List.getElem?_eq_getElem hi,hy]
      ·exact .inl h
     ·exact .inr h
   ·rename_i h2;subst hD;exact absurd hok h2
  ·rename_i h1;subst hD;exact absurd hok h1
theorem dn_of {C:Circ} (hm:0≤C.mx) (h:(defs C).2.1=0):Dn C (defs C).2.2:=by
 obtain ⟨B1,h1,n1,a1,b1,c1⟩:=defG_dn hm (by omega) _ (defs C) h C.ins C.ins 0 (List.replicate (C.mx+1).toNat (0,0)) rfl (by simp) rfl
 obtain ⟨B2,h2,n2,a2,b2,c2⟩:=defG_dn hm (by omega) _ (defs C) h C.lats C.lats 0 B1 rfl (by rw [n1];simp) h1
 obtain ⟨B3,h3,n3,a3,b3,c10003⟩:=defG_dn hm (by omega) _ (defs C) h C.ands C.ands 0 B2 rfl (by rw [n2,n1];simp) h2
 have e:(defs C).2.2=B3:=by rw [<- h3]
 rw [e]
 refine ⟨by rw [n3,n2,n1];simp,fun i x hx=>?_,fun i x hx=>?_,fun i x hx=>a3 i x (Nat.zero_le _) hx,fun j p hp=>?_⟩
 ·obtain ⟨k1,k2,k3,k4⟩:=a1 i x (Nat.zero_le _) hx
  exact ⟨k1,k2,k3,b3 _ _ (b2 _ _ k4 (by simp)) (by simp)⟩
 ·obtain ⟨k1,k2,k3,k4⟩:=a2 i x (Nat.zero_le _) hx
  exact ⟨k1,k2,k3,b3 _ _ k4 (by simp)⟩
 ·rcases c10003 j p hp with h | ⟨h1,h2,x,h3⟩
  ·rcases c2 j p h with h | ⟨h1,h2,x,h3⟩
   ·rcases c1 j p h with h | ⟨h1,h2,x,h3⟩
    ·exact .inl (List.mem_replicate.1 (List.mem_of_getElem? h)).2
    ·exact .inr (.inl ⟨h1,h2,x,h3⟩)
   ·exact .inr (.inr (.inl ⟨h1,h2,x,h3⟩))
  ·exact .inr (.inr (.inr ⟨h1,h2,x,h3⟩))
def lit (v:List Bool) (l:Int):Bool:=v.getD (l / 2).toNat false != decide (l % 2=1)
structure Val (C:Circ) (B:List Mk) (st row v:List Bool):Prop where
 len:v.length=(C.mx+1).toNat
 z:∀ j:Nat,B[j]?=some (0,0)->v[j]?=some false
 i:∀ (i:Nat) x b,C.ins[i]?=some x->row[i]?=some b->v[(x / 2).toNat]?=some b
 l:∀ (i:Nat) x b,C.lats[i]?=some x->st[i]?=some b->v[(x.a / 2).toNat]?=some b
 g:∀ (i:Nat) x,C.ands[i]?=some x->v[(x.a / 2).toNat]?=some (lit v x.b && lit v x.c)
section
variable {C:Circ} {B:List Mk} {st row v w:List Bool} {out:List Nat}
theorem mem_gate {l:Int} {p:Mk} (hp:B[(l / 2).toNat]?=some p) (h3:p.1=3):p.2.toNat∈gateOf B l:=by
 unfold gateOf
 have:B.getD (l / 2).toNat (0,0)=p:=by rw [List.getD_eq_getElem?_getD,hp];rfl
 rw [this,if_pos h3]
 exact List.mem_singleton.2 rfl
theorem Val.base (d:Dn C B) (hr:row.length=C.ins.length) (hs:st.length=C.lats.length) (hv:Val C B st row v) (hw:Val C B st row w) {j:Nat} {p:Mk} (hp:B[j]?=some p)
  (hg:p.1=3->∀ x,C.ands[p.2.toNat]?=some x->v[(x.a / 2).toNat]?=w[(x.a / 2).toNat]?):v[j]?=w[j]?:=by
 rcases d.b j p hp with rfl | ⟨h1,h2,x,h3,h4⟩ | ⟨h1,h2,x,h3,h4⟩ | ⟨h1,h2,x,h3,h4⟩
 ·rw [hv.z j hp,hw.z j hp]
 ·subst h4
  have hi:p.2.toNat<row.length:=by rw [hr];exact (List.getElem?_eq_some_iff.1 h3).1
  rw [hv.i _ x _ h3 (List.getElem?_eq_getElem hi),hw.i _ x _ h3 (List.getElem?_eq_getElem hi)]
 ·subst h4
  have hi:p.2.toNat<st.length:=by rw [hs];exact (List.getElem?_eq_some_iff.1 h3).1
  rw [hv.l _ x _ h3 (List.getElem?_eq_getElem hi),hw.l _ x _ h3 (List.getElem?_eq_getElem hi)]
 ·subst h4
  exact hg h1 x h3
theorem Val.uniq (d:Dn C B) (hr:row.length=C.ins.length) (hs:st.length=C.lats.length) (hu:∀ x∈C.ands,(0≤x.b/\x.b≤2*C.mx+1)/\0≤x.c/\x.c≤2*C.mx+1) (t:Topo C.ands.length (bel C B) out) (hall:∀ i,i<C.ands.length->i∈out)
  (hv:Val C B st row v) (hw:Val C B st row w):v=w:=by
 have key:∀ k i,i∈out.take k->∀ x,C.ands[i]?=some x->v[(x.a / 2).toNat]?=w[(x.a / 2).toNat]?:=by
  intro k
  induction k with
  | zero=>intro i hi;simp at hi
  | succ k ih=>
   intro i hi x hx
   rcases Nat.lt_or_ge k out.length with hk | hk
   ·rw [List.take_succ_eq_append_getElem hk,List.mem_append,List.mem_singleton] at hi
    rcases hi with hi | rfl
    ·exact ih i hi x hx
    ·have hux:=hu x (List.mem_of_getElem? hx)
     have hbel:∀ y∈gateOf B x.b++gateOf B x.c,y∈out.take k:=fun y hy=>t.topo k hk y (by unfold bel;rw [hx];exact hy)
     have one:∀ l,0≤l->l≤2*C.mx+1->(∀ y∈gateOf B l,y∈out.take k)->lit v l=lit w l:=fun l h0 h1 hl=>by
      unfold lit
      have hj:(l / 2).toNat<B.length:=by rw [d.len];omega
      have:=Val.base d hr hs hv hw (List.getElem?_eq_getElem hj) fun h3 x' hx'=>ih _ (hl _ (mem_gate (List.getElem?_eq_getElem hj) h3)) x' hx'
      rw [List.getD_eq_getElem?_getD,List.getD_eq_getElem?_getD,this]
     rw [hv.g _ x hx,hw.g _ x hx,one _ hux.1.1 hux.1.2 fun y hy=>hbel y (List.mem_append_left _ hy),one _ hux.2.1 hux.2.2 fun y hy=>hbel y (List.mem_append_right _ hy)]
   ·rw [List.take_of_length_le (by omega)] at hi
    exact ih i (by rw [List.take_of_length_le hk];exact hi) x hx
 refine List.ext_getElem? fun j=>?_
 rcases Nat.lt_or_ge j B.length with h | h
 ·refine Val.base d hr hs hv hw (List.getElem?_eq_getElem h) fun h3 x hx=>key out.length _ ?_ x hx
  rw [List.take_length]
  exact hall _ (List.getElem?_eq_some_iff.1 hx).1
 ·have h1:=hv.len
  have h2:=hw.len
  have h3:=d.len
  rw [List.getElem?_eq_none (by omega),List.getElem?_eq_none (by omega)]
def bs (st row:List Bool) (p:Mk):Bool:=if p.1=1 then row.getD p.2.toNat false else if p.1=2 then st.getD p.2.toNat false else false
structure V1 (C:Circ) (B:List Mk) (st row v:List Bool) (i:Nat):Prop where
 len:v.length=(C.mx+1).toNat
 at':∀ (j:Nat) p,B[j]?=some p->v[j]?=some (if p.1=1/\p.2<i then bs st row p else false)
structure V2 (C:Circ) (B:List Mk) (st row v:List Bool) (i:Nat):Prop where
 len:v.length=(C.mx+1).toNat
 at':∀ (j:Nat) p,B[j]?=some p->v[j]?=some (if p.1=1∨p.1=2/\p.2<i then bs st row p else false)
structure V3 (C:Circ) (B:List Mk) (st row v:List Bool) (out:List Nat) (i:Nat):Prop where
 len:v.length=(C.mx+1).toNat
 at':∀ (j:Nat) p,B[j]?=some p->p.1≠3->v[j]?=some (bs st row p)
 g:∀ (i':Nat) x,i'∈out.take i->C.ands[i']?=some x->v[(x.a / 2).toNat]?=some (lit v x.b && lit v x.c)
theorem V1.start (d:Dn C B):V1 C B st row (List.replicate (C.mx+1).toNat false) 0:=by
 refine ⟨by simp,fun j p hp=>?_⟩
 have hj:j<(C.mx+1).toNat:=by rw [<- d.len];exact (List.getElem?_eq_some_iff.1 hp).1
 rw [List.getElem?_replicate,if_pos hj]
 split
 ·rename_i h
  rcases d.b j p hp with rfl | ⟨h1,h2,x,h3,h4⟩ | ⟨h1,h2,x,h3,h4⟩ | ⟨h1,h2,x,h3,h4⟩
  ·simp at h
  ·omega
  ·omega
  ·omega
 ·rfl
theorem V1.step (d:Dn C B) {i:Nat} (s:V1 C B st row v i) {x:Int} {b:Bool} (hx:C.ins[i]?=some x) (hb:row[i]?=some b):V1 C B st row (v.set (x / 2).toNat b) (i+1):=by
 obtain ⟨k1,k2,k3,k4⟩:=d.i i x hx
 have hjB:=(List.getElem?_eq_some_iff.1 k4).1
 have hjv:(x / 2).toNat<v.length:=by rw [s.len,<- d.len];exact hjB
 refine ⟨by rw [List.length_set];exact s.len,fun j p hp=>?_⟩
 rw [Go.Proofs.YtdpbdjdgdmheiaaGreat.getElem?_set_eq]
 split
 ·rename_i hj
  obtain ⟨rfl,_⟩:=hj
  rw [k4] at hp
  obtain rfl:=Option.some.inj hp
  rw [if_pos ⟨rfl,by simp only;omega⟩]
  unfold bs
  rw [if_pos rfl,List.getD_eq_getElem?_getD]
  simp only [Int.toNat_natCast,hb]
  rfl
 ·rename_i hj
  rw [s.at' j p hp]
  have hne:¬ (p.1=1/\p.2=i):=fun ⟨h1,h2⟩=>by
   rcases d.b j p hp with rfl | ⟨h1',h2',y,h3,h4⟩ | ⟨h1',h2',y,h3,h4⟩ | ⟨h1',h2',y,h3,h4⟩
   ·simp at h1
   ·rw [h2,Int.toNat_natCast,hx] at h3
    obtain rfl:=Option.some.inj h3
    exact hj ⟨h4,hjv⟩
   ·omega
   ·omega
  congr 1
  by_cases h:p.1=1/\p.2<i
  ·rw [if_pos h,if_pos ⟨h.1,by omega⟩]
  ·rw [if_neg h,if_neg fun hh=>h ⟨hh.1,by have:p.2≠i:=fun e=>hne ⟨hh.1,e⟩;omega⟩]
theorem V1.done (d:Dn C B) (s:V1 C B st row v C.ins.length):V2 C B st row v 0:=by
 refine ⟨s.len,fun j p hp=>?_⟩
 rw [s.at' j p hp]
 congr 1
 rcases d.b j p hp with rfl | ⟨h1,h2,x,h3,h4⟩ | ⟨h1,h2,x,h3,h4⟩ | ⟨h1,h2,x,h3,h4⟩
 ·simp
 ·have:=(List.getElem?_eq_some_iff.1 h3).1
  rw [if_pos ⟨h1,by omega⟩,if_pos (.inl h1)]
 ·rw [if_neg (by omega),if_neg (by omega)]
 ·rw [if_neg (by omega),if_neg (by omega)]
theorem V2.step (d:Dn C B) {i:Nat} (s:V2 C B st row v i) {x:L3} {b:Bool} (hx:C.lats[i]?=some x) (hb:st[i]?=some b):V2 C B st row (v.set (x.a / 2).toNat b) (i+1):=by
 obtain ⟨k1,k2,k3,k4⟩:=d.l i x hx
 have hjB:=(List.getElem?_eq_some_iff.1 k4).1
 have hjv:(x.a / 2).toNat<v.length:=by rw [s.len,<- d.len];exact hjB
 refine ⟨by rw [List.length_set];exact s.len,fun j p hp=>?_⟩
 rw [Go.Proofs.YtdpbdjdgdmheiaaGreat.getElem?_set_eq]
 split
 ·rename_i hj
  obtain ⟨rfl,_⟩:=hj
  rw [k4] at hp
  obtain rfl:=Option.some.inj hp
  rw [if_pos (.inr ⟨rfl,by simp only;omega⟩)]
  unfold bs
  rw [if_neg (by simp),if_pos rfl,List.getD_eq_getElem?_getD]
  simp only [Int.toNat_natCast,hb]
  rfl
 ·rename_i hj
  rw [s.at' j p hp]
  have hne:¬ (p.1=2/\p.2=i):=fun ⟨h1,h2⟩=>by
   rcases d.b j p hp with rfl | ⟨h1',h2',y,h3,h4⟩ | ⟨h1',h2',y,h3,h4⟩ | ⟨h1',h2',y,h3,h4⟩
   ·simp at h1
   ·omega
   ·rw [h2,Int.toNat_natCast,hx] at h3
    obtain rfl:=Option.some.inj h3
    exact hj ⟨h4,hjv⟩
   ·omega
  congr 1
  by_cases h:p.1=1∨p.1=2/\p.2<i
  ·rw [if_pos h,if_pos (h.imp id fun h=>⟨h.1,by omega⟩)]
  ·rw [if_neg h,if_neg fun hh=>h (hh.imp id fun hh=>⟨hh.1,by have:p.2≠i:=fun e=>hne ⟨hh.1,e⟩;omega⟩)]
theorem V2.done (d:Dn C B) (s:V2 C B st row v C.lats.length) (out:List Nat):V3 C B st row v out 0:=by
 refine ⟨s.len,fun j p hp h3=>?_,fun i' x hi=>by simp at hi⟩
 rw [s.at' j p hp]
 congr 1
 rcases d.b j p hp with rfl | ⟨h1,h2,x,h3',h4⟩ | ⟨h1,h2,x,h3',h4⟩ | ⟨h1,h2,x,h3',h4⟩
 ·simp [bs]
 ·rw [if_pos (.inl h1)]
 ·have:=(List.getElem?_eq_some_iff.1 h3').1
  rw [if_pos (.inr ⟨h1,by omega⟩)]
 ·exact absurd h1 h3
theorem lit_set {j:Nat} {b:Bool} {l:Int} (h:(l / 2).toNat≠j):lit (v.set j b) l=lit v l:=by
 unfold lit
 rw [List.getD_eq_getElem?_getD,List.getD_eq_getElem?_getD,List.getElem?_set_ne (fun e=>h e.symm)]
theorem V3.step (d:Dn C B) (t:Topo C.ands.length (bel C B) out) {i:Nat} (hi:i<out.length) (s:V3 C B st row v out i) {x:L3} (hx:C.ands[out[i]]?=some x):V3 C B st row (v.set (x.a / 2).toNat (lit v x.b && lit v x.c)) out (i+1):=by
 obtain ⟨k1,k2,k3,k4⟩:=d.g _ x hx
 have hjB:=(List.getElem?_eq_some_iff.1 k4).1
 have hjv:(x.a / 2).toNat<v.length:=by rw [s.len,<- d.len];exact hjB
 have hnd:=List.pairwise_iff_getElem.1 t.nd
 have hno:out[i]∉out.take i:=fun hm=>by
  obtain ⟨k,hk,e⟩:=List.getElem_of_mem hm
  rw [List.getElem_take] at e
  have hk2:k<out.length:=by simp at hk;omega
  have hki:k<i:=by simp at hk;omega
  exact hnd k i hk2 hi hki e
 have lean:∀ k (hk:k<out.length),k≤i->∀ y,C.ands[out[k]]?=some y->∀ l,l=y.b∨l=y.c->(l / 2).toNat≠(x.a / 2).toNat:=fun k hk hki y hy l hl e=>by
  rw [<- e] at k4
  have hm:out[i]∈gateOf B l:=by have:=mem_gate k4 rfl;simpa using this
  have:=t.topo k hk out[i] (by
   unfold bel
   rw [hy]
   rcases hl with rfl | rfl
   ·exact List.mem_append_left _ hm
   ·exact List.mem_append_right _ hm)
  exact hno (List.take_subset_take_left _ hki this)
 refine ⟨by rw [List.length_set];exact s.len,fun j p hp h3=>?_,fun i' y hi' hy=>?_⟩
 ·rw [List.getElem?_set_ne,s.at' j p hp h3]
  intro e
  subst e
  rw [k4] at hp
  obtain rfl:=Option.some.inj hp
  exact h3 rfl
 ·rw [List.take_succ_eq_append_getElem hi,List.mem_append,List.mem_singleton] at hi'
  rcases hi' with hi' | rfl
  ·obtain ⟨k,hk,e⟩:=List.getElem_of_mem hi'
   rw [List.getElem_take] at e
   have hk2:k<out.length:=by simp at hk;omega
   have hki:k<i:=by simp at hk;omega
   subst e
   rw [lit_set (lean k hk2 (by omega) y hy _ (.inl rfl)),lit_set (lean k hk2 (by omega) y hy _ (.inr rfl)),List.getElem?_set_ne,s.g _ y hi' hy]
   intro e
   obtain ⟨_,_,_,k4'⟩:=d.g _ y hy
   rw [<- e,k4] at k4'
   simp only [Option.some.injEq,Prod.mk.injEq,true_and] at k4'
   have:out[i]=out[k]:=by omega
   exact hno (this▸hi')
  ·rw [hx] at hy
   obtain rfl:=Option.some.inj hy
   rw [lit_set (lean i hi (Nat.le_refl _) x hx _ (.inl rfl)),lit_set (lean i hi (Nat.le_refl _) x hx _ (.inr rfl)),List.getElem?_set_self hjv]
theorem V3.done (d:Dn C B) (hall:∀ i,i<C.ands.length->i∈out) (s:V3 C B st row v out out.length):Val C B st row v:=by
 refine ⟨s.len,fun j hj=>?_,fun i x b hx hb=>?_,fun i x b hx hb=>?_,fun i x hx=>?_⟩
 ·rw [s.at' j _ hj (by simp)];rfl
 ·obtain ⟨k1,k2,k3,k4⟩:=d.i i x hx
  rw [s.at' _ _ k4 (by simp)]
  unfold bs
  rw [if_pos rfl,List.getD_eq_getElem?_getD]
  simp [hb]
 ·obtain ⟨k1,k2,k3,k4⟩:=d.l i x hx
  rw [s.at' _ _ k4 (by simp)]
  unfold bs
  rw [if_neg (by simp),if_pos rfl,List.getD_eq_getElem?_getD]
  simp [hb]
 ·exact s.g i x (by rw [List.take_length];exact hall i (List.getElem?_eq_some_iff.1 hx).1) hx
end
open Classical in
noncomputable def valsOf (C:Circ) (st row:List Bool):List Bool:=if h:∃ v,Val C (defs C).2.2 st row v then h.choose else []
structure GoodC (C:Circ) (out:List Nat):Prop where
 chk:(chk C).2=0
 topo:Topo C.ands.length (bel C (defs C).2.2) out
namespace GoodC
variable {C:Circ} {out:List Nat} {st row v:List Bool}
theorem all (g:GoodC C out) (gk:Go.Proofs.YtdpbdjdgdmheiaaGreat.GOk C (defs C).2.2):∀ i,i<C.ands.length->i∈out:=by
 have h:=(Go.Proofs.YtdpbdjdgdmheiaaGreat.chk_ok g.chk).2.2.2.1
 refine g.topo.all (fun i y hy=>Go.Proofs.YtdpbdjdgdmheiaaGreat.bel_lt gk i y hy) fun i hi hr=>?_
 unfold cyc at h
 rw [List.find?_eq_none] at h
 exact h i (List.mem_range.2 hi) (@decide_eq_true _ (_) hr)
end GoodC
theorem gok {C:Circ} (h:(Go.Hx.chk C).2=0):Go.Proofs.YtdpbdjdgdmheiaaGreat.GOk C (defs C).2.2:=by
 obtain ⟨h1,h2,h3,_⟩:=Go.Proofs.YtdpbdjdgdmheiaaGreat.chk_ok h
 exact Go.Proofs.YtdpbdjdgdmheiaaGreat.gok_of h1 h2 h3
theorem dn {C:Circ} (h:(Go.Hx.chk C).2=0):Dn C (defs C).2.2:=dn_of (gok h).mx0 (Go.Proofs.YtdpbdjdgdmheiaaGreat.chk_ok h).2.1
theorem valsOf_eq {C:Circ} {out:List Nat} {st row v:List Bool} (g:GoodC C out) (hr:row.length=C.ins.length) (hs:st.length=C.lats.length) (hv:Val C (defs C).2.2 st row v):valsOf C st row=v:=by
 have h:∃ v,Val C (defs C).2.2 st row v:=⟨v,hv⟩
 unfold valsOf
 rw [dif_pos h]
 exact Val.uniq (dn g.chk) hr hs (gok g.chk).lits g.topo (g.all (gok g.chk)) h.choose_spec hv
end Go.Hx
namespace Go.Proofs.YtdpbdjdgdmheiaaGreat
open Go.Hx Go.Deep
structure RunR (h:Heap) (k:Addr) (v:CV) (C:Circ) (out:List Nat):Prop where
 ex:∃ oa oc,Rd h (some k) 12 (v.cs++[.slice oa out.length oc])/\Rd h oa out.length (ints (nI out))
 cis:CIs h v C
 good:GoodC C out
theorem RunR.ext {h h':Heap} {k:Addr} {v:CV} {C:Circ} {out:List Nat} (r:RunR h k v C out) (u:Ext h h'):RunR h' k v C out:=
 let ⟨oa,oc,h1,h2⟩:=r.ex;⟨⟨oa,oc,h1.ext u,h2.ext u⟩,r.cis.ext u,r.good⟩
theorem RunR.f {h:Heap} {k:Addr} {v:CV} {C:Circ} {out:List Nat} (r:RunR h k v C out) (i:Nat) {x:Value} (hx:v.cs[i]?=some x):cellH h ((k.add 0).add i)=some x:=by
 obtain ⟨oa,oc,h1,h2⟩:=r.ex
 rw [addr_add0]
 have hi:=(List.getElem?_eq_some_iff.1 hx).1
 exact h1.fld i (by rw [List.getElem?_append_left hi];exact hx)
section
variable {h:Heap} {v:CV} {C:Circ}
def OrdP (C:Circ) (h:Heap) (w:Value) (h':Heap):Prop:=Ext h h'/\(((chk C).2=0/\∃ out a c,w=.tuple #[.slice a out.length c,.int .i64 0]/\GoodC C out/\Rd h' a out.length (ints (nI out)))∨((chk C).2≠0/\w=.tuple #[.slice none 0 0,.int .i64 (chk C).2]))
theorem c161 (r:CIs h v C) (ok:C.Ok):CallsH Tryz.prog 161 #[v.v] h (OrdP C h):=by
 refine run161 v _ h ?_
 unfold VC161
 intro h1
 have e1:Ext h h1:=Ext.box h _
 have hb:Rd h1 (some ⟨h.size,0,none⟩) 11 v.cs:=boxC v 29
 refine ldC hb ((c146 (r.ext e1) ok).mono ?_)
 rintro _ h2 ⟨e2,p,rfl,hp⟩
 refine ⟨_,_,_,rfl,fun hz=>?_,fun hz=>⟨e1.trans e2,.inr ⟨hz,rfl⟩⟩⟩
 obtain ⟨k,b,rfl,L,m,g⟩:=hp hz
 refine (c180 L m (r.ext e1) g).mono ?_
 rintro _ h3 ⟨out,a,c,t,rfl,f⟩
 exact ⟨_,_,_,rfl,(e1.trans e2).trans f.ext,.inl ⟨hz,out,a,c,rfl,⟨hz,t⟩,Rd.one f.own.rd⟩⟩
def ReadyP (C:Circ) (h:Heap) (w:Value) (h':Heap):Prop:=Ext h h'/\(((chk C).2=0/\∃ out k v',w=.tuple #[.pointer (some k),.int .i64 0]/\RunR h' k v' C out)∨((chk C).2≠0/\w=.tuple #[.pointer none,.int .i64 (chk C).2]))
theorem c123 (r:CIs h v C) (ok:C.Ok):CallsH Tryz.prog 123 #[v.v] h (ReadyP C h):=by
 refine run123 v _ h ?_
 unfold VC123
 intro h1
 have e1:Ext h h1:=Ext.box h _
 have hb:Rd h1 (some ⟨h.size,0,none⟩) 11 v.cs:=boxC v 29
 refine ldC hb ((c161 (r.ext e1) ok).mono ?_)
 rintro _ h2 ⟨e2,⟨hz,out,a,c,rfl,g,ro⟩ | ⟨hz,rfl⟩⟩
 ·refine ⟨_,_,_,_,rfl,fun _=>ldC (hb.ext e2) ?_,fun hz=>absurd rfl hz⟩
  intro h3
  have e3:Ext h2 h3:=Ext.push h2 _
  refine ⟨(e1.trans e2).trans e3,.inl ⟨hz,out,_,v,rfl,⟨⟨a,c,?_,ro.ext e3⟩,(r.ext (e1.trans e2)).ext e3,g⟩⟩⟩
  exact (Fr.lit (.refl h2) (v.cs++[.slice a out.length c]) 213 12 rfl).rd
 ·exact ⟨_,_,_,_,rfl,fun hz'=>absurd hz' hz,fun _=>⟨e1.trans e2,.inr ⟨hz,rfl⟩⟩⟩
end
theorem lt1 {b:Bool} {p:Prop} [Decidable p] (h:p) (hb:b=true):Value.bool false=Value.bool (b != decide p):=by rw [hb,decide_eq_true h];rfl
theorem lt2 {b:Bool} {p:Prop} [Decidable p] (h:p) (hb:¬ b=true):Value.bool true=Value.bool (b != decide p):=by rw [Bool.not_eq_true] at hb;rw [hb,decide_eq_true h];rfl
theorem lt3 {b:Bool} {p:Prop} [Decidable p] (h:¬ p) (hb:b=false):Value.bool false=Value.bool (b != decide p):=by rw [hb,decide_eq_false h];rfl
theorem lt4 {b:Bool} {p:Prop} [Decidable p] (h:¬ p) (hb:¬ b=false):Value.bool true=Value.bool (b != decide p):=by rw [Bool.not_eq_false] at hb;rw [hb,decide_eq_false h];rfl
theorem c162 {h:Heap} {ad:Addr} {a:Option Addr} {n c:Nat} {V:List Bool} (hb:cellH h ad=some (.slice a n c)) (r:Rd h a n (bools V)) {l:Int} (h0:0≤l) (h1:l≤9223372036854775807) (hl:(l / 2).toNat<n):CallsH Tryz.prog 162 #[.int .i64 l,.pointer (some ad)] h (Ret (.bool (lit V l)) h):=by
 refine run162 l (some ad) _ h ?_
 unfold VC162
 rw [half,and_one h0 h1]
 refine AtP.mk rfl ⟨_,_,_,hb,by omega,by omega,r.geti (j:=l / 2) (by omega) (by omega) fun ad hl2 hc=>⟨_,hc,?_⟩⟩
 have e:lit V l=(V[(l / 2).toNat] != decide (l % 2=1)):=by unfold lit;rw [List.getD_eq_getElem?_getD,List.getElem?_eq_getElem hl2];rfl
 rw [e]
 exact ⟨fun h1=>⟨fun h2=>⟨lt1 h1 h2,rfl⟩,fun h2=>⟨lt2 h1 h2,rfl⟩⟩,fun h1=>⟨fun h2=>⟨lt3 h1 h2,rfl⟩,fun h2=>⟨lt4 h1 h2,rfl⟩⟩⟩
theorem hok162:callOkP Tryz.prog 162:=show callOk Tryz.prog 162=true by kernel_rfl
theorem good_lits {C:Circ} (h:(chk C).2=0):(∀ x∈C.lats,0≤x.b/\x.b≤2*C.mx+1)/\(∀ x∈C.outs,0≤x/\x≤2*C.mx+1)/\(∀ x∈C.bads,0≤x/\x≤2*C.mx+1)/\(∀ x∈C.cons,0≤x/\x≤2*C.mx+1)/\(∀ l∈C.just,∀ x∈l,0≤x/\x≤2*C.mx+1)/\(∀ x∈C.fair,0≤x/\x≤2*C.mx+1):=by
 have hu:=(chk_ok h).2.2.1
 unfold uses at hu
 obtain ⟨h1,hu⟩:=firstE_ok hu
 obtain ⟨h2,hu⟩:=firstE_ok hu
 obtain ⟨h3,hu⟩:=firstE_ok hu
 obtain ⟨h4,hu⟩:=firstE_ok hu
 obtain ⟨h5,hu⟩:=firstE_ok hu
 obtain ⟨h6,hu⟩:=firstE_ok hu
 exact ⟨fun x hx=>us1_ok (h1 x hx),fun x hx=>us1_ok (h2 x hx),fun x hx=>us1_ok (h3 x hx),fun x hx=>us1_ok (h4 x hx),fun l hl x hx=>us1_ok ((firstE_ok (h5 l hl)).1 x hx),fun x hx=>us1_ok (h6 x hx)⟩
theorem boolsD (n:Nat):List.replicate n (Value.bool false)=bools (List.replicate n false):=by rw [bools,List.map_replicate]
section
variable {h:Heap} {v:CV} {C:Circ} {k:Addr} {out:List Nat} {st row:List Bool}
set_option maxRecDepth 4000 in
theorem c124 (rr:RunR h k v C out) {sa ra:Option Addr} {sn sc rn rc:Nat} (rs:Rd h sa sn (bools st)) (rw':Rd h ra rn (bools row)) (hs:sn=C.lats.length) (hr:rn=C.ins.length) :
  CallsH Tryz.prog 124 #[.pointer (some k),.slice sa sn sc,.slice ra rn rc] h fun w h'=>∃ a c,w=.slice a (C.mx+1).toNat c/\Fr h 1 h' a (C.mx+1).toNat c (bools (valsOf C st row)):=by
 obtain ⟨q1,q2,q3,q4,q5,q6,q7,q8,q9,q10⟩:=rr.cis.len
 have hmx:=rr.cis.mx
 have g:=rr.good
 obtain ⟨⟨b0,b1⟩,b2,b3,b4,b5,b6,b7,b8,b9,b10,b11,b12⟩:=chk_bounds g.chk
 have d:=dn g.chk
 have gk:=gok g.chk
 have hsl:st.length=sn:=rs.ilen
 have hrl:row.length=rn:=rw'.ilen
 refine run124 (some k) sa sn sc ra rn rc _ h (AtP.mk rfl ⟨_,rr.f 0 rfl,?_⟩)
 have w1:IntKind.wrap .i64 (v.mx+1)=C.mx+1:=by rw [hmx];exact w64 (by omega) (by omega)
 rw [w1]
 refine ⟨by omega,Int.le_refl _,by omega,?_⟩
 intro h1 h2
 have fz:Fr h 1 h1 (some ⟨h.size,0,none⟩) (C.mx+1).toNat (C.mx+1).toNat (bools (List.replicate (C.mx+1).toNat false)):=by rw [<- boolsD];exact Fr.zeros _ _ _
 have hs1:h1.size=h.size+1:=by simp [h1]
 refine boxN (zs:=[.slice none 0 0]) (ws:=[.slice (some ⟨h.size,0,none⟩) (C.mx+1).toNat (C.mx+1).toNat]) rfl (by simp [Value.oneCell']) fun h3 e3 b3=>?_
 have f3:=fz.upd e3
 have hnew:∀ {h' h'':Heap} {V:List Bool},Fr h 1 h' (some ⟨h.size,0,none⟩) (C.mx+1).toNat (C.mx+1).toNat (bools V)->Rd h' (some ⟨h1.size,0,none⟩) 1 [.slice (some ⟨h.size,0,none⟩) (C.mx+1).toNat (C.mx+1).toNat]->Upd (atb (some ⟨h.size,0,none⟩)) h' h'' ->
   Rd h'' (some ⟨h1.size,0,none⟩) 1 [.slice (some ⟨h.size,0,none⟩) (C.mx+1).toNat (C.mx+1).toNat]:=fun f b u=>b.upd u fun ad ha ⟨y,hy,e⟩=>by cases ha;cases hy;simp only at e;omega
 have bset:∀ (V:List Bool) (j:Nat) (b:Bool),(bools V).set j (.bool b)=bools (V.set j b):=fun V j b=>by rw [bools,bools,List.map_set]
 refine AtP.mk rfl ⟨_,_,_,(rr.ext f3.ext).f 1 rfl,?_⟩
 refine LoopT.to (n:=v.i.n) (by omega) (fun i h'=>∃ V,V1 C (defs C).2.2 st row V i/\Fr h 1 h' (some ⟨h.size,0,none⟩) (C.mx+1).toNat (C.mx+1).toNat (bools V)/\Rd h' (some ⟨h1.size,0,none⟩) 1 [.slice (some ⟨h.size,0,none⟩) (C.mx+1).toNat (C.mx+1).toNat]) ⟨_,V1.start d,f3,b3⟩ ?_
 rintro i h4 K hi ⟨V,s1,f4,b4⟩ hK
 have r4:=rr.ext f4.ext
 refine ⟨fun hlt=>?_,fun hlt=>?_⟩
 ·refine ⟨_,_,_,by have:=b4.fld 0 rfl;rwa [addr_add0] at this,AtP.mk rfl ⟨_,_,_,r4.f 1 rfl,by omega,hlt,(r4.cis.i).getn (i:=i) (by omega) fun ad hl1 hc=>⟨_,hc,by omega,by omega,(rw'.ext f4.ext).getn (i:=i) (by omega) fun ad2 hl2 hc2=>⟨_,hc2,?_⟩⟩⟩⟩
  obtain ⟨k1,k2,k3,k4⟩:=d.i i _ (List.getElem?_eq_getElem hl1)
  rw [half]
  refine ⟨by omega,by omega,f4.set1 (j:=C.ins[i] / 2) (by omega) (by omega) rfl fun h5 u5 f5=>hK _ (by omega) ⟨_,s1.step d (List.getElem?_eq_getElem hl1) (List.getElem?_eq_getElem hl2),?_,hnew f4 b4 u5⟩⟩
  rw [bset] at f5;exact f5
 have hin:i=C.ins.length:=by omega
 subst hin
 refine AtP.mk rfl ⟨_,_,_,r4.f 2 rfl,?_⟩
 refine LoopT.to (n:=v.l.n) (by omega) (fun i h'=>∃ V,V2 C (defs C).2.2 st row V i/\Fr h 1 h' (some ⟨h.size,0,none⟩) (C.mx+1).toNat (C.mx+1).toNat (bools V)/\Rd h' (some ⟨h1.size,0,none⟩) 1 [.slice (some ⟨h.size,0,none⟩) (C.mx+1).toNat (C.mx+1).toNat]) ⟨_,s1.done d,f4,b4⟩ ?_
 clear s1 f4 b4 hK r4 K V hlt
 rintro i h4 K hi ⟨V,s1,f4,b4⟩ hK
 have r4:=rr.ext f4.ext
 refine ⟨fun hlt=>?_,fun hlt=>?_⟩
 ·refine ⟨_,_,_,by have:=b4.fld 0 rfl;rwa [addr_add0] at this,AtP.mk rfl ⟨_,_,_,r4.f 2 rfl,by omega,hlt,(r4.cis.l).elem L3.csl (by omega) (i:=i) (by omega) fun ad hl1 re=>⟨_,re.fld 0 rfl,by omega,by omega,(rs.ext f4.ext).getn (i:=i) (by omega) fun ad2 hl2 hc2=>⟨_,hc2,?_⟩⟩⟩⟩
  obtain ⟨k1,k2,k3,k4⟩:=d.l i _ (List.getElem?_eq_getElem hl1)
  rw [half]
  refine ⟨by omega,by omega,f4.set1 (j:=C.lats[i].a / 2) (by omega) (by omega) rfl fun h5 u5 f5=>hK _ (by omega) ⟨_,s1.step d (List.getElem?_eq_getElem hl1) (List.getElem?_eq_getElem hl2),?_,hnew f4 b4 u5⟩⟩
  rw [bset] at f5;exact f5
 have hin:i=C.lats.length:=by omega
 subst hin
 obtain ⟨oa,oc,ro,rout⟩:=rr.ex
 have hol:out.length≤C.ands.length:=nodup_len _ _ g.topo.nd g.topo.lt
 refine AtP.mk rfl ⟨_,_,_,(ro.ext f4.ext).fld 11 rfl,?_⟩
 refine LoopT.to (n:=out.length) (by omega) (fun i h'=>∃ V,V3 C (defs C).2.2 st row V out i/\Fr h 1 h' (some ⟨h.size,0,none⟩) (C.mx+1).toNat (C.mx+1).toNat (bools V)/\Rd h' (some ⟨h1.size,0,none⟩) 1 [.slice (some ⟨h.size,0,none⟩) (C.mx+1).toNat (C.mx+1).toNat]) ⟨_,s1.done d out,f4,b4⟩ ?_
 clear s1 f4 b4 hK r4 K V hlt
 rintro i h4 K hi ⟨V,s1,f4,b4⟩ hK
 have r4:=rr.ext f4.ext
 refine ⟨fun hlt=>?_,fun hlt=>?_⟩
 ·have hio:i<out.length:=by omega
  have hog:out[i]<C.ands.length:=g.topo.lt _ (List.getElem_mem hio)
  refine ⟨by omega,hlt,(rout.ext f4.ext).getn (i:=i) (by omega) fun ad hl1 hc=>⟨_,hc,?_⟩⟩
  rw [nI_at hio]
  refine AtP.mk rfl ⟨_,_,_,r4.f 8 rfl,by omega,by omega,(r4.cis.g).elem L3.csl (by omega) (i:=out[i]) (by omega) fun ad2 hl2 re=>⟨_,_,_,re.cells,?_⟩⟩
  have hux:=gk.lits _ (List.getElem_mem hl2)
  have hx:C.ands[out[i]]?=some C.ands[out[i]]:=List.getElem?_eq_getElem hl2
  obtain ⟨k1,k2,k3,k4⟩:=d.g _ _ hx
  generalize C.ands[out[i]]=x at *
  refine boxN (zs:=[.int .i64 0,.int .i64 0,.int .i64 0]) (ws:=L3.cs x) rfl (by simp [Value.oneCell']) fun h5 e5 b5=>?_
  have f5:=f4.upd e5
  have b45:=b4.ext e5
  have hs5:=f5.ext.1
  have hbx:=b45.fld 0 rfl
  have hbx':=hbx
  rw [addr_add0] at hbx'
  have z5:h4.size<h5.size:=cellH_lt (b5.fld 0 rfl) |> fun h=>by rw [add_block] at h;exact h
  have z1:h1.size<h5.size:=cellH_lt hbx'
  have rV:Rd h5 (some ⟨h.size,0,none⟩) (C.mx+1).toNat (bools V):=Rd.one f5.own.rd
  have fin:∀ b:Bool,b=(lit V x.b && lit V x.c)->0≤x.a / ((2 ^ 1:Nat):Int)/\x.a / ((2 ^ 1:Nat):Int)<((C.mx+1).toNat:Nat)/\AtP (some ⟨h.size,0,none⟩) fun ad15=>StoreH h5 (ad15.add (Int.toNat (x.a / ((2 ^ 1:Nat):Int))*1)) [.bool b] fun h17=>K (IntKind.wrap .i64 (i+1)) h17:=fun b hb=>by
   rw [half]
   refine ⟨by omega,by omega,f5.set1 (j:=x.a / 2) (by omega) (by omega) rfl fun h6 u6 f6=>hK _ (by omega) ⟨_,s1.step d g.topo hio hx,?_,hnew f5 b45 u6⟩⟩
   rw [bset,hb] at f6;exact f6
  refine ⟨by simp only;omega,_,_,_,hbx',by rw [add_block];exact z5,_,b5.fld 0 rfl,by rw [add_block];exact z5,_,b5.fld 1 rfl,hok162,use (c162 hbx' rV hux.1.1 (by omega) (by omega)) ⟨_,rfl,fun b hb=>rfl,?_⟩⟩
  cases hb1:lit V x.b with
  | true=>exact ⟨by rw [add_block];exact z5,_,b5.fld 2 rfl,hok162,use (c162 hbx' rV hux.2.1 (by omega) (by omega)) ⟨_,rfl,fun b hb=>rfl,fin _ (by rw [hb1] <;> rfl)⟩⟩
  | false=>exact fin _ (by rw [hb1] <;> rfl)
 ·have hin:i=out.length:=by omega
  subst hin
  have hV:=s1.done d (g.all gk)
  rw [valsOf_eq g (by omega) (by omega) hV]
  refine ⟨_,_,_,by have:=b4.fld 0 rfl;rwa [addr_add0] at this,_,_,rfl,f4⟩
end
end Go.Proofs.YtdpbdjdgdmheiaaGreat
namespace Go.Hx
theorem CallV.clo {P:Program} {g:FuncId} {x c:Value} {h:Heap} {K:Value->Heap->Prop} (hg:callOk P g=true) (hc:CallsH P g #[x,c] h K):CallV P (.func (.func g) #[] #[c]) [x] h K:=⟨hg,hc⟩
def nextL (C:Circ) (V:List Bool):List Bool:=C.lats.map fun x=>lit V x.b
def badF (V:List Bool):List Int->Nat->List Int
 | [],_=>[]
 | x::r,i=>(if lit V x then [(i:Int)] else [])++badF V r (i+1)
def fairF (at_:Int) (V:List Bool):List Int->Nat->List Mk
 | [],_=>[]
 | x::r,i=>(if lit V x then [(at_,(i:Int))] else [])++fairF at_ V r (i+1)
def justF (V:List Bool):List (List Int)->Nat->List Mk
 | [],_=>[]
 | l::r,i=>fairF i V l 0++justF V r (i+1)
structure Mo where
 st:List Bool
 ok:Bool
 bads:List Int
 fair:List Mk
structure MV where
 s:Sl
 ok:Bool
 b:Sl
 f:Sl
def MV.cs (m:MV):List Value:=[.slice m.s.a m.s.n m.s.c,.bool m.ok,.slice m.b.a m.b.n m.b.c,.slice m.f.a m.f.n m.f.c]
def MV.v (m:MV):Value:=.agg m.cs.toArray
theorem MV.one (m:MV):∀ y∈m.cs,y.oneCell'=true:=by simp [MV.cs,Value.oneCell']
theorem MV.csl (m:MV):m.cs.length=4:=rfl
structure MoIs (h:Heap) (m:MV) (M:Mo):Prop where
 s:Rd h m.s.a m.s.n (bools M.st)
 ok:m.ok=M.ok
 b:Rd h m.b.a m.b.n (ints M.bads)
 f:Rd h m.f.a (m.f.n*2) (M.fair.flatMap cs2)
theorem MoIs.ext {h h':Heap} {m:MV} {M:Mo} (r:MoIs h m M) (u:Ext h h'):MoIs h' m M:=⟨r.s.ext u,r.ok,r.b.ext u,r.f.ext u⟩
def Far (h:Heap) (p q:Nat) (P:Heap->Prop):Prop:=∀ (S:Nat->Prop) (h':Heap),Upd S h h'->(∀ b,p≤b->b<q->¬ S b)->P h'
theorem Far.upd {h h1:Heap} {p q:Nat} {P:Heap->Prop} (f:Far h p q P) {S:Nat->Prop} (u:Upd S h h1) (hS:∀ b,p≤b->b<q->¬ S b) (hq:q≤h.size):Far h1 p q P:=fun S' h' u' hS'=>
 f (fun b=>S b∨S' b) h' ((u.mono fun b _ hb=>.inl hb).newer (u'.mono fun b _ hb=>.inr hb) fun b _ hb=>hb) fun b h1 h2 hb=>hb.elim (hS b h1 h2) (hS' b h1 h2)
theorem Far.now {h:Heap} {p q:Nat} {P:Heap->Prop} (f:Far h p q P):P h:=f nob h (.refl h) fun _ _ _ h=>h
structure MB (h0 h:Heap) (b:Addr) (m:MV) (M:Mo):Prop where
 ok:m.ok=M.ok
 mem:Mem h0 h [⟨1,some b,4,4,m.cs⟩,⟨1,m.s.a,m.s.n,m.s.c,bools M.st⟩,⟨1,m.b.a,m.b.n,m.b.c,ints M.bads⟩,⟨2,m.f.a,m.f.n,m.f.c,M.fair.flatMap cs2⟩]
theorem MB.ext {h0 h h':Heap} {b:Addr} {m:MV} {M:Mo} (r:MB h0 h b m M) (u:Ext h h'):MB h0 h' b m M:=⟨r.ok,r.mem.ext' u⟩
theorem MB.fld {h0 h:Heap} {b:Addr} {m:MV} {M:Mo} (r:MB h0 h b m M) (i:Nat) {x:Value} (hx:m.cs[i]?=some x):cellH h (b.add i)=some x:=(r.mem.get 0 rfl).rd.fld i hx
end Go.Hx
namespace Go.Proofs.YtdpbdjdgdmheiaaGreat
open Go.Hx Go.Deep
section
variable {h h0:Heap} {v:CV} {C:Circ} {k:Addr} {out:List Nat} {V:List Bool} {a:Option Addr} {n c:Nat}
end
end Go.Proofs.YtdpbdjdgdmheiaaGreat
namespace Go.Proofs.YtdpbdjdgdmheiaaGreat
open Go.Hx Go.Deep
section
variable {h h0:Heap} {v:CV} {C:Circ} {k:Addr} {out:List Nat} {V:List Bool} {a:Option Addr} {n c:Nat}
noncomputable def moOf (C:Circ) (st V:List Bool):Mo:=⟨st,C.cons.all (lit V),badF V C.bads 0,justF V C.just 0++fairF (-1) V C.fair 0⟩
end
end Go.Proofs.YtdpbdjdgdmheiaaGreat
