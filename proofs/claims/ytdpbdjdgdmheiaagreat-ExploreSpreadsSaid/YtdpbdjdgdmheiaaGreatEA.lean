/- Words and facts that the claim's proof leans on. No condition. -/
import Derived.Test.YtdpbdjdgdmheiaaGreatCR
import Derived.Test.YtdpbdjdgdmheiaaGreatCAd
set_option linter.unusedVariables false
set_option linter.unusedSimpArgs false
namespace Go.Hx
structure RwB where
 a:Option Addr
 n:Nat
 c:Nat
 l:List Bool
def RwB.v (s:RwB):Value:=.slice s.a s.n s.c
structure RdBs (h:Heap) (a:Option Addr) (n:Nat) (L:List (List Bool)):Prop where
 ex:∃ rows:List RwB,Rd h a n (rows.map RwB.v)/\(∀ s∈rows,Rd h s.a s.n (bools s.l)/\s.n≤s.c)/\rows.map RwB.l=L
theorem RdBs.ext {h h':Heap} {a:Option Addr} {n:Nat} {L:List (List Bool)} (r:RdBs h a n L) (u:Ext h h'):RdBs h' a n L:=by
 obtain ⟨rows,h1,h2,h3⟩:=r.ex
 exact ⟨rows,h1.ext u,fun s hs=>⟨(h2 s hs).1.ext u,(h2 s hs).2⟩,h3⟩
theorem RdBs.len {h:Heap} {a:Option Addr} {n:Nat} {L:List (List Bool)} (r:RdBs h a n L):L.length=n:=by
 obtain ⟨rows,h1,h2,rfl⟩:=r.ex
 have:=h1.len
 simpa using this
theorem RdBs.get {h:Heap} {a:Option Addr} {n:Nat} {L:List (List Bool)} (r:RdBs h a n L) {i:Nat} (hi:i<n) {K:Addr->Prop}
  (hK:∀ ad (hl:i<L.length) (s:RwB),cellH h (ad.add (i*1))=.some s.v->Rd h s.a s.n (bools s.l)->s.n≤s.c->s.l=L[i]->s.n=L[i].length->K ad):AtP a K:=by
 obtain ⟨rows,h1,h2,rfl⟩:=r.ex
 refine h1.getn hi fun ad hl hc=>?_
 have hr:=h2 _ (List.getElem_mem hl)
 have e:rows[i].l=(rows.map RwB.l)[i]'(by simpa using hl):=by simp
 refine hK ad (by simpa using hl) rows[i] hc hr.1 hr.2 e ?_
 rw [<- e]
 have:=hr.1.len
 simpa using this.symm
structure Tr where
 init:List Bool
 ins:List (List Bool)
 loop:Int
structure TIs (h:Heap) (v:TV) (T:Tr):Prop where
 i:Rd h v.i.a v.i.n (bools T.init)
 s:RdBs h v.s.a v.s.n T.ins
 lp:v.lp=T.loop
theorem TIs.ext {h h':Heap} {v:TV} {T:Tr} (r:TIs h v T) (u:Ext h h'):TIs h' v T:=⟨r.i.ext u,r.s.ext u,r.lp⟩
structure Tr.Ok (T:Tr):Prop where
 lp:-9223372036854775808≤T.loop/\T.loop≤9223372036854775807
 init:T.init.length≤140737488351232
 ins:T.ins.length≤5864062014634
 rows:∀ r∈T.ins,r.length≤140737488351232
theorem boxT {h:Heap} (v:TV) (e:TypeId):Rd (h.push (.cells (Value.cells (.agg #[.slice v.i.a v.i.n v.i.c,.slice v.s.a v.s.n v.s.c,.int .i64 v.lp])) e)) (some ⟨h.size,0,none⟩) 3 v.cs:=(Fr.lit (.refl h) v.cs e 3 rfl).rd
theorem TV.one (v:TV):∀ y∈v.cs,y.oneCell'=true:=by simp [TV.cs,Value.oneCell']
def Tr.zero:Tr:=⟨[],[],0⟩
def itemsT (v:TV) (T:Tr) (rows:List RwB):List Itm:=
 [⟨1,v.i.a,v.i.n,v.i.c,bools T.init⟩,⟨1,v.s.a,v.s.n,v.s.c,rows.map RwB.v⟩]++rows.map fun r=>⟨1,r.a,r.n,r.c,bools r.l⟩
structure TNew (h0 h:Heap) (v:TV) (T:Tr):Prop where
 lp:v.lp=T.loop
 ex:∃ rows,rows.map RwB.l=T.ins/\Mem h0 h (itemsT v T rows)
theorem bools_at {rows:List RwB} {v:TV} {T:Tr} {i:Nat} (hi:i<rows.length):(itemsT v T rows)[2+i]?=some ⟨1,rows[i].a,rows[i].n,rows[i].c,bools rows[i].l⟩:=by
 unfold itemsT
 rw [List.getElem?_append_right (by simp),List.getElem?_map]
 simp only [List.length_cons,List.length_nil]
 rw [show 2+i-(0+1+1)=i by omega,List.getElem?_eq_getElem hi]
 rfl
theorem TNew.upd {h0 h h':Heap} {v:TV} {T:Tr} (c:TNew h0 h v T) {S:Nat->Prop} (u:Upd S h h') (hs:∀ b,h0.size≤b->b<h.size->¬ S b):TIs h' v T:=by
 obtain ⟨rows,hj,m⟩:=c.ex
 have key:∀ {k:Nat} {t:Itm},(itemsT v T rows)[k]?=some t->Rd h' t.a (t.n*t.sz) t.vs:=fun hk=>(m.at' _ hk).own.rd.upd u fun ad ha hS=>
  hs _ ((m.at' _ hk).new ad ha) (m.lt (List.mem_of_getElem? hk) ha) hS
 have one:∀ {a:Option Addr} {n:Nat} {vs:List Value},Rd h' a (n*1) vs->Rd h' a n vs:=fun r=>by rwa [Nat.mul_one] at r
 have hr:∀ r∈rows,Rd h' r.a r.n (bools r.l)/\r.n≤r.c:=fun r hr=>by
  obtain ⟨i,hi,rfl⟩:=List.getElem_of_mem hr
  have:=bools_at (v:=v) (T:=T) hi
  exact ⟨one (key this),(m.at' _ this).own.cap⟩
 exact ⟨one (key (k:=0) rfl),⟨⟨rows,one (key (k:=1) rfl),hr,hj⟩⟩,c.lp⟩
theorem TNew.tis {h0 h:Heap} {v:TV} {T:Tr} (c:TNew h0 h v T):TIs h v T:=c.upd (S:=nob) (.refl h) fun _ _ _ h=>h
theorem TNew.ext {h0 h h':Heap} {v:TV} {T:Tr} (c:TNew h0 h v T) (u:Ext h h'):TNew h0 h' v T:=⟨c.lp,let ⟨rows,hj,m⟩:=c.ex;⟨rows,hj,m.ext' u⟩⟩
theorem TNew.base {h0 h1 h:Heap} {v:TV} {T:Tr} (c:TNew h1 h v T) (u:Ext h0 h1):TNew h0 h v T:=⟨c.lp,let ⟨rows,hj,m⟩:=c.ex;⟨rows,hj,m.base u⟩⟩
theorem TNew.heap {h0 h:Heap} {v:TV} {T:Tr} (c:TNew h0 h v T):Ext h0 h:=let ⟨_,_,m⟩:=c.ex;m.ext
theorem TNew.zero {h0 h:Heap} (u:Ext h0 h):TNew h0 h TV.zero Tr.zero:=by
 refine ⟨rfl,[],rfl,u,fun t ht=>?_,?_⟩
 ·simp only [itemsT,TV.zero,Tr.zero,List.map_nil,List.append_nil,List.mem_cons,List.not_mem_nil,or_false,bools] at ht
  rcases ht with rfl | rfl <;> exact .nil u
 ·have:∀ t∈itemsT TV.zero Tr.zero [],t.a=none:=fun t ht=>by
   simp only [itemsT,TV.zero,Tr.zero,List.map_nil,List.append_nil,List.mem_cons,List.not_mem_nil,or_false,bools] at ht
   rcases ht with rfl | rfl <;> rfl
  exact List.pairwise_of_forall_mem_list fun s hs t ht=>by rw [this s hs];exact Dis.none
end Go.Hx
namespace Go.Proofs.YtdpbdjdgdmheiaaGreat
open Go.Hx Go.Deep
theorem c59 {h:Heap} {a b:Option Addr} {n c m d:Nat} {A B:List Bool} (r:Rd h a n (bools A)) (s:Rd h b m (bools B)) (hn:n<9223372036854775807) :
  CallsH Tryz.prog 59 #[.slice a n c,.slice b m d] h (Ret (.bool (decide (A=B))) h):=by
 have la:=r.ilen
 have lb:=s.ilen
 refine run59 a n c b m d _ h ⟨fun hl=>?_,fun hl=>⟨by rw [decide_eq_false];intro e;subst e;omega,rfl⟩⟩
 refine LoopT.to (n:=n) hn (fun i h'=>h'=h/\∀ j,j<i->A[j]?=B[j]?) ⟨rfl,fun j hj=>by omega⟩ ?_
 rintro i _ K hi ⟨rfl,hI⟩ hK
 refine ⟨fun hlt=>?_,fun hlt=>?_⟩
 ·refine ⟨by omega,hlt,r.getn (by omega) fun ad hl1 hc=>⟨_,hc,by omega,by omega,s.getn (by omega) fun ad2 hl2 hc2=>⟨_,hc2,fun e=>?_,fun e=>?_⟩⟩⟩
  ·refine hK _ (by omega) ⟨rfl,fun j hj=>?_⟩
   by_cases hji:j=i
   ·subst hji;rw [List.getElem?_eq_getElem (show j<A.length from hl1),List.getElem?_eq_getElem (show j<B.length from hl2)];exact congrArg some e
   ·exact hI j (by omega)
  ·refine ⟨?_,rfl⟩
   rw [decide_eq_false]
   intro e2;subst e2;exact e rfl
 ·refine ⟨?_,rfl⟩
  rw [decide_eq_true]
  exact eq_of_at (by omega) fun j hj=>hI j (by omega)
theorem c59t {h:Heap} {a b:Option Addr} {n c m d:Nat} {A:List Bool} (r:Rd h a n (bools A)) (s:Rd h b m (bools A)) (hn:n<9223372036854775807):CallsH Tryz.prog 59 #[.slice a n c,.slice b m d] h (Ret (.bool true) h):=by
 have:=c59 (c:=c) (d:=d) r s hn
 rwa [decide_eq_true rfl] at this
theorem c60 {h0 h:Heap} {a:Option Addr} {n c:Nat} {l:List Bool} (f:Fr h0 1 h a n c (bools l)) (hn:n<9223372036854775807):CallsH Tryz.prog 60 #[.slice a n c] h fun w h'=>w=.tuple #[]/\∃ l',Fr h0 1 h' a n c (bools l')/\Upd (atb a) h h':=by
 refine run60 a n c _ h (LoopT.to (n:=n) hn (fun i h'=>∃ l',Fr h0 1 h' a n c (bools l')/\Upd (atb a) h h') ⟨l,f,.refl _⟩ ?_)
 rintro i h1 K hi ⟨l',f1,u1⟩ hK
 refine ⟨fun hlt=>⟨by omega,hlt,f1.rd.getn (by omega) fun ad hl1 hc=>⟨_,hc,by omega,hlt,f1.set1 (by omega) hlt rfl fun h2 u2 f2=>hK _ (by omega) ⟨l'.set i (!l'[(Int.toNat (i:Nat))]),?_,u1.trans u2⟩⟩⟩,fun hlt=>⟨rfl,l',f1,u1⟩⟩
 have e:(bools l').set (Int.toNat (i:Nat)) (.bool (!l'[(Int.toNat (i:Nat))]))=bools (l'.set i (!l'[(Int.toNat (i:Nat))])):=by rw [bools,bools,List.map_set];rfl
 rw [e] at f2;exact f2
theorem c23 {h:Heap} {v w:TV} {T:Tr} (r:TIs h v T) (s:TIs h w T) (ok:T.init.length<9223372036854775807/\T.ins.length<9223372036854775807/\∀ r∈T.ins,r.length<9223372036854775807):CallsH Tryz.prog 23 #[v.v,w.v] h (Xt (.bool true) h):=by
 have ql:=r.i.ilen
 have qs:=r.s.len
 have ps:=s.s.len
 refine run23 v w _ h ?_
 unfold VC23
 intro h1 h2
 have e1:Ext h h1:=Ext.push _ _
 have e2:Ext h h2:=e1.trans (Ext.push h1 _)
 have hb:Rd h2 (some ⟨h.size,0,none⟩) 3 v.cs:=(boxT v 49).ext (Ext.push h1 _)
 have hw:Rd h2 (some ⟨h1.size,0,none⟩) 3 w.cs:=boxT w 49
 refine ⟨_,hb.fld 2 rfl,_,hw.fld 2 rfl,fun _=>?_,fun e=>absurd (r.lp.trans s.lp.symm) e⟩
 refine ⟨_,_,_,hb.fld 0 rfl,_,_,_,hw.fld 0 rfl,use (c59t (r.i.ext e2) (s.i.ext e2) (by omega)) ⟨true,rfl,BIf.f ⟨_,_,_,hb.fld 1 rfl,_,_,_,hw.fld 1 rfl,fun _=>?_,fun e=>absurd (by omega) e⟩⟩⟩
 refine LoopT.to (n:=v.s.n) (by omega) (fun i h'=>h'=h2) rfl ?_
 rintro i _ K hi rfl hK
 refine ⟨_,_,_,hb.fld 1 rfl,fun hlt=>?_,fun hlt=>⟨rfl,e2⟩⟩
 refine ⟨_,_,_,hb.fld 1 rfl,by omega,hlt,(r.s.ext e2).get (by omega) fun ad hl1 x hc hr _ hx1 hxn=>⟨_,_,_,hc,_,_,_,hw.fld 1 rfl,by omega,by omega,(s.s.ext e2).get (by omega) fun ad2 hl2 y hc2 hr2 _ hy1 hyn=>⟨_,_,_,hc2,?_⟩⟩⟩
 rw [hx1] at hr
 rw [hy1] at hr2
 exact use (c59t hr hr2 (by rw [hxn];exact ok.2.2 _ (List.getElem_mem hl1))) ⟨true,rfl,BIf.f (hK _ (by omega) rfl)⟩
theorem c25 {h0 hq h:Heap} {v:TV} {T:Tr} (cq:TNew h0 hq v T) (uq:Ext hq h) (ok:T.init.length<9223372036854775807/\T.ins.length<9223372036854775807/\∀ r∈T.ins,r.length<9223372036854775807):CallsH Tryz.prog 25 #[v.v] h fun w h'=>w=.tuple #[]/\Upd (fun b=>h0.size≤b/\b<hq.size) h h':=by
 obtain ⟨rows,hrows,mq⟩:=cq.ex
 have m0:=mq.ext' uq
 have hqs:=uq.1
 have ql:=(m0.get 0 rfl).rd.ilen
 have hrl:rows.length=v.s.n:=by have:=(m0.get 1 rfl).rd.ilen;exact this
 have hTl:T.ins.length=v.s.n:=by rw [<- hrows];simpa using hrl
 obtain ⟨S,hS⟩:∃ S:Nat->Prop,S=fun b=>h0.size≤b/\b<hq.size:=⟨_,rfl⟩
 rw [<- hS]
 have hblk:∀ (k:Nat) (t:Itm),(itemsT v T rows)[k]?=some t->∀ ad:Addr,t.a=some ad->S ad.block:=fun k t hk ad ha=>by
  rw [hS];exact ⟨(mq.at' k hk).new ad ha,mq.lt (List.mem_of_getElem? hk) ha⟩
 refine run25 v _ h ?_
 unfold VC25
 intro h1
 have e1:Ext h h1:=Ext.push _ _
 have hb:Rd h1 (some ⟨h.size,0,none⟩) 3 v.cs:=boxT v 49
 have step:∀ {h2 h3:Heap} {a:Option Addr},Upd S h h2->Rd h2 (some ⟨h.size,0,none⟩) 3 v.cs->Upd (atb a) h2 h3->(∀ ad,a=some ad->S ad.block)->Upd S h h3/\Rd h3 (some ⟨h.size,0,none⟩) 3 v.cs:=fun {h2 h3 a} u2 r2 u3 hs=>by
  refine ⟨u2.newer u3 fun b hb ⟨ad,ha,e⟩=>e▸hs ad ha,r2.upd u3 fun ad ha ⟨ad',ha',e⟩=>?_⟩
  cases ha
  have:=hs ad' ha'
  rw [hS] at this
  simp only at e
  omega
 have m1:=m0.ext' e1
 refine ⟨_,_,_,hb.fld 0 rfl,(c60 (m1.get 0 rfl) (by omega)).mono ?_⟩
 rintro _ h2 ⟨rfl,l',f2,u2⟩
 obtain ⟨u2',b2⟩:=step (Upd.wide e1) hb u2 (hblk 0 _ rfl)
 have m2:=m1.setAt 0 (t':=⟨1,v.i.a,v.i.n,v.i.c,bools l'⟩) rfl f2 u2 (.inl rfl)
 refine ⟨rfl,LoopT.to (n:=v.s.n) (by omega) (fun i h'=>Upd S h h'/\Rd h' (some ⟨h.size,0,none⟩) 3 v.cs/\∃ l:List Itm,Mem h0 h' l/\l[1]?=some ⟨1,v.s.a,v.s.n,v.s.c,rows.map RwB.v⟩/\∀ i (hi:i<rows.length),∃ l',l[2+i]?=some ⟨1,rows[i].a,rows[i].n,rows[i].c,bools l'⟩) ⟨u2',b2,_,m2,rfl,fun i hi=>⟨rows[i].l,?_⟩⟩ ?_⟩
 ·rw [List.getElem?_set_ne (by omega)];exact bools_at hi
 rintro i h3 K hi ⟨u3,b3,l,m3,h31,h3r⟩ hK
 refine ⟨_,_,_,b3.fld 1 rfl,fun hlt=>?_,fun hlt=>⟨rfl,u3⟩⟩
 have hir:i<rows.length:=by omega
 have sj:Fr h0 1 h3 v.s.a v.s.n v.s.c (rows.map RwB.v):=m3.get 1 h31
 obtain ⟨li,hli⟩:=h3r i hir
 have hrn:rows[i].n<9223372036854775807:=by
  have:=m0.at' (2+i) (bools_at hir)
  have hlen:=this.rd.ilen
  have:=ok.2.2 rows[i].l (by rw [<- hrows];exact List.mem_map.2 ⟨_,List.getElem_mem hir,rfl⟩)
  simp only at hlen
  omega
 refine ⟨_,_,_,b3.fld 1 rfl,by omega,hlt,sj.rd.getn (by omega) fun ad hl1 hc=>⟨_,_,_,hc,(c60 (m3.get (2+i) hli) hrn).mono ?_⟩⟩
 rintro _ h4 ⟨rfl,l4,f4,u4⟩
 obtain ⟨u4',b4⟩:=step u3 b3 u4 (hblk (2+i) _ (bools_at hir))
 have m4:=m3.setAt (2+i) (t':=⟨1,rows[i].a,rows[i].n,rows[i].c,bools l4⟩) hli f4 u4 (.inl rfl)
 refine ⟨rfl,hK _ (by omega) ⟨u4',b4,_,m4,by rw [List.getElem?_set_ne (by omega)];exact h31,fun j hj=>?_⟩⟩
 by_cases hji:j=i
 ·subst hji;exact ⟨l4,by rw [List.getElem?_set_self (List.getElem?_eq_some_iff.1 hli).1]⟩
 ·obtain ⟨lj,hlj⟩:=h3r j hj
  exact ⟨lj,by rw [List.getElem?_set_ne (by omega)];exact hlj⟩
def Fit (C:Circ) (T:Tr):Prop:=T.init.length=C.lats.length/\1≤T.ins.length/\T.ins.length≤512 /\-1≤T.loop/\T.loop<T.ins.length/\∀ r∈T.ins,r.length=C.ins.length
instance (C:Circ) (T:Tr):Decidable (Fit C T):=by unfold Fit;infer_instance
end Go.Proofs.YtdpbdjdgdmheiaaGreat
namespace Go.Proofs.YtdpbdjdgdmheiaaGreat
open Go.Hx Go.Deep
theorem RwB.one {l:List RwB}:∀ y∈l.map RwB.v,y.oneCell'=true:=by intro y hy;obtain ⟨x,_,rfl⟩:=List.mem_map.1 hy;rfl
def Lem0 (C:Circ) (l:List Int):Prop:=∀ x∈l,∃ y∈C.lats,x=y.a∨x=IntKind.wrap .i64 (y.a+1)
instance (C:Circ) (l:List Int):Decidable (Lem0 C l):=by unfold Lem0;infer_instance
end Go.Proofs.YtdpbdjdgdmheiaaGreat
