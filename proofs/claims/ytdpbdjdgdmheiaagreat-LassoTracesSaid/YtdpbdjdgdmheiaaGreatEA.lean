/- Words and facts that the claim's proof leans on. No condition. -/
import Derived.Test.YtdpbdjdgdmheiaaGreatCR
import Derived.Test.YtdpbdjdgdmheiaaGreatCAd
set_option linter.unusedVariables false
set_option linter.unusedSimpArgs false
namespace Go.Hx
theorem LoopT.to3 {τ ρ:Type} {B:τ×ρ×Int->Heap->(τ×ρ×Int->Heap->Prop)->Prop} {n:Nat} {h:Heap} {s0:τ} {r0:ρ} (hn:n<9223372036854775807) (I:Nat->τ->ρ->Heap->Prop) (h0:I 0 s0 r0 h)
  (hs:∀ (i:Nat) (s:τ) (r:ρ) (h':Heap) (K:τ×ρ×Int->Heap->Prop),i≤n->I i s r h'->(∀ s' r' h'',i<n->I (i+1) s' r' h''->K (s',r',IntKind.wrap .i64 ((i:Int)+1)) h'')->B (s,r,i) h' K):LoopT B (s0,r0,0) h:=by
 refine ⟨fun st h' m=>∃ i:Nat,st.2.2=i/\i≤n/\m=n-i/\I i st.1 st.2.1 h',⟨n,0,rfl,Nat.zero_le _,rfl,h0⟩,?_⟩
 rintro ⟨s,r,t⟩ h' m ⟨i,rfl,hi,rfl,hI⟩
 refine hs i s r h' _ hi hI fun s' r' h'' hlt hI'=>?_
 exact ⟨n-(i+1),by omega,i+1,by show IntKind.wrap .i64 ((i:Int)+1)=_;rw [w64 (by omega) (by omega)];rfl,by omega,rfl,hI'⟩
structure RwB where
 a:Option Addr
 n:Nat
 c:Nat
 l:List Bool
def RwB.v (s:RwB):Value:=.slice s.a s.n s.c
structure RdBs (h:Heap) (a:Option Addr) (n:Nat) (L:List (List Bool)):Prop where
 ex:∃ rows:List RwB,Rd h a n (rows.map RwB.v)/\(∀ s∈rows,Rd h s.a s.n (bools s.l)/\s.n≤s.c)/\rows.map RwB.l=L
theorem RdBs.ext {h h':Heap} {a:Option Addr} {n:Nat} {L:List (List Bool)} (r:RdBs h a n L) (u:Ext h h'):RdBs h' a n L:=by
 obtain ⟨rows,h1,h2,h3⟩:=r.ex
 exact ⟨rows,h1.ext u,fun s hs=>⟨(h2 s hs).1.ext u,(h2 s hs).2⟩,h3⟩
theorem RdBs.len {h:Heap} {a:Option Addr} {n:Nat} {L:List (List Bool)} (r:RdBs h a n L):L.length=n:=by
 obtain ⟨rows,h1,h2,rfl⟩:=r.ex
 have:=h1.len
 simpa using this
theorem RdBs.get {h:Heap} {a:Option Addr} {n:Nat} {L:List (List Bool)} (r:RdBs h a n L) {i:Nat} (hi:i<n) {K:Addr->Prop}
  (hK:∀ ad (hl:i<L.length) (s:RwB),cellH h (ad.add (i*1))=.some s.v->Rd h s.a s.n (bools s.l)->s.n≤s.c->s.l=L[i]->s.n=L[i].length->K ad):AtP a K:=by
 obtain ⟨rows,h1,h2,rfl⟩:=r.ex
 refine h1.getn hi fun ad hl hc=>?_
 have hr:=h2 _ (List.getElem_mem hl)
 have e:rows[i].l=(rows.map RwB.l)[i]'(by simpa using hl):=by simp
 refine hK ad (by simpa using hl) rows[i] hc hr.1 hr.2 e ?_
 rw [<- e]
 have:=hr.1.len
 simpa using this.symm
structure Tr where
 init:List Bool
 ins:List (List Bool)
 loop:Int
structure TIs (h:Heap) (v:TV) (T:Tr):Prop where
 i:Rd h v.i.a v.i.n (bools T.init)
 s:RdBs h v.s.a v.s.n T.ins
 lp:v.lp=T.loop
theorem TIs.ext {h h':Heap} {v:TV} {T:Tr} (r:TIs h v T) (u:Ext h h'):TIs h' v T:=⟨r.i.ext u,r.s.ext u,r.lp⟩
structure Tr.Ok (T:Tr):Prop where
 lp:-9223372036854775808≤T.loop/\T.loop≤9223372036854775807
 init:T.init.length≤140737488351232
 ins:T.ins.length≤5864062014634
 rows:∀ r∈T.ins,r.length≤140737488351232
theorem boxT {h:Heap} (v:TV) (e:TypeId):Rd (h.push (.cells (Value.cells (.agg #[.slice v.i.a v.i.n v.i.c,.slice v.s.a v.s.n v.s.c,.int .i64 v.lp])) e)) (some ⟨h.size,0,none⟩) 3 v.cs:=(Fr.lit (.refl h) v.cs e 3 rfl).rd
theorem TV.one (v:TV):∀ y∈v.cs,y.oneCell'=true:=by simp [TV.cs,Value.oneCell']
def Tr.zero:Tr:=⟨[],[],0⟩
def itemsT (v:TV) (T:Tr) (rows:List RwB):List Itm:=
 [⟨1,v.i.a,v.i.n,v.i.c,bools T.init⟩,⟨1,v.s.a,v.s.n,v.s.c,rows.map RwB.v⟩]++rows.map fun r=>⟨1,r.a,r.n,r.c,bools r.l⟩
structure TNew (h0 h:Heap) (v:TV) (T:Tr):Prop where
 lp:v.lp=T.loop
 ex:∃ rows,rows.map RwB.l=T.ins/\Mem h0 h (itemsT v T rows)
theorem bools_at {rows:List RwB} {v:TV} {T:Tr} {i:Nat} (hi:i<rows.length):(itemsT v T rows)[2+i]?=some ⟨1,rows[i].a,rows[i].n,rows[i].c,bools rows[i].l⟩:=by
 unfold itemsT
 rw [List.getElem?_append_right (by simp),List.getElem?_map]
 simp only [List.length_cons,List.length_nil]
 rw [show 2+i-(0+1+1)=i by omega,List.getElem?_eq_getElem hi]
 rfl
theorem TNew.upd {h0 h h':Heap} {v:TV} {T:Tr} (c:TNew h0 h v T) {S:Nat->Prop} (u:Upd S h h') (hs:∀ b,h0.size≤b->b<h.size->¬ S b):TIs h' v T:=by
 obtain ⟨rows,hj,m⟩:=c.ex
 have key:∀ {k:Nat} {t:Itm},(itemsT v T rows)[k]?=some t->Rd h' t.a (t.n*t.sz) t.vs:=fun hk=>(m.at' _ hk).own.rd.upd u fun ad ha hS=>
  hs _ ((m.at' _ hk).new ad ha) (m.lt (List.mem_of_getElem? hk) ha) hS
 have one:∀ {a:Option Addr} {n:Nat} {vs:List Value},Rd h' a (n*1) vs->Rd h' a n vs:=fun r=>by rwa [Nat.mul_one] at r
 have hr:∀ r∈rows,Rd h' r.a r.n (bools r.l)/\r.n≤r.c:=fun r hr=>by
  obtain ⟨i,hi,rfl⟩:=List.getElem_of_mem hr
  have:=bools_at (v:=v) (T:=T) hi
  exact ⟨one (key this),(m.at' _ this).own.cap⟩
 exact ⟨one (key (k:=0) rfl),⟨⟨rows,one (key (k:=1) rfl),hr,hj⟩⟩,c.lp⟩
theorem TNew.tis {h0 h:Heap} {v:TV} {T:Tr} (c:TNew h0 h v T):TIs h v T:=c.upd (S:=nob) (.refl h) fun _ _ _ h=>h
theorem TNew.ext {h0 h h':Heap} {v:TV} {T:Tr} (c:TNew h0 h v T) (u:Ext h h'):TNew h0 h' v T:=⟨c.lp,let ⟨rows,hj,m⟩:=c.ex;⟨rows,hj,m.ext' u⟩⟩
theorem TNew.base {h0 h1 h:Heap} {v:TV} {T:Tr} (c:TNew h1 h v T) (u:Ext h0 h1):TNew h0 h v T:=⟨c.lp,let ⟨rows,hj,m⟩:=c.ex;⟨rows,hj,m.base u⟩⟩
theorem TNew.heap {h0 h:Heap} {v:TV} {T:Tr} (c:TNew h0 h v T):Ext h0 h:=let ⟨_,_,m⟩:=c.ex;m.ext
theorem TNew.zero {h0 h:Heap} (u:Ext h0 h):TNew h0 h TV.zero Tr.zero:=by
 refine ⟨rfl,[],rfl,u,fun t ht=>?_,?_⟩
 ·simp only [itemsT,TV.zero,Tr.zero,List.map_nil,List.append_nil,List.mem_cons,List.not_mem_nil,or_false,bools] at ht
  rcases ht with rfl | rfl <;> exact .nil u
 ·have:∀ t∈itemsT TV.zero Tr.zero [],t.a=none:=fun t ht=>by
   simp only [itemsT,TV.zero,Tr.zero,List.map_nil,List.append_nil,List.mem_cons,List.not_mem_nil,or_false,bools] at ht
   rcases ht with rfl | rfl <;> rfl
  exact List.pairwise_of_forall_mem_list fun s hs t ht=>by rw [this s hs];exact Dis.none
end Go.Hx
namespace Go.Proofs.YtdpbdjdgdmheiaaGreat
open Go.Hx Go.Deep
theorem c78 {h:Heap} {a:Option Addr} {n c:Nat} {l:List Bool} (r:Rd h a n (bools l)) (hn:n≤140737488355328):CallsH Tryz.prog 78 #[.slice a n c] h fun w h'=>∃ a' c',w=.slice a' n c'/\Fr h 1 h' a' n c' (bools l):=
 run78 a n c _ h (by unfold VC78;exact clone (sz:=1) (K:=fun a' n' c' h'=>∃ a1 c1,Value.slice a' n' c'=.slice a1 n c1/\Fr h 1 h' a1 n c1 (bools l)) (by rwa [Nat.mul_one]) (by omega) bools_one (by omega) fun a' c' h' f=>⟨a',c',rfl,f⟩)
theorem c59 {h:Heap} {a b:Option Addr} {n c m d:Nat} {A B:List Bool} (r:Rd h a n (bools A)) (s:Rd h b m (bools B)) (hn:n<9223372036854775807) :
  CallsH Tryz.prog 59 #[.slice a n c,.slice b m d] h (Ret (.bool (decide (A=B))) h):=by
 have la:=r.ilen
 have lb:=s.ilen
 refine run59 a n c b m d _ h ⟨fun hl=>?_,fun hl=>⟨by rw [decide_eq_false];intro e;subst e;omega,rfl⟩⟩
 refine LoopT.to (n:=n) hn (fun i h'=>h'=h/\∀ j,j<i->A[j]?=B[j]?) ⟨rfl,fun j hj=>by omega⟩ ?_
 rintro i _ K hi ⟨rfl,hI⟩ hK
 refine ⟨fun hlt=>?_,fun hlt=>?_⟩
 ·refine ⟨by omega,hlt,r.getn (by omega) fun ad hl1 hc=>⟨_,hc,by omega,by omega,s.getn (by omega) fun ad2 hl2 hc2=>⟨_,hc2,fun e=>?_,fun e=>?_⟩⟩⟩
  ·refine hK _ (by omega) ⟨rfl,fun j hj=>?_⟩
   by_cases hji:j=i
   ·subst hji;rw [List.getElem?_eq_getElem (show j<A.length from hl1),List.getElem?_eq_getElem (show j<B.length from hl2)];exact congrArg some e
   ·exact hI j (by omega)
  ·refine ⟨?_,rfl⟩
   rw [decide_eq_false]
   intro e2;subst e2;exact e rfl
 ·refine ⟨?_,rfl⟩
  rw [decide_eq_true]
  exact eq_of_at (by omega) fun j hj=>hI j (by omega)
theorem c59t {h:Heap} {a b:Option Addr} {n c m d:Nat} {A:List Bool} (r:Rd h a n (bools A)) (s:Rd h b m (bools A)) (hn:n<9223372036854775807):CallsH Tryz.prog 59 #[.slice a n c,.slice b m d] h (Ret (.bool true) h):=by
 have:=c59 (c:=c) (d:=d) r s hn
 rwa [decide_eq_true rfl] at this
theorem c60 {h0 h:Heap} {a:Option Addr} {n c:Nat} {l:List Bool} (f:Fr h0 1 h a n c (bools l)) (hn:n<9223372036854775807):CallsH Tryz.prog 60 #[.slice a n c] h fun w h'=>w=.tuple #[]/\∃ l',Fr h0 1 h' a n c (bools l')/\Upd (atb a) h h':=by
 refine run60 a n c _ h (LoopT.to (n:=n) hn (fun i h'=>∃ l',Fr h0 1 h' a n c (bools l')/\Upd (atb a) h h') ⟨l,f,.refl _⟩ ?_)
 rintro i h1 K hi ⟨l',f1,u1⟩ hK
 refine ⟨fun hlt=>⟨by omega,hlt,f1.rd.getn (by omega) fun ad hl1 hc=>⟨_,hc,by omega,hlt,f1.set1 (by omega) hlt rfl fun h2 u2 f2=>hK _ (by omega) ⟨l'.set i (!l'[(Int.toNat (i:Nat))]),?_,u1.trans u2⟩⟩⟩,fun hlt=>⟨rfl,l',f1,u1⟩⟩
 have e:(bools l').set (Int.toNat (i:Nat)) (.bool (!l'[(Int.toNat (i:Nat))]))=bools (l'.set i (!l'[(Int.toNat (i:Nat))])):=by rw [bools,bools,List.map_set];rfl
 rw [e] at f2;exact f2
theorem c23 {h:Heap} {v w:TV} {T:Tr} (r:TIs h v T) (s:TIs h w T) (ok:T.init.length<9223372036854775807/\T.ins.length<9223372036854775807/\∀ r∈T.ins,r.length<9223372036854775807):CallsH Tryz.prog 23 #[v.v,w.v] h (Xt (.bool true) h):=by
 have ql:=r.i.ilen
 have qs:=r.s.len
 have ps:=s.s.len
 refine run23 v w _ h ?_
 unfold VC23
 intro h1 h2
 have e1:Ext h h1:=Ext.push _ _
 have e2:Ext h h2:=e1.trans (Ext.push h1 _)
 have hb:Rd h2 (some ⟨h.size,0,none⟩) 3 v.cs:=(boxT v 49).ext (Ext.push h1 _)
 have hw:Rd h2 (some ⟨h1.size,0,none⟩) 3 w.cs:=boxT w 49
 refine ⟨_,hb.fld 2 rfl,_,hw.fld 2 rfl,fun _=>?_,fun e=>absurd (r.lp.trans s.lp.symm) e⟩
 refine ⟨_,_,_,hb.fld 0 rfl,_,_,_,hw.fld 0 rfl,use (c59t (r.i.ext e2) (s.i.ext e2) (by omega)) ⟨true,rfl,BIf.f ⟨_,_,_,hb.fld 1 rfl,_,_,_,hw.fld 1 rfl,fun _=>?_,fun e=>absurd (by omega) e⟩⟩⟩
 refine LoopT.to (n:=v.s.n) (by omega) (fun i h'=>h'=h2) rfl ?_
 rintro i _ K hi rfl hK
 refine ⟨_,_,_,hb.fld 1 rfl,fun hlt=>?_,fun hlt=>⟨rfl,e2⟩⟩
 refine ⟨_,_,_,hb.fld 1 rfl,by omega,hlt,(r.s.ext e2).get (by omega) fun ad hl1 x hc hr _ hx1 hxn=>⟨_,_,_,hc,_,_,_,hw.fld 1 rfl,by omega,by omega,(s.s.ext e2).get (by omega) fun ad2 hl2 y hc2 hr2 _ hy1 hyn=>⟨_,_,_,hc2,?_⟩⟩⟩
 rw [hx1] at hr
 rw [hy1] at hr2
 exact use (c59t hr hr2 (by rw [hxn];exact ok.2.2 _ (List.getElem_mem hl1))) ⟨true,rfl,BIf.f (hK _ (by omega) rfl)⟩
theorem c25 {h0 hq h:Heap} {v:TV} {T:Tr} (cq:TNew h0 hq v T) (uq:Ext hq h) (ok:T.init.length<9223372036854775807/\T.ins.length<9223372036854775807/\∀ r∈T.ins,r.length<9223372036854775807):CallsH Tryz.prog 25 #[v.v] h fun w h'=>w=.tuple #[]/\Upd (fun b=>h0.size≤b/\b<hq.size) h h':=by
 obtain ⟨rows,hrows,mq⟩:=cq.ex
 have m0:=mq.ext' uq
 have hqs:=uq.1
 have ql:=(m0.get 0 rfl).rd.ilen
 have hrl:rows.length=v.s.n:=by have:=(m0.get 1 rfl).rd.ilen;exact this
 have hTl:T.ins.length=v.s.n:=by rw [<- hrows];simpa using hrl
 obtain ⟨S,hS⟩:∃ S:Nat->Prop,S=fun b=>h0.size≤b/\b<hq.size:=⟨_,rfl⟩
 rw [<- hS]
 have hblk:∀ (k:Nat) (t:Itm),(itemsT v T rows)[k]?=some t->∀ ad:Addr,t.a=some ad->S ad.block:=fun k t hk ad ha=>by
  rw [hS];exact ⟨(mq.at' k hk).new ad ha,mq.lt (List.mem_of_getElem? hk) ha⟩
 refine run25 v _ h ?_
 unfold VC25
 intro h1
 have e1:Ext h h1:=Ext.push _ _
 have hb:Rd h1 (some ⟨h.size,0,none⟩) 3 v.cs:=boxT v 49
 have step:∀ {h2 h3:Heap} {a:Option Addr},Upd S h h2->Rd h2 (some ⟨h.size,0,none⟩) 3 v.cs->Upd (atb a) h2 h3->(∀ ad,a=some ad->S ad.block)->Upd S h h3/\Rd h3 (some ⟨h.size,0,none⟩) 3 v.cs:=fun {h2 h3 a} u2 r2 u3 hs=>by
  refine ⟨u2.newer u3 fun b hb ⟨ad,ha,e⟩=>e▸hs ad ha,r2.upd u3 fun ad ha ⟨ad',ha',e⟩=>?_⟩
  cases ha
  have:=hs ad' ha'
  rw [hS] at this
  simp only at e
  omega
 have m1:=m0.ext' e1
 refine ⟨_,_,_,hb.fld 0 rfl,(c60 (m1.get 0 rfl) (by omega)).mono ?_⟩
 rintro _ h2 ⟨rfl,l',f2,u2⟩
 obtain ⟨u2',b2⟩:=step (Upd.wide e1) hb u2 (hblk 0 _ rfl)
 have m2:=m1.setAt 0 (t':=⟨1,v.i.a,v.i.n,v.i.c,bools l'⟩) rfl f2 u2 (.inl rfl)
 refine ⟨rfl,LoopT.to (n:=v.s.n) (by omega) (fun i h'=>Upd S h h'/\Rd h' (some ⟨h.size,0,none⟩) 3 v.cs/\∃ l:List Itm,Mem h0 h' l/\l[1]?=some ⟨1,v.s.a,v.s.n,v.s.c,rows.map RwB.v⟩/\∀ i (hi:i<rows.length),∃ l',l[2+i]?=some ⟨1,rows[i].a,rows[i].n,rows[i].c,bools l'⟩) ⟨u2',b2,_,m2,rfl,fun i hi=>⟨rows[i].l,?_⟩⟩ ?_⟩
 ·rw [List.getElem?_set_ne (by omega)];exact bools_at hi
 rintro i h3 K hi ⟨u3,b3,l,m3,h31,h3r⟩ hK
 refine ⟨_,_,_,b3.fld 1 rfl,fun hlt=>?_,fun hlt=>⟨rfl,u3⟩⟩
 have hir:i<rows.length:=by omega
 have sj:Fr h0 1 h3 v.s.a v.s.n v.s.c (rows.map RwB.v):=m3.get 1 h31
 obtain ⟨li,hli⟩:=h3r i hir
 have hrn:rows[i].n<9223372036854775807:=by
  have:=m0.at' (2+i) (bools_at hir)
  have hlen:=this.rd.ilen
  have:=ok.2.2 rows[i].l (by rw [<- hrows];exact List.mem_map.2 ⟨_,List.getElem_mem hir,rfl⟩)
  simp only at hlen
  omega
 refine ⟨_,_,_,b3.fld 1 rfl,by omega,hlt,sj.rd.getn (by omega) fun ad hl1 hc=>⟨_,_,_,hc,(c60 (m3.get (2+i) hli) hrn).mono ?_⟩⟩
 rintro _ h4 ⟨rfl,l4,f4,u4⟩
 obtain ⟨u4',b4⟩:=step u3 b3 u4 (hblk (2+i) _ (bools_at hir))
 have m4:=m3.setAt (2+i) (t':=⟨1,rows[i].a,rows[i].n,rows[i].c,bools l4⟩) hli f4 u4 (.inl rfl)
 refine ⟨rfl,hK _ (by omega) ⟨u4',b4,_,m4,by rw [List.getElem?_set_ne (by omega)];exact h31,fun j hj=>?_⟩⟩
 by_cases hji:j=i
 ·subst hji;exact ⟨l4,by rw [List.getElem?_set_self (List.getElem?_eq_some_iff.1 hli).1]⟩
 ·obtain ⟨lj,hlj⟩:=h3r j hj
  exact ⟨lj,by rw [List.getElem?_set_ne (by omega)];exact hlj⟩
def Fit (C:Circ) (T:Tr):Prop:=T.init.length=C.lats.length/\1≤T.ins.length/\T.ins.length≤512 /\-1≤T.loop/\T.loop<T.ins.length/\∀ r∈T.ins,r.length=C.ins.length
instance (C:Circ) (T:Tr):Decidable (Fit C T):=by unfold Fit;infer_instance
end Go.Proofs.YtdpbdjdgdmheiaaGreat
namespace Go.Hx
open Go.Deep
section
variable {H:Type} {enc:TypeId×Value->H} {P:Program} {W:World} {base:Nat} {held:Bool} {t e:TypeId}
theorem Opens.brows {q:TypeId} (hu:P.underlying t=some (.slice e)) (he:P.underlying e=some (.slice q)) (hq:P.underlying q=some .bool) (hc:P.cellsOf e=1) (hc2:P.cellsOf q=1) (hb:P.bytesOf e=24) (hb2:P.bytesOf q=1) :
  Opens enc P W base held t (SlL.cs (β:=List Bool)) (fun s=>RdBs W.heap s.a s.n s.l/\s.n≤s.c/\s.n≤5864062014634/\∀ r∈s.l,r.length≤140737488351232):=fun fuel cs x h hw=>by
 obtain ⟨s,rfl,h1,h2,h3,h4,h5⟩:=Opens.slice (g:=SlL.cs (β:=Bool)) hu hc (by omega) (fun _=>rfl) (.bools he hq hc2 hb2) fuel cs x h hw
 rw [flat_map1 (fun s:SlL Bool=>Value.slice s.a s.n s.c),Nat.mul_one] at h1
 rw [hb] at h4
 refine ⟨⟨s.a,s.n,s.c,s.l.map SlL.l⟩,rfl,⟨s.l.map fun r=>⟨r.a,r.n,r.c,r.l⟩,by rw [List.map_map];exact h1,fun r hr=>?_,by rw [List.map_map];rfl⟩,h3,by simp only;omega,fun r hr=>?_⟩
 ·obtain ⟨r',hr',rfl⟩:=List.mem_map.1 hr
  exact ⟨(h5 r' hr').1,(h5 r' hr').2.1⟩
 ·obtain ⟨r',hr',rfl⟩:=List.mem_map.1 hr
  have:=h5 r' hr'
  have h6:=this.1.ilen
  have h7:=this.2.2
  omega
end
end Go.Hx
namespace Go.Proofs.YtdpbdjdgdmheiaaGreat
open Go.Hx Go.Deep
section
variable {H:Type} {enc:TypeId×Value->H} {W:World} {base:Nat} {held:Bool}
end
end Go.Proofs.YtdpbdjdgdmheiaaGreat
namespace Go.Proofs.YtdpbdjdgdmheiaaGreat
open Go.Hx Go.Deep
theorem perm_row {α:Type} (t b i s:α) (rs:List α):(t::b::i::s::rs).Perm (b::i::s::(rs++[t])):=by
 have h1:(t::([b,i,s]++rs)).Perm (([b,i,s]++rs)++[t]):=List.perm_append_comm (l₁:=[t])
 simpa using h1
theorem RwB.one {l:List RwB}:∀ y∈l.map RwB.v,y.oneCell'=true:=by intro y hy;obtain ⟨x,_,rfl⟩:=List.mem_map.1 hy;rfl
theorem c35 {h:Heap} {v:TV} {T:Tr} (r:TIs h v T) (ok:T.Ok):CallsH Tryz.prog 35 #[v.v] h fun w h'=>∃ v',w=TV.v v'/\TNew h h' v' T:=by
 have hil:=ok.init
 have hsl:=ok.ins
 have ql:=r.i.ilen
 have qs:=r.s.len
 refine run35 v _ h ?_
 unfold VC35
 intro h1 h2
 have e2:Ext h h2:=(Ext.push h _).trans (Ext.push h1 _)
 have hs1:h1.size=h.size+1:=by simp [h1]
 have hs2:h2.size=h.size+2:=by simp [h2,hs1]
 have hb:Rd h2 (some ⟨h.size,0,none⟩) 3 v.cs:=(boxT v 49).ext (Ext.push h1 _)
 have fb:Fr h 1 h2 (some ⟨h1.size,0,none⟩) 3 3 TV.zero.cs:=Fr.lit (Ext.push h _) TV.zero.cs 49 3 rfl
 have r2:=r.ext e2
 have blt:∀ k,(Addr.add ⟨h.size,0,none⟩ k).block<h2.size:=fun k=>by rw [add_block];simp only;omega
 have m:=MemU.start (Mem.nil (.refl h2))
 intro U h3 b g hU ho
 have m1:=flt0 (m.grow g) rfl hU ho 1
 refine ⟨blt 0,_,_,_,(hb.ext m1.mem.ext).fld 0 rfl,fun U1 h4 g=>?_⟩
 have m2:=m1.grow g
 refine ⟨bools T.init,(r2.i.ext m2.mem.ext).read,by rw [r2.i.len];omega,app0 (m2.mem.at' 0 rfl) (by rw [r2.i.len];show v.i.n=v.i.n*1;omega) bools_one (by omega) fun a1 c1 h5 f u hor=>?_⟩
 obtain ⟨k,m3⟩:=m2.setAt 0 (t':=⟨1,a1,v.i.n,c1,bools T.init⟩) rfl f u hor
 refine ⟨k,blt 2,_,(hb.ext m3.mem.ext).fld 2 rfl,fun U2 h6 b1 g hU1 ho1 U3 h7 g7=>?_⟩
 have m4:=m3.grow g
 have hb1:=m4.lt b1 hU1
 have m5:=(m4.take hU1 hb1.1 (t:=⟨1,some ⟨b1,0,none⟩,3,3,TV.zero.cs⟩) ⟨Own.row ho1 rfl,(fun ad ha=>by cases ha;exact hb1.1),m4.mem.ext⟩ fun ad ha=>by cases ha;rfl).grow g7
 let v0:TV:=⟨⟨a1,v.i.n,c1⟩,⟨none,0,0⟩,v.lp⟩
 refine (m5.mem.get 0 rfl).put (ws:=v0.cs) rfl (TV.one _) fun h8 f8 u8=>⟨u8.1,?_⟩
 have m6:=m5.mem.setAt 0 (t':=⟨1,some ⟨b1,0,none⟩,3,3,v0.cs⟩) rfl f8 u8 (.inl rfl)
 have m7:Mem h2 h8 [⟨1,some ⟨b1,0,none⟩,3,3,v0.cs⟩,⟨1,a1,v.i.n,c1,bools T.init⟩,⟨1,none,0,0,[]⟩]:=(m6.add (t:=⟨1,none,0,0,[]⟩) (.nil (.refl h8))).perm (List.perm_append_comm (l₁:=[(⟨1,none,0,0,[]⟩:Itm)]) (l₂:=[⟨1,some ⟨b1,0,none⟩,3,3,v0.cs⟩,⟨1,a1,v.i.n,c1,bools T.init⟩]))
 refine LoopT.to (n:=v.s.n) (by omega) (fun i h'=>∃ (v':TV) (rows:List RwB),v'.lp=T.loop/\v'.s.n=i/\rows.map RwB.l=T.ins.take i/\Mem h2 h' (⟨1,some ⟨b1,0,none⟩,3,3,v'.cs⟩::itemsT v' T rows)) ⟨v0,[],r.lp,rfl,rfl,m7⟩ ?_
 rintro i h9 K hi ⟨v',rows,hlp,hsn,hrs,m⟩ hK
 have u9:=m.ext
 have hx9:=hb.ext u9
 refine ⟨_,_,_,hx9.fld 1 rfl,fun hlt=>?_,fun hlt=>?_⟩
 ·have hne:∀ ad,v'.s.a=some ad->ad.block≠b1/\h2.size≤ad.block:=fun ad ha=>by
   refine ⟨fun e=>?_,(m.get 2 rfl).new ad ha⟩
   have:=m.dis
   rw [List.pairwise_cons] at this
   exact this.1 ⟨1,v'.s.a,v'.s.n,v'.s.c,rows.map RwB.v⟩ (by simp [itemsT]) ⟨b1,0,none⟩ ad rfl ha e.symm
  have hb1s:b1<h9.size:=m.lt (List.mem_cons_self ..) (ad:=⟨b1,0,none⟩) rfl
  have hb2:h2.size≤b1:=hb1.1
  refine ⟨Zone.of fun b=>b<h2.size∨b=b1,Zone.has.cell (fun h'' hz=>hz _ (.inr (by rw [add_block]))),_,_,_,(m.get 0 rfl).rd.fld 1 rfl,?_⟩
  intro h10
  have e10:Ext h9 h10:=Ext.push h9 _
  refine ⟨fun b hb=>e10.2 b (by omega) fun x=>x,Zone.has.cell (fun h'' hz=>hz _ (.inl (by rw [add_block];simp only;omega))),_,_,_,(hx9.ext e10).fld 1 rfl,by omega,hlt,r2.s.get (i:=i) (by omega) fun ad hl1 x hc hr hxc hx1 hxn=>?_⟩
  have u10:=u9.trans e10
  refine ⟨Zone.has.cell (fun h'' hz=>hz _ (.inl (cellH_lt hc))),_,_,_,Ext.cell u10 hc,bools x.l,(hr.ext u10).read,by rw [hr.len];omega,?_⟩
  have hxl:x.n≤140737488351232:=by rw [hxn];exact ok.rows _ (List.getElem_mem hl1)
  refine app0n (by rw [hr.len];omega) bools_one (by omega) fun a2 c2 h11 f11=>?_
  have e11:=f11.ext
  refine ⟨fun b hb=>?_,?_⟩
  ·rw [e11.2 b (by omega) fun x=>x,e10.2 b (by omega) fun x=>x]
  have m11:=m.add (t:=⟨1,a2,x.n,c2,bools x.l⟩) f11
  intro h12
  have e12:Ext h11 h12:=Ext.push h11 _
  have hb11:b1<h11.size:=by have:=e11.1;omega
  refine ⟨fun b hb=>e12.2 b (by omega) fun x=>x,?_⟩
  have r1:=(Fr.lit (.refl h11) [Value.slice a2 x.n c2] 46 1 rfl).rd
  have m12:=m11.ext' e12
  have f3:Fr h2 1 h12 v'.s.a v'.s.n v'.s.c (rows.map RwB.v):=m12.at' 3 rfl
  refine ⟨[.slice a2 x.n c2],r1.read,rfl,f3.app rfl (by simp [Value.oneCell']) (by omega) fun a' c' h13 f' u hor=>?_⟩
  refine ⟨fun b hb=>u.2 b (by have:=e12.1;omega) fun ⟨ad,ha,e⟩=>?_,?_⟩
  ·have:=hne ad ha
   omega
  have m13:=m12.setAt 3 (t':=⟨1,a',v'.s.n+1,c',rows.map RwB.v++[Value.slice a2 x.n c2]⟩) rfl f' u hor
  refine (m13.get 1 rfl).cellAt 1 (by omega) rfl fun h14 u14 f14=>hK _ (by omega) ⟨{ v' with s:=⟨a',v'.s.n+1,c'⟩ },rows++[⟨a2,x.n,c2,x.l⟩],hlp,by simp only;omega,?_,?_⟩
  ·rw [List.map_append,hrs,List.take_succ_eq_append_getElem hl1]
   simp only [List.map_cons,List.map_nil,hx1]
  ·have m14:=m13.setAt 1 (t':=⟨1,some ⟨b1,0,none⟩,3,3,_⟩) rfl f14 u14 (.inl rfl)
   simp only [List.set_cons_succ,List.set_cons_zero,itemsT,List.cons_append,List.nil_append] at m14
   have e:rows.map RwB.v++[Value.slice a2 x.n c2]=(rows++[(⟨a2,x.n,c2,x.l⟩:RwB)]).map RwB.v:=by rw [List.map_append];rfl
   rw [e] at m14
   have:=m14.perm (perm_row ..)
   simp only [itemsT,List.map_append,List.map_cons,List.map_nil,List.cons_append,List.nil_append]
   simp only [List.map_append,List.map_cons,List.map_nil] at this
   exact this
 ·have hin:i=v.s.n:=by omega
  subst hin
  refine ⟨_,_,_,_,_,_,_,(m.get 0 rfl).rd.cells,?_⟩
  refine (fb.upd u9).put (ws:=v'.cs) rfl (TV.one _) fun h15 f15 u15=>?_
  refine ⟨_,_,_,_,_,_,_,f15.rd.cells,v',rfl,hlp,rows,?_,?_⟩
  ·rw [hrs,List.take_of_length_le (by omega)]
  ·exact (m.over e2 u15 fun b ⟨ad,ha,e⟩=>by cases ha;simp only at e;omega).sub (List.sublist_cons_self ..)
theorem c144 {h:Heap} {v:CV} {C:Circ} {w:TV} {T:Tr} (r:CIs h v C) (q:TIs h w T):CallsH Tryz.prog 144 #[v.v,w.v] h (Xt (.bool (decide (Fit C T))) h):=by
 obtain ⟨q1,q2,q3,q4,q5,q6,q7,q8,q9,q10⟩:=r.len
 have ql:=q.i.ilen
 have qs:=q.s.len
 have qlp:=q.lp
 refine run144 v w _ h ?_
 unfold VC144
 intro h1 h2
 have e1:Ext h h1:=Ext.box h _
 have e2:Ext h h2:=e1.trans (Ext.push h1 _)
 have hb:Rd h2 (some ⟨h.size,0,none⟩) 11 v.cs:=(boxC v 29).ext (Ext.push h1 _)
 have hw:Rd h2 (some ⟨h1.size,0,none⟩) 3 w.cs:=boxT w 49
 have q2':=q.ext e2
 have no:∀ h',Ext h h'->¬ Fit C T->Xt (.bool (decide (Fit C T))) h (.bool false) h':=fun h' e n=>⟨by rw [decide_eq_false n],e⟩
 refine ⟨_,_,_,hw.fld 1 rfl,_,_,_,hw.fld 0 rfl,_,_,_,hb.fld 2 rfl,fun c1=>?_,fun c1=>no _ e2 fun f=>by have:=f.1;omega⟩
 refine ⟨fun c2=>no _ e2 fun f=>by have:=f.2.1;omega,fun c2=>⟨fun c10003=>no _ e2 fun f=>by have:=f.2.2.1;omega,fun c10003=>⟨_,hw.fld 2 rfl,fun c10004=>no _ e2 fun f=>by have:=f.2.2.2.1;omega,fun c10004=>⟨_,hw.fld 2 rfl,fun c10005=>no _ e2 fun f=>by have:=f.2.2.2.2.1;omega,fun c10005=>?_⟩⟩⟩⟩
 refine LoopT.to (n:=w.s.n) (by omega) (fun i h'=>h'=h2/\∀ r∈T.ins.take i,r.length=C.ins.length) ⟨rfl,fun r hr=>(by simp at hr)⟩ ?_
 rintro i _ K hi ⟨rfl,hI⟩ hK
 refine ⟨fun hlt=>?_,fun hlt=>⟨?_,e2⟩⟩
 ·refine ⟨_,_,_,hw.fld 1 rfl,by omega,hlt,q2'.s.get (i:=i) (by omega) fun ad hl1 x hc hr hxc hx1 hxn=>⟨_,_,_,hc,_,_,_,hb.fld 1 rfl,fun e=>?_,fun e=>no _ e2 fun f=>?_⟩⟩
  ·refine hK _ (by omega) ⟨rfl,fun r hr=>?_⟩
   rw [List.take_succ_eq_append_getElem hl1,List.mem_append] at hr
   rcases hr with hr | hr
   ·exact hI r hr
   ·rw [List.mem_singleton] at hr;subst hr;omega
  ·have:=f.2.2.2.2.2 _ (List.getElem_mem hl1)
   omega
 ·rw [decide_eq_true]
  refine ⟨by omega,by omega,by omega,by omega,by omega,fun r hr=>hI r ?_⟩
  rwa [List.take_of_length_le (by omega)]
def Lem0 (C:Circ) (l:List Int):Prop:=∀ x∈l,∃ y∈C.lats,x=y.a∨x=IntKind.wrap .i64 (y.a+1)
instance (C:Circ) (l:List Int):Decidable (Lem0 C l):=by unfold Lem0;infer_instance
end Go.Proofs.YtdpbdjdgdmheiaaGreat
