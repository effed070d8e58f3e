/- Words and facts that the claim's proof leans on. No condition. -/
import Derived.Test.YtdpbdjdgdmheiaaGreatCR
import Derived.Test.YtdpbdjdgdmheiaaGreatCAd
set_option linter.unusedVariables false
set_option linter.unusedSimpArgs false
namespace Go.Hx
structure RwB where
 a:Option Addr
 n:Nat
 c:Nat
 l:List Bool
def RwB.v (s:RwB):Value:=.slice s.a s.n s.c
structure RdBs (h:Heap) (a:Option Addr) (n:Nat) (L:List (List Bool)):Prop where
 ex:∃ rows:List RwB,Rd h a n (rows.map RwB.v)/\(∀ s∈rows,Rd h s.a s.n (bools s.l)/\s.n≤s.c)/\rows.map RwB.l=L
theorem RdBs.ext {h h':Heap} {a:Option Addr} {n:Nat} {L:List (List Bool)} (r:RdBs h a n L) (u:Ext h h'):RdBs h' a n L:=by
 obtain ⟨rows,h1,h2,h3⟩:=r.ex
 exact ⟨rows,h1.ext u,fun s hs=>⟨(h2 s hs).1.ext u,(h2 s hs).2⟩,h3⟩
theorem RdBs.len {h:Heap} {a:Option Addr} {n:Nat} {L:List (List Bool)} (r:RdBs h a n L):L.length=n:=by
 obtain ⟨rows,h1,h2,rfl⟩:=r.ex
 have:=h1.len
 simpa using this
theorem RdBs.get {h:Heap} {a:Option Addr} {n:Nat} {L:List (List Bool)} (r:RdBs h a n L) {i:Nat} (hi:i<n) {K:Addr->Prop}
  (hK:∀ ad (hl:i<L.length) (s:RwB),cellH h (ad.add (i*1))=.some s.v->Rd h s.a s.n (bools s.l)->s.n≤s.c->s.l=L[i]->s.n=L[i].length->K ad):AtP a K:=by
 obtain ⟨rows,h1,h2,rfl⟩:=r.ex
 refine h1.getn hi fun ad hl hc=>?_
 have hr:=h2 _ (List.getElem_mem hl)
 have e:rows[i].l=(rows.map RwB.l)[i]'(by simpa using hl):=by simp
 refine hK ad (by simpa using hl) rows[i] hc hr.1 hr.2 e ?_
 rw [<- e]
 have:=hr.1.len
 simpa using this.symm
structure Tr where
 init:List Bool
 ins:List (List Bool)
 loop:Int
structure TIs (h:Heap) (v:TV) (T:Tr):Prop where
 i:Rd h v.i.a v.i.n (bools T.init)
 s:RdBs h v.s.a v.s.n T.ins
 lp:v.lp=T.loop
theorem TIs.ext {h h':Heap} {v:TV} {T:Tr} (r:TIs h v T) (u:Ext h h'):TIs h' v T:=⟨r.i.ext u,r.s.ext u,r.lp⟩
structure Tr.Ok (T:Tr):Prop where
 lp:-9223372036854775808≤T.loop/\T.loop≤9223372036854775807
 init:T.init.length≤140737488351232
 ins:T.ins.length≤5864062014634
 rows:∀ r∈T.ins,r.length≤140737488351232
theorem TV.one (v:TV):∀ y∈v.cs,y.oneCell'=true:=by simp [TV.cs,Value.oneCell']
def Tr.zero:Tr:=⟨[],[],0⟩
def itemsT (v:TV) (T:Tr) (rows:List RwB):List Itm:=
 [⟨1,v.i.a,v.i.n,v.i.c,bools T.init⟩,⟨1,v.s.a,v.s.n,v.s.c,rows.map RwB.v⟩]++rows.map fun r=>⟨1,r.a,r.n,r.c,bools r.l⟩
structure TNew (h0 h:Heap) (v:TV) (T:Tr):Prop where
 lp:v.lp=T.loop
 ex:∃ rows,rows.map RwB.l=T.ins/\Mem h0 h (itemsT v T rows)
theorem bools_at {rows:List RwB} {v:TV} {T:Tr} {i:Nat} (hi:i<rows.length):(itemsT v T rows)[2+i]?=some ⟨1,rows[i].a,rows[i].n,rows[i].c,bools rows[i].l⟩:=by
 unfold itemsT
 rw [List.getElem?_append_right (by simp),List.getElem?_map]
 simp only [List.length_cons,List.length_nil]
 rw [show 2+i-(0+1+1)=i by omega,List.getElem?_eq_getElem hi]
 rfl
theorem TNew.upd {h0 h h':Heap} {v:TV} {T:Tr} (c:TNew h0 h v T) {S:Nat->Prop} (u:Upd S h h') (hs:∀ b,h0.size≤b->b<h.size->¬ S b):TIs h' v T:=by
 obtain ⟨rows,hj,m⟩:=c.ex
 have key:∀ {k:Nat} {t:Itm},(itemsT v T rows)[k]?=some t->Rd h' t.a (t.n*t.sz) t.vs:=fun hk=>(m.at' _ hk).own.rd.upd u fun ad ha hS=>
  hs _ ((m.at' _ hk).new ad ha) (m.lt (List.mem_of_getElem? hk) ha) hS
 have one:∀ {a:Option Addr} {n:Nat} {vs:List Value},Rd h' a (n*1) vs->Rd h' a n vs:=fun r=>by rwa [Nat.mul_one] at r
 have hr:∀ r∈rows,Rd h' r.a r.n (bools r.l)/\r.n≤r.c:=fun r hr=>by
  obtain ⟨i,hi,rfl⟩:=List.getElem_of_mem hr
  have:=bools_at (v:=v) (T:=T) hi
  exact ⟨one (key this),(m.at' _ this).own.cap⟩
 exact ⟨one (key (k:=0) rfl),⟨⟨rows,one (key (k:=1) rfl),hr,hj⟩⟩,c.lp⟩
theorem TNew.tis {h0 h:Heap} {v:TV} {T:Tr} (c:TNew h0 h v T):TIs h v T:=c.upd (S:=nob) (.refl h) fun _ _ _ h=>h
theorem TNew.ext {h0 h h':Heap} {v:TV} {T:Tr} (c:TNew h0 h v T) (u:Ext h h'):TNew h0 h' v T:=⟨c.lp,let ⟨rows,hj,m⟩:=c.ex;⟨rows,hj,m.ext' u⟩⟩
theorem TNew.base {h0 h1 h:Heap} {v:TV} {T:Tr} (c:TNew h1 h v T) (u:Ext h0 h1):TNew h0 h v T:=⟨c.lp,let ⟨rows,hj,m⟩:=c.ex;⟨rows,hj,m.base u⟩⟩
theorem TNew.heap {h0 h:Heap} {v:TV} {T:Tr} (c:TNew h0 h v T):Ext h0 h:=let ⟨_,_,m⟩:=c.ex;m.ext
theorem TNew.zero {h0 h:Heap} (u:Ext h0 h):TNew h0 h TV.zero Tr.zero:=by
 refine ⟨rfl,[],rfl,u,fun t ht=>?_,?_⟩
 ·simp only [itemsT,TV.zero,Tr.zero,List.map_nil,List.append_nil,List.mem_cons,List.not_mem_nil,or_false,bools] at ht
  rcases ht with rfl | rfl <;> exact .nil u
 ·have:∀ t∈itemsT TV.zero Tr.zero [],t.a=none:=fun t ht=>by
   simp only [itemsT,TV.zero,Tr.zero,List.map_nil,List.append_nil,List.mem_cons,List.not_mem_nil,or_false,bools] at ht
   rcases ht with rfl | rfl <;> rfl
  exact List.pairwise_of_forall_mem_list fun s hs t ht=>by rw [this s hs];exact Dis.none
end Go.Hx
namespace Go.Proofs.YtdpbdjdgdmheiaaGreat
open Go.Hx Go.Deep
def Fit (C:Circ) (T:Tr):Prop:=T.init.length=C.lats.length/\1≤T.ins.length/\T.ins.length≤512 /\-1≤T.loop/\T.loop<T.ins.length/\∀ r∈T.ins,r.length=C.ins.length
instance (C:Circ) (T:Tr):Decidable (Fit C T):=by unfold Fit;infer_instance
end Go.Proofs.YtdpbdjdgdmheiaaGreat
namespace Go.Proofs.YtdpbdjdgdmheiaaGreat
open Go.Hx Go.Deep
theorem RwB.one {l:List RwB}:∀ y∈l.map RwB.v,y.oneCell'=true:=by intro y hy;obtain ⟨x,_,rfl⟩:=List.mem_map.1 hy;rfl
def Lem0 (C:Circ) (l:List Int):Prop:=∀ x∈l,∃ y∈C.lats,x=y.a∨x=IntKind.wrap .i64 (y.a+1)
instance (C:Circ) (l:List Int):Decidable (Lem0 C l):=by unfold Lem0;infer_instance
theorem c45 {h:Heap} {v:CV} {C:Circ} {a:Option Addr} {n c:Nat} {l:List Int} (r:CIs h v C) (q:Rd h a n (ints l)) (hn:n<9223372036854775807) (hm:C.lats.length<9223372036854775807) :
  CallsH Tryz.prog 45 #[v.v,.slice a n c] h (Xt (.bool (decide (Lem0 C l))) h):=by
 obtain ⟨q1,q2,q3,q4,q5,q6,q7,q8,q9,q10⟩:=r.len
 have ql:=q.ilen
 refine run45 v a n c _ h ?_
 unfold VC45
 intro h1
 have e1:Ext h h1:=Ext.box h _
 have hb:Rd h1 (some ⟨h.size,0,none⟩) 11 v.cs:=boxC v 29
 have r1:=r.ext e1
 have qq:=q.ext e1
 refine LoopT.to (n:=n) hn (fun i h'=>h'=h1/\∀ x∈l.take i,∃ y∈C.lats,x=y.a∨x=IntKind.wrap .i64 (y.a+1)) ⟨rfl,fun r hr=>(by simp at hr)⟩ ?_
 rintro i _ K hi ⟨rfl,hI⟩ hK
 refine ⟨fun hlt=>?_,fun hlt=>⟨?_,e1⟩⟩
 ·have hil:i<l.length:=by omega
  refine LoopT.to2 (n:=v.l.n) (by omega) (fun k (ok:Bool) h'=>h'=h1/\(ok=true↔∃ y∈C.lats.take k,l[i]=y.a∨l[i]=IntKind.wrap .i64 (y.a+1))) ⟨rfl,by simp⟩ ?_
  rintro k ok _ K2 hk ⟨rfl,hJ⟩ hK2
  refine ⟨_,_,_,hb.fld 2 rfl,fun hkl=>?_,fun hkl=>?_⟩
  ·refine ⟨_,_,_,hb.fld 2 rfl,by omega,hkl,r1.l.elem L3.csl (by omega) (i:=k) (by omega) fun ad hl1 re=>⟨_,re.fld 0 rfl,?_⟩⟩
   have step:∀ {P:Prop},(∃ y∈C.lats.take (k+1),l[i]=y.a∨l[i]=IntKind.wrap .i64 (y.a+1))↔((∃ y∈C.lats.take k,l[i]=y.a∨l[i]=IntKind.wrap .i64 (y.a+1))∨(l[i]=C.lats[k].a∨l[i]=IntKind.wrap .i64 (C.lats[k].a+1))):=fun {P}=>by
    rw [List.take_succ_eq_append_getElem hl1]
    constructor
    ·rintro ⟨y,hy,hor⟩
     rcases List.mem_append.1 hy with hy | hy
     ·exact .inl ⟨y,hy,hor⟩
     ·rw [List.mem_singleton] at hy;subst hy;exact .inr hor
    ·rintro (⟨y,hy,hor⟩ | hor)
     ·exact ⟨y,List.mem_append_left _ hy,hor⟩
     ·exact ⟨_,List.mem_append_right _ (List.mem_singleton.2 rfl),hor⟩
   cases ok with
   | true=>exact hK2 _ _ (by omega) ⟨rfl,iff_of_true rfl ((step (P:=True)).2 (.inl (hJ.1 rfl)))⟩
   | false=>
    have hno:¬ ∃ y∈C.lats.take k,l[i]=y.a∨l[i]=IntKind.wrap .i64 (y.a+1):=fun e=>by have:=hJ.2 e;simp at this
    refine ⟨by omega,by omega,qq.getn (i:=i) (by omega) fun ad1 _ hc1=>⟨_,hc1,fun e=>?_,fun e=>⟨by omega,by omega,qq.getn (i:=i) (by omega) fun ad2 _ hc2=>⟨_,hc2,fun e2=>?_,fun e2=>?_⟩⟩⟩⟩
    ·exact hK2 _ _ (by omega) ⟨rfl,iff_of_true rfl ((step (P:=True)).2 (.inr (.inl e)))⟩
    ·exact hK2 _ _ (by omega) ⟨rfl,iff_of_true rfl ((step (P:=True)).2 (.inr (.inr e2)))⟩
    ·refine hK2 _ _ (by omega) ⟨rfl,iff_of_false (by simp) fun h=>?_⟩
     rcases (step (P:=True)).1 h with h | h | h
     ·exact hno h
     ·exact e h
     ·exact e2 h
  ·have hkn:C.lats.take k=C.lats:=List.take_of_length_le (by omega)
   rw [hkn] at hJ
   cases ok with
   | true=>
    refine hK _ (by omega) ⟨rfl,fun x hx=>?_⟩
    rw [List.take_succ_eq_append_getElem hil] at hx
    rcases List.mem_append.1 hx with hx | hx
    ·exact hI x hx
    ·rw [List.mem_singleton] at hx;subst hx;exact hJ.1 rfl
   | false=>
    refine ⟨?_,e1⟩
    rw [decide_eq_false]
    intro f
    have:=hJ.2 (f _ (List.getElem_mem hil))
    simp at this
 ·rw [decide_eq_true]
  intro x hx
  exact hI x (by rwa [List.take_of_length_le (by omega)])
end Go.Proofs.YtdpbdjdgdmheiaaGreat
