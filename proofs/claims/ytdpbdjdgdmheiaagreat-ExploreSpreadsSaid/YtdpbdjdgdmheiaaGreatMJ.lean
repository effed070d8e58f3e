/- Words and facts that the claim's proof leans on. No condition. -/
import Derived.Test.YtdpbdjdgdmheiaaGreatMC
import Derived.Test.YtdpbdjdgdmheiaaGreatMF
import Derived.Test.YtdpbdjdgdmheiaaGreatSE
import Derived.Test.YtdpbdjdgdmheiaaGreatSI
import Derived.Test.YtdpbdjdgdmheiaaGreatFA
set_option linter.unusedVariables false
set_option linter.unusedSimpArgs false
namespace Go.Proofs.YtdpbdjdgdmheiaaGreat
open Go.Hx Go.Deep
section
variable {h0 h:Heap} {k:Addr} {v:CV} {S:Circ} {vf:CV} {ms:Sl} {sv sd nw:Int} {X:List Itm}
theorem Mx.own (m:Mx h0 h k v S vf ms sv sd nw X):Rd h (some ((k.add 0).add 0)) 11 v.cs:=by rw [addr_add0,addr_add0];exact m.rd.take 11 (by omega)
theorem Mx.base {h1:Heap} (m:Mx h0 h k v S vf ms sv sd nw X) (u:Ext h1 h0):Mx h1 h k v S vf ms sv sd nw X:=⟨m.mx,m.mem.base u,m.z⟩
theorem Mx.cis (m:Mx h0 h k v S vf ms sv sd nw X) (ho:S.outs=[]) (hj:S.just=[]) (hf:S.fair=[]) (hs:S.syms=[]) (hm:S.coms=[]):CIs h v S:=by
 obtain ⟨z1,z2,z3,z4,z5⟩:=m.z
 have z:=(CNew.zero (.refl h)).cis
 refine ⟨m.mx,Rd.one (m.mem.get 1 rfl).own.rd,(m.mem.get 2 rfl).own.rd,?_,Rd.one (m.mem.get 3 rfl).own.rd,Rd.one (m.mem.get 4 rfl).own.rd,?_,?_,(m.mem.get 5 rfl).own.rd,?_,?_⟩
 ·rw [z1,ho];exact z.o
 ·rw [z2,hj];exact z.j
 ·rw [z3,hf];exact z.f
 ·rw [z4,hs];exact z.s
 ·rw [z5,hm];exact z.m
end
section
end
theorem CNew.far {h0 h:Heap} {v:CV} {C:Circ} (c:CNew h0 h v C):Far h h0.size h.size fun h'=>CIs h' v C:=by
 intro S h' u hS
 obtain ⟨rows,hj,m⟩:=c.ex
 have key:∀ {i:Nat} {t:Itm},(itemsC v C rows)[i]?=some t->Rd h' t.a (t.n*t.sz) t.vs:=fun hk=>(m.get _ hk).own.rd.upd u fun ad ha hQ=>hS _ ((m.get _ hk).new ad ha) (m.lt (List.mem_of_getElem? hk) ha) hQ
 have hr:∀ r∈rows,Rd h' r.a r.n (ints r.l)/\r.n≤r.c:=fun r hr=>by
  have hm:(⟨1,r.a,r.n,r.c,ints r.l⟩:Itm)∈itemsC v C rows:=List.mem_append_right _ (List.mem_map.2 ⟨r,hr,rfl⟩)
  obtain ⟨i,hi⟩:=List.mem_iff_getElem?.1 hm
  exact ⟨Rd.one (key hi),(m.fr _ hm).own.cap⟩
 exact ⟨c.mx,Rd.one (key (i:=0) rfl),key (i:=1) rfl,Rd.one (key (i:=2) rfl),Rd.one (key (i:=3) rfl),Rd.one (key (i:=4) rfl),⟨rows,Rd.one (key (i:=5) rfl),hr,hj⟩,Rd.one (key (i:=6) rfl),key (i:=7) rfl,key (i:=8) rfl,Rd.one (key (i:=9) rfl)⟩
section
variable {h:Heap} {v:CV} {C:Circ} {j:Int} {w:TV} {T:Tr}
theorem MadeP.ext {h h':Heap} {x:Value} (m:MadeP C j h x h'):Ext h h':=by
 rcases m with ⟨_,_,u⟩ | ⟨_,k,v,vf,ms,nw,_,m,_⟩
 ·exact u
 ·exact m.mem.ext
end
end Go.Proofs.YtdpbdjdgdmheiaaGreat
namespace Go.Hx
theorem MemU.sub {n:Nat} {h0 h:Heap} {U:Nat->Prop} {l l':List Itm} (m:MemU n h0 h U l) (s:l'.Sublist l):MemU n h0 h U l':=⟨m.mem.sub s,m.le,m.lt,fun t ht=>m.off t (s.subset ht)⟩
theorem Fr.over {h0 h:Heap} {ad:Addr} {n:Nat} {vs ws:List Value} (f:Fr h0 1 h (some ad) n n vs) (hl:ws.length≤n) (h1:∀ w∈ws,w.oneCell'=true)
  {K:Heap->Prop} (hK:∀ h',Fr h0 1 h' (some ad) n n (ws++vs.drop ws.length)->Upd (atb (some ad)) h h'->K h'):StoreH h ad ws K:=by
 have hv:=f.own.rd.len
 have:=f.own.write 0 ws (by omega) h1 (K:=K) fun h' u w=>hK h' ⟨w n _ (by simp;omega) (Nat.le_refl _) fun i hi=>by
  by_cases h:i<ws.length
  ·rw [if_pos (by omega),List.getElem?_append_left h,Nat.sub_zero]
  ·rw [if_neg (by omega),List.getElem?_append_right (by omega),List.getElem?_drop,show ws.length+(i-ws.length)=i by omega],f.new,Fr.ext_of f.ext f.new (u.mono fun i _ hi=>⟨ad,rfl,hi⟩)⟩ (u.mono fun i _ hi=>⟨ad,rfl,hi⟩)
 rwa [addr_add0] at this
structure TB (h0 h:Heap) (k:Addr) (v:TV) (T:Tr) (rows:List RwB) (X:List Itm):Prop where
 lp:v.lp=T.loop
 rl:rows.map RwB.l=T.ins
 mem:Mem h0 h (⟨1,some k,3,3,v.cs⟩::(itemsT v T rows++X))
theorem TB.ext {h0 h h':Heap} {k:Addr} {v:TV} {T:Tr} {rows:List RwB} {X:List Itm} (b:TB h0 h k v T rows X) (u:Ext h h'):TB h0 h' k v T rows X:=⟨b.lp,b.rl,b.mem.ext' u⟩
end Go.Hx
namespace Go.Proofs.YtdpbdjdgdmheiaaGreat
open Go.Hx Go.Deep
def ForP (C:Circ) (j:Int) (T:Tr) (h:Heap) (w:Value) (h':Heap):Prop:=Ext h h'/\∃ u:TV,w=.tuple #[u.v,.int .i64 (forE C j T)]/\TIs h' u (forR C j T)/\u.i.n≤u.i.c/\u.s.n≤u.s.c
section
variable {h:Heap} {v:CV} {C:Circ} {j:Int} {w:TV} {T:Tr}
end
end Go.Proofs.YtdpbdjdgdmheiaaGreat
namespace Go.Proofs.YtdpbdjdgdmheiaaGreat
open Go.Hx Go.Deep
def ForN (C:Circ) (j:Int) (T:Tr) (h:Heap) (w:Value) (h':Heap):Prop:=∃ u:TV,w=.tuple #[u.v,.int .i64 (forE C j T)]/\TNew h h' u (forR C j T)
section
variable {h:Heap} {v:CV} {C:Circ} {j:Int} {w:TV} {T:Tr}
theorem ForN.far {h':Heap} {x:Value} (b:ForN C j T h x h'):ForP C j T h x h':=by
 obtain ⟨u,rfl,t⟩:=b
 obtain ⟨lp',rows',hrl',mm'⟩:=t
 exact ⟨mm'.ext,u,rfl,TNew.tis ⟨lp',rows',hrl',mm'⟩,(mm'.get 0 rfl).own.cap,(mm'.get 1 rfl).own.cap⟩
end
end Go.Proofs.YtdpbdjdgdmheiaaGreat
namespace Go.Proofs.YtdpbdjdgdmheiaaGreat
open Go.Hx Go.Deep
def BackP (C:Circ) (j:Int) (U:Tr) (h:Heap) (w:Value) (h':Heap):Prop:=Ext h h'/\∃ u:TV,w=.tuple #[u.v,.int .i64 (backE C j U)]/\Far h' h.size h'.size fun h'=>TIs h' u (backL C j U)
def BackN (C:Circ) (j:Int) (U:Tr) (h:Heap) (w:Value) (h':Heap):Prop:=∃ u:TV,w=.tuple #[u.v,.int .i64 (backE C j U)]/\TNew h h' u (backL C j U)
section
variable {h:Heap} {v:CV} {C:Circ} {j:Int} {w:TV} {U:Tr}
theorem BackN.far {h':Heap} {x:Value} (b:BackN C j U h x h'):BackP C j U h x h':=by
 obtain ⟨u,rfl,t⟩:=b
 exact ⟨t.heap,u,rfl,fun S h'' u' hS=>t.upd u' hS⟩
end
end Go.Proofs.YtdpbdjdgdmheiaaGreat
