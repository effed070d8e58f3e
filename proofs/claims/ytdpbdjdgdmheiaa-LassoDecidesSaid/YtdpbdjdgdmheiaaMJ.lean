/- Words and facts that the claim's proof leans on. No condition. -/
import Derived.Test.YtdpbdjdgdmheiaaMC
import Derived.Test.YtdpbdjdgdmheiaaMF
import Derived.Test.YtdpbdjdgdmheiaaSE
import Derived.Test.YtdpbdjdgdmheiaaSI
import Derived.Test.YtdpbdjdgdmheiaaFA
set_option linter.unusedVariables false
set_option linter.unusedSimpArgs false
namespace Go.Proofs.Ytdpbdjdgdmheiaa
open Go.Hx Go.Deep
section
variable {h0 h:Heap} {k:Addr} {v:CV} {S:Circ} {vf:CV} {ms:Sl} {sv sd nw:Int} {X:List Itm}
theorem Mx.own (m:Mx h0 h k v S vf ms sv sd nw X):Rd h (some ((k.add 0).add 0)) 11 v.cs:=by rw [addr_add0,addr_add0];exact m.rd.take 11 (by omega)
theorem Mx.base {h1:Heap} (m:Mx h0 h k v S vf ms sv sd nw X) (u:Ext h1 h0):Mx h1 h k v S vf ms sv sd nw X:=⟨m.mx,m.mem.base u,m.z⟩
theorem Mx.cis (m:Mx h0 h k v S vf ms sv sd nw X) (ho:S.outs=[]) (hj:S.just=[]) (hf:S.fair=[]) (hs:S.syms=[]) (hm:S.coms=[]):CIs h v S:=by
 obtain ⟨z1,z2,z3,z4,z5⟩:=m.z
 have z:=(CNew.zero (.refl h)).cis
 refine ⟨m.mx,Rd.one (m.mem.get 1 rfl).own.rd,(m.mem.get 2 rfl).own.rd,?_,Rd.one (m.mem.get 3 rfl).own.rd,Rd.one (m.mem.get 4 rfl).own.rd,?_,?_,(m.mem.get 5 rfl).own.rd,?_,?_⟩
 ·rw [z1,ho];exact z.o
 ·rw [z2,hj];exact z.j
 ·rw [z3,hf];exact z.f
 ·rw [z4,hs];exact z.s
 ·rw [z5,hm];exact z.m
end
theorem Mx.cisF {h0 h:Heap} {k:Addr} {v:CV} {S:Circ} {vf:CV} {ms:Sl} {sv sd nw:Int} {X:List Itm} (m:Mx h0 h k v S vf ms sv sd nw X) (ho:S.outs=[]) (hj:S.just=[]) (hf:S.fair=[]) (hs:S.syms=[]) (hm:S.coms=[]) {p:Nat} (hp:p≤h0.size):Far h p h.size fun h'=>CIs h' v S:=by
 intro Q h' u hQ
 obtain ⟨z1,z2,z3,z4,z5⟩:=m.z
 have z:=(CNew.zero (.refl h')).cis
 have key:∀ {i:Nat} {t:Itm},(⟨1,some k,26,26,v.cs++(vf.cs++[.slice ms.a ms.n ms.c,.int .i64 sv,.int .i64 sd,.int .i64 nw])⟩::⟨1,v.i.a,v.i.n,v.i.c,ints S.ins⟩::⟨3,v.l.a,v.l.n,v.l.c,S.lats.flatMap L3.cs⟩::⟨1,v.b.a,v.b.n,v.b.c,ints S.bads⟩::⟨1,v.c.a,v.c.n,v.c.c,ints S.cons⟩::⟨3,v.g.a,v.g.n,v.g.c,S.ands.flatMap L3.cs⟩::X:List Itm)[i]?=some t->Rd h' t.a (t.n*t.sz) t.vs:=fun hk=>(m.mem.get _ hk).own.rd.upd u fun ad ha hS=>
  hQ _ (Nat.le_trans hp ((m.mem.get _ hk).new ad ha)) (m.mem.lt (List.mem_of_getElem? hk) ha) hS
 refine ⟨m.mx,Rd.one (key (i:=1) rfl),key (i:=2) rfl,?_,Rd.one (key (i:=3) rfl),Rd.one (key (i:=4) rfl),?_,?_,key (i:=5) rfl,?_,?_⟩
 ·rw [z1,ho];exact z.o
 ·rw [z2,hj];exact z.j
 ·rw [z3,hf];exact z.f
 ·rw [z4,hs];exact z.s
 ·rw [z5,hm];exact z.m
theorem _root_.Go.Hx.Far.self {h:Heap} {p q:Nat} {P:Heap->Prop} (f:Far h p q P):P h:=f nob h (.refl h) fun _ _ _ h=>h
noncomputable def safeC (C:Circ) (j:Int):Circ:=if lsE C j=0 then lassoX C (mustOf C j) else Circ.zero
theorem safeC_0 {C:Circ} {j:Int} (h:lsE C j=0):safeC C j=lassoX C (mustOf C j):=if_pos h
theorem safeC_ne {C:Circ} {j:Int} (h:lsE C j≠0):safeC C j=Circ.zero:=if_neg h
theorem lsX_nil {C:Circ} {j:Int} (hE:lsE C j=0):(lassoX C (mustOf C j)).outs=[]/\(lassoX C (mustOf C j)).just=[]/\(lassoX C (mustOf C j)).fair=[]/\(lassoX C (mustOf C j)).syms=[]/\(lassoX C (mustOf C j)).coms=[]:=by
 obtain ⟨hc,⟨h0,h1⟩,_⟩:=lsE_ok hE
 obtain ⟨G,NL,a⟩:=lasso_some hc (must_ok hc h0 h1)
 exact ⟨a.like.outs,a.like.just,a.like.fair,a.like.syms,a.like.coms⟩
def SafeP (C:Circ) (j:Int) (h:Heap) (w:Value) (h':Heap):Prop:=Ext h h'/\∃ v':CV,w=.tuple #[v'.v,.int .i64 (lsE C j)]/\Far h' h.size h'.size fun h'=>CIs h' v' (safeC C j)
section
variable {h:Heap} {v:CV} {C:Circ} {j:Int} {w:TV} {T:Tr}
theorem MadeP.ext {h h':Heap} {x:Value} (m:MadeP C j h x h'):Ext h h':=by
 rcases m with ⟨_,_,u⟩ | ⟨_,k,v,vf,ms,nw,_,m,_⟩
 ·exact u
 ·exact m.mem.ext
set_option maxRecDepth 4000 in
theorem c24 (r:CIs h v C) (ok:C.Ok):CallsH Try.prog 24 #[v.v,.int .i64 j] h (SafeP C j h):=by
 refine run24 v j _ h ?_
 unfold VC24
 intro h1 h2
 have e1:Ext h h1:=Ext.box h _
 have e2:Ext h h2:=e1.trans (Ext.push h1 _)
 have hb:Rd h2 (some ⟨h.size,0,none⟩) 11 v.cs:=(boxC v 29).ext (Ext.push h1 _)
 have fb:Fr h1 1 h2 (some ⟨h1.size,0,none⟩) 11 11 CV.zero.cs:=Fr.lit (.refl h1) CV.zero.cs 29 11 rfl
 have mm:Mem h1 h2 [⟨1,some ⟨h1.size,0,none⟩,11,11,CV.zero.cs⟩]:=(Mem.nil (.refl h1)).add fb
 refine ldC hb ((c48 (r.ext e2) ok j).mono ?_)
 rintro x h3 (⟨hne,rfl,u⟩ | ⟨hz,k,v',vf,ms,nw,rfl,m,rf⟩)
 ·refine ⟨_,_,rfl,fun he=>absurd he hne,fun _=>?_⟩
  refine (fb.upd u).put (ws:=CV.zero.cs) rfl (CV.one _) fun h4 f4 u4=>ldC f4.rd ⟨e1.trans f4.ext,CV.zero,rfl,?_⟩
  rw [safeC_ne hne]
  exact fun S h' u hS=>(CNew.zero (.refl _)).cis
 ·refine ⟨_,_,rfl,fun _=>AtP.mk rfl ?_,fun he=>absurd rfl he⟩
  have mb:Mx h1 h3 k v' (lassoX C (mustOf C j)) vf ms (lsSave C) (lsSaved C) nw [⟨1,some ⟨h1.size,0,none⟩,11,11,CV.zero.cs⟩]:=⟨m.mx,mm.app m.mem,m.z⟩
  refine ldC m.own ((mb.x 0 rfl).put (ws:=v'.cs) rfl (CV.one _) fun h4 f4 u4=>?_)
  have m4:=(mb.setX 0 (t':=⟨1,some ⟨h1.size,0,none⟩,11,11,v'.cs⟩) rfl f4 u4 (.inl rfl)).dropX (X:=[])
  obtain ⟨o1,o2,o3,o4,o5⟩:=lsX_nil hz
  refine ldC f4.rd ⟨e1.trans f4.ext,v',by rw [hz] <;> rfl,?_⟩
  rw [safeC_0 hz]
  exact m4.cisF o1 o2 o3 o4 o5 e1.1
theorem c77 {ad:Addr} {ni:Int} {a:Option Addr} {n c:Nat} (hb:cellH h ad=some (.int .i64 ni)):CallsH Try.prog 77 #[.slice a n c,.pointer (some ad)] h (Ret (.bool (decide ((n:Int)≠ni))) h):=
 run77 a n c (some ad) _ h (AtP.mk rfl ⟨ni,hb,fun he=>⟨by rw [decide_eq_false (by omega)],rfl⟩,fun hne=>⟨by rw [decide_eq_true hne],rfl⟩⟩)
theorem hok77:callOk Try.prog 77=true:=by kernel_rfl
theorem c107 {ad:Addr} {ni:Int} {a:Option Addr} {n c:Nat} {L:List (List Bool)} (hb:cellH h ad=some (.int .i64 ni)) (r:RdBs h a n L) (hn:n<9223372036854775807) :
  CallsH Try.prog 107 #[.slice a n c,.func (.func 77) #[] #[.pointer (some ad)]] h fun w h'=>h'=h/\∃ z:Int,w=.int .i64 z/\(0≤z↔∃ r∈L,(r.length:Int)≠ni):=by
 have hl:=r.len
 refine run107 a n c _ _ h (LoopT.to (n:=n) hn (fun i h'=>h'=h/\∀ r∈L.take i,(r.length:Int)=ni) ⟨rfl,by simp⟩ ?_)
 rintro i h1 K hi ⟨hh,hI⟩ hK
 subst hh
 refine ⟨fun hlt=>⟨by omega,hlt,r.get (i:=i) (by omega) fun ad2 hl1 s hc hr _ hs hsn=>⟨_,_,_,hc,CallV.clo hok77 (use (c77 hb) ⟨_,rfl,?_⟩)⟩⟩,fun hlt=>?_⟩
 ·by_cases he:((s.n:Nat):Int)=ni
  ·rw [decide_eq_false (by simpa using he)]
   refine BIf.f (hK _ (by omega) ⟨rfl,fun r hr=>?_⟩)
   rw [List.take_succ_eq_append_getElem hl1,List.mem_append,List.mem_singleton] at hr
   rcases hr with hr | rfl
   ·exact hI r hr
   ·omega
  ·rw [decide_eq_true he]
   exact BIf.t ⟨rfl,_,rfl,fun _=>⟨_,List.getElem_mem hl1,by omega⟩,fun _=>by omega⟩
 ·rw [List.take_of_length_le (by omega)] at hI
  exact ⟨rfl,_,rfl,fun h=>absurd h (by omega),fun ⟨r,hr,hne⟩=>absurd (hI r hr) hne⟩
theorem c76 {ad:Addr} {ni:Int} {a:Option Addr} {n c:Nat} {L:List (List Bool)} (hb:cellH h ad=some (.int .i64 ni)) (r:RdBs h a n L) (hn:n<9223372036854775807) :
  CallsH Try.prog 76 #[.slice a n c,.func (.func 77) #[] #[.pointer (some ad)]] h fun w h'=>h'=h/\∃ b:Bool,w=.bool b/\(b=true↔∃ r∈L,(r.length:Int)≠ni):=by
 refine run76 a n c _ _ h ((c107 (c:=c) hb r hn).mono ?_)
 rintro _ _ ⟨rfl,z,rfl,hz⟩
 refine ⟨z,rfl,fun h0=>⟨rfl,true,rfl,iff_of_true rfl (hz.1 h0)⟩,fun h0=>⟨rfl,false,rfl,iff_of_false (by simp) fun hh=>h0 (hz.2 hh)⟩⟩
theorem c49 (q:TIs h w T) {nl ni most:Nat} (hn:T.ins.length<9223372036854775807):CallsH Try.prog 49 #[w.v,.int .i64 (nl:Int),.int .i64 (ni:Int),.int .i64 (most:Int)] h (Xt (.bool (decide (FitN T nl ni most))) h):=by
 have ql:=q.i.ilen
 have qs:=q.s.len
 refine run49 w nl ni most _ h ?_
 unfold VC49
 intro h1 h2
 have e1:Ext h h1:=Ext.push h _
 have e2:Ext h h2:=e1.trans (Ext.push h1 _)
 have hw:Rd h2 (some ⟨h.size,0,none⟩) 3 w.cs:=(boxT w 53).ext (Ext.push h1 _)
 have hi:cellH h2 ⟨h1.size,0,none⟩=some (.int .i64 (ni:Int)):=by
  have:=(Fr.lit (.refl h1) [Value.int .i64 (ni:Int)] 3 1 rfl).rd.fld 0 rfl
  rwa [addr_add0] at this
 have no:¬ FitN T nl ni most->Xt (.bool (decide (FitN T nl ni most))) h (.bool false) h2:=fun hn=>⟨by rw [decide_eq_false hn],e2⟩
 refine ⟨_,_,_,hw.fld 0 rfl,fun h3=>⟨_,_,_,hw.fld 1 rfl,fun h4=>no fun hf=>by have:=hf.2.1;omega,fun h4=>⟨_,_,_,hw.fld 1 rfl,fun h5=>no fun hf=>by have:=hf.2.2.1;omega,fun h5=>⟨_,_,_,hw.fld 1 rfl,?_⟩⟩⟩,fun h3=>no fun hf=>by have:=hf.1;omega⟩
 refine (c76 hi (q.s.ext e2) (by omega)).mono ?_
 rintro _ _ ⟨rfl,b,rfl,hb⟩
 refine ⟨b,rfl,?_,e2⟩
 congr 1
 cases b with
 | false=>
  rw [Bool.not_false,decide_eq_true]
  refine ⟨by omega,by omega,by omega,fun r hr=>?_⟩
  by_cases he:(r.length:Int)=ni
  ·omega
  ·exact absurd (hb.2 ⟨r,hr,he⟩) (by simp)
 | true=>
  rw [Bool.not_true,decide_eq_false]
  intro hf
  obtain ⟨r,hr,hne⟩:=hb.1 rfl
  have:=hf.2.2.2 r hr
  omega
theorem c50 {a:Option Addr} {n c:Nat} {vs:List Value} (r:Rd h a n vs) (h1:∀ y∈vs,y.oneCell'=true) (hn:n≤1000000):CallsH Try.prog 50 #[.slice a n c] h fun w h'=>∃ a' c',w=.slice a' n c'/\Fr h 1 h' a' n c' vs:=
 run50 a n c _ h (by unfold VC50;exact clone (sz:=1) (K:=fun a' n' c' h'=>∃ a1 c1,Value.slice a' n' c'=.slice a1 n c1/\Fr h 1 h' a1 n c1 vs) (by rwa [Nat.mul_one]) (by omega) h1 (by omega) fun a' c' h' f=>⟨a',c',rfl,f⟩)
end
end Go.Proofs.Ytdpbdjdgdmheiaa
namespace Go.Hx
theorem Zone.cl_le {l:List Addr} {n:Nat} (h:∀ x∈l,x.block<n):Zone.Le n (Zone.cl l):=fun h1 h2 u x hx=>by unfold cellH;rw [u _ (h x hx)]
theorem Zone.old_hasL {n:Nat} {h:Heap} {x:Addr} (hx:x.block<n):Zone.hasL (.old n) h x:=fun h' u=>by unfold cellH;rw [u _ hx]
theorem MemU.sub {n:Nat} {h0 h:Heap} {U:Nat->Prop} {l l':List Itm} (m:MemU n h0 h U l) (s:l'.Sublist l):MemU n h0 h U l':=⟨m.mem.sub s,m.le,m.lt,fun t ht=>m.off t (s.subset ht)⟩
theorem Fr.over {h0 h:Heap} {ad:Addr} {n:Nat} {vs ws:List Value} (f:Fr h0 1 h (some ad) n n vs) (hl:ws.length≤n) (h1:∀ w∈ws,w.oneCell'=true)
  {K:Heap->Prop} (hK:∀ h',Fr h0 1 h' (some ad) n n (ws++vs.drop ws.length)->Upd (atb (some ad)) h h'->K h'):StoreH h ad ws K:=by
 have hv:=f.own.rd.len
 have:=f.own.write 0 ws (by omega) h1 (K:=K) fun h' u w=>hK h' ⟨w n _ (by simp;omega) (Nat.le_refl _) fun i hi=>by
  by_cases h:i<ws.length
  ·rw [if_pos (by omega),List.getElem?_append_left h,Nat.sub_zero]
  ·rw [if_neg (by omega),List.getElem?_append_right (by omega),List.getElem?_drop,show ws.length+(i-ws.length)=i by omega],f.new,Fr.ext_of f.ext f.new (u.mono fun i _ hi=>⟨ad,rfl,hi⟩)⟩ (u.mono fun i _ hi=>⟨ad,rfl,hi⟩)
 rwa [addr_add0] at this
structure TB (h0 h:Heap) (k:Addr) (v:TV) (T:Tr) (rows:List RwB) (X:List Itm):Prop where
 lp:v.lp=T.loop
 rl:rows.map RwB.l=T.ins
 mem:Mem h0 h (⟨1,some k,3,3,v.cs⟩::(itemsT v T rows++X))
theorem TB.tnew {h0 h:Heap} {k:Addr} {v:TV} {T:Tr} {rows:List RwB} {X:List Itm} (b:TB h0 h k v T rows X):TNew h0 h v T:=⟨b.lp,rows,b.rl,b.mem.sub (.cons _ (List.sublist_append_left _ _))⟩
theorem TB.ext {h0 h h':Heap} {k:Addr} {v:TV} {T:Tr} {rows:List RwB} {X:List Itm} (b:TB h0 h k v T rows X) (u:Ext h h'):TB h0 h' k v T rows X:=⟨b.lp,b.rl,b.mem.ext' u⟩
end Go.Hx
namespace Go.Proofs.Ytdpbdjdgdmheiaa
open Go.Hx Go.Deep
def ForP (C:Circ) (j:Int) (T:Tr) (h:Heap) (w:Value) (h':Heap):Prop:=Ext h h'/\∃ u:TV,w=.tuple #[u.v,.int .i64 (forE C j T)]/\TIs h' u (forR C j T)/\u.i.n≤u.i.c/\u.s.n≤u.s.c
section
variable {h:Heap} {v:CV} {C:Circ} {j:Int} {w:TV} {T:Tr}
theorem forE_ne {e:Int} (he:forE C j T=e) (hne:e≠0):forR C j T=Tr.zero:=by unfold forR;rw [if_neg (by rw [he];exact hne)]
theorem hasL1 {x:Addr} {l:List Addr} {h:Heap} (hx:x∈l):Zone.hasL (Zone.cl l) h x:=Zone.cl_has hx
theorem for_step {h9 h22:Heap} {kb kt:Addr} {u:TV} {R:Tr} {rows:List RwB} {X:List Itm} {lp:Int} (b:TB h9 h22 kb u R rows X) (ht:cellH h9 (kt.add 2)=some (.int .i64 lp)) {ra:Option Addr} {rn rc:Nat} {l:List Bool} (hr:Rd h22 ra rn (bools l))
  (hrn:rn≤100000) (hn:u.s.n≤100000) {i:Int} {K:Heap->Prop} (hK:∀ h' u' rows',u'.i=u.i->u'.s.n=u.s.n+1->TB h9 h' kb u' ⟨R.init,R.ins++[l++[decide (i=lp)]],R.loop⟩ rows' X->K h') :
  ∃ zn1:Zone,Zone.Le (h22).size zn1/\∀ (U3:Nat->Prop) (h_23:Heap),GrowH none' h22 U3 h_23->CallsH Try.prog 51 #[(.slice ra rn rc)] h_23 fun v4 h_24=>
 ∃ (A40:Option Addr),∃ (N40:Nat),∃ (C40:Nat),v4=(.slice A40 N40 C40)/\KeepsZ zn1 U3 h_23 h_24/\Zone.hasL zn1 h_24 (Addr.add kt 2)/\∃ (t15:Int),cellH h_24 (Addr.add kt 2)=some (.int .i64 t15)/\PIf (i=t15)
 (∀ (U4:Nat->Prop) (h_25:Heap) (b1:Nat),GrowH U3 h_24 U4 h_25->U4 b1->(h_25)[b1]?=some (Obj.cells #[(.bool true)] 4)->∀ (U5:Nat->Prop) (h_26:Heap),GrowH (minus U4 b1) h_25 U5 h_26->∃ ys2:List Value,ReadL h_26 (some (Addr.mk b1 0 none)) ys2/\ys2.length=1*1/\AppS h_26 A40 N40 C40 4 1 1 #[(.bool false)] ys2 1 fun apA1 apN1 apC1 h_27=>KeepsZ zn1 U5 h_26 h_27/\Zone.hasL zn1 h_27 (Addr.add kb 1)/\∃ (A41:Option Addr),∃ (N41:Nat),∃ (C41:Nat),cellH h_27 (Addr.add kb 1)=some (.slice A41 N41 C41)/\∀ (U6:Nat->Prop) (h_28:Heap) (b2:Nat),GrowH U5 h_27 U6 h_28->U6 b2->(h_28)[b2]?=some (Obj.cells #[(.slice apA1 apN1 apC1)] 44)->∀ (U7:Nat->Prop) (h_29:Heap),GrowH (minus U6 b2) h_28 U7 h_29->∃ ys3:List Value,ReadL h_29 (some (Addr.mk b2 0 none)) ys3/\ys3.length=1*1/\AppS h_29 A41 N41 C41 44 24 1 #[(.slice none 0 0)] ys3 1 fun apA2 apN2 apC2 h_30=>KeepsZ zn1 U7 h_29 h_30/\∀ (U8:Nat->Prop) (h_31:Heap),GrowH U7 h_30 U8 h_31->StoreH h_31 (Addr.add kb 1) [(.slice apA2 apN2 apC2)] fun h_32=>(h_31).size≤(h_32).size/\K h_32)
 (∀ (U4:Nat->Prop) (h_25:Heap) (b1:Nat),GrowH U3 h_24 U4 h_25->U4 b1->(h_25)[b1]?=some (Obj.cells #[(.bool false)] 4)->∀ (U5:Nat->Prop) (h_26:Heap),GrowH (minus U4 b1) h_25 U5 h_26->∃ ys2:List Value,ReadL h_26 (some (Addr.mk b1 0 none)) ys2/\ys2.length=1*1/\AppS h_26 A40 N40 C40 4 1 1 #[(.bool false)] ys2 1 fun apA1 apN1 apC1 h_27=>KeepsZ zn1 U5 h_26 h_27/\Zone.hasL zn1 h_27 (Addr.add kb 1)/\∃ (A41:Option Addr),∃ (N41:Nat),∃ (C41:Nat),cellH h_27 (Addr.add kb 1)=some (.slice A41 N41 C41)/\∀ (U6:Nat->Prop) (h_28:Heap) (b2:Nat),GrowH U5 h_27 U6 h_28->U6 b2->(h_28)[b2]?=some (Obj.cells #[(.slice apA1 apN1 apC1)] 44)->∀ (U7:Nat->Prop) (h_29:Heap),GrowH (minus U6 b2) h_28 U7 h_29->∃ ys3:List Value,ReadL h_29 (some (Addr.mk b2 0 none)) ys3/\ys3.length=1*1/\AppS h_29 A41 N41 C41 44 24 1 #[(.slice none 0 0)] ys3 1 fun apA2 apN2 apC2 h_30=>KeepsZ zn1 U7 h_29 h_30/\∀ (U8:Nat->Prop) (h_31:Heap),GrowH U7 h_30 U8 h_31->StoreH h_31 (Addr.add kb 1) [(.slice apA2 apN2 apC2)] fun h_32=>(h_31).size≤(h_32).size/\K h_32):=by
 have hll:=hr.ilen
 have htl:(kt.add 2).block<h22.size:=Nat.lt_of_lt_of_le (cellH_lt ht) b.mem.ext.1
 have hbl:(kb.add 1).block<h22.size:=by rw [add_block];exact (b.mem.get 0 rfl).own.lt
 refine ⟨Zone.cl [kt.add 2,kb.add 1],Zone.cl_le fun x hx=>?_,fun U3 h23 g3=>?_⟩
 ·simp only [List.mem_cons,List.not_mem_nil,or_false] at hx
  rcases hx with rfl | rfl
  ·exact htl
  ·exact hbl
 have kz:∀ {U:Nat->Prop} {ha hb:Heap} {x:Value},Keeps h9.size U ha hb->Ext h9 ha->Ext h9 hb->cellH ha (kb.add 1)=some x->cellH hb (kb.add 1)=some x->KeepsZ (Zone.cl [kt.add 2,kb.add 1]) U ha hb:=fun {U ha hb x} k ea eb ca cb=>⟨k.size,fun y hy=>by
  simp only [List.mem_cons,List.not_mem_nil,or_false] at hy
  rcases hy with rfl | rfl
  ·rw [Ext.cell ea ht,Ext.cell eb ht]
  ·rw [ca,cb],k.free⟩
 have m1:=(MemU.start b.mem).grow g3
 refine (c51 (c:=rc) (hr.ext g3.ext) (by omega)).mono ?_
 rintro _ h24 ⟨a1,c1,rfl,f4⟩
 obtain ⟨k2,m2⟩:=m1.add1 (t:=⟨1,a1,rn,c1,bools l⟩) f4
 refine ⟨_,_,_,rfl,kz k2 m1.mem.ext m2.mem.ext ((m1.mem.get 0 rfl).rd.fld 1 rfl) ((m2.mem.get 1 rfl).rd.fld 1 rfl),hasL1 (by simp),lp,Ext.cell m2.mem.ext ht,?_⟩
 have fin:∀ bit:Bool,bit=decide (i=lp)->∀ (U4:Nat->Prop) (h_25:Heap) (b1:Nat),GrowH U3 h24 U4 h_25->U4 b1->(h_25)[b1]?=some (Obj.cells #[(.bool bit)] 4)->∀ (U5:Nat->Prop) (h_26:Heap),GrowH (minus U4 b1) h_25 U5 h_26->∃ ys2:List Value,ReadL h_26 (some (Addr.mk b1 0 none)) ys2/\ys2.length=1*1/\AppS h_26 a1 rn c1 4 1 1 #[(.bool false)] ys2 1 fun apA1 apN1 apC1 h_27=>KeepsZ (Zone.cl [kt.add 2,kb.add 1]) U5 h_26 h_27/\Zone.hasL (Zone.cl [kt.add 2,kb.add 1]) h_27 (Addr.add kb 1)/\∃ (A41:Option Addr),∃ (N41:Nat),∃ (C41:Nat),cellH h_27 (Addr.add kb 1)=some (.slice A41 N41 C41)/\∀ (U6:Nat->Prop) (h_28:Heap) (b2:Nat),GrowH U5 h_27 U6 h_28->U6 b2->(h_28)[b2]?=some (Obj.cells #[(.slice apA1 apN1 apC1)] 44)->∀ (U7:Nat->Prop) (h_29:Heap),GrowH (minus U6 b2) h_28 U7 h_29->∃ ys3:List Value,ReadL h_29 (some (Addr.mk b2 0 none)) ys3/\ys3.length=1*1/\AppS h_29 A41 N41 C41 44 24 1 #[(.slice none 0 0)] ys3 1 fun apA2 apN2 apC2 h_30=>KeepsZ (Zone.cl [kt.add 2,kb.add 1]) U7 h_29 h_30/\∀ (U8:Nat->Prop) (h_31:Heap),GrowH U7 h_30 U8 h_31->StoreH h_31 (Addr.add kb 1) [(.slice apA2 apN2 apC2)] fun h_32=>(h_31).size≤(h_32).size/\K h_32:=by
  intro bit hbit U4 h25 b1 g4 hU ho U5 h26 g5
  have m3:=m2.grow g4
  have hb1:=m3.lt b1 hU
  have m4:=(m3.take hU hb1.1 (t:=⟨1,some ⟨b1,0,none⟩,1,1,[.bool bit]⟩) ⟨Own.row ho rfl,(fun ad ha=>by cases ha;exact hb1.1),m3.mem.ext⟩ fun ad ha=>by cases ha;rfl).grow g5
  refine ⟨[.bool bit],(m4.mem.get 0 rfl).rd.read,rfl,(m4.mem.get 1 rfl).app rfl (by simp [Value.oneCell']) (by omega) fun a2 c2 h27 f6 u6 hor=>?_⟩
  obtain ⟨k5,m5⟩:=m4.setAt 1 (t':=⟨1,a2,rn+1,c2,bools l++[.bool bit]⟩) rfl f6 u6 hor
  refine ⟨kz k5 m4.mem.ext m5.mem.ext ((m4.mem.get 2 rfl).rd.fld 1 rfl) ((m5.mem.get 2 rfl).rd.fld 1 rfl),hasL1 (by simp),_,_,_,(m5.mem.get 2 rfl).rd.fld 1 rfl,fun U6 h28 b2 g7 hU2 ho2 U7 h29 g8=>?_⟩
  have m6:=(m5.sub (.cons _ (.refl _))).grow g7
  have hb2:=m6.lt b2 hU2
  have m7:=(m6.take hU2 hb2.1 (t:=⟨1,some ⟨b2,0,none⟩,1,1,[.slice a2 (rn+1) c2]⟩) ⟨Own.row ho2 rfl,(fun ad ha=>by cases ha;exact hb2.1),m6.mem.ext⟩ fun ad ha=>by cases ha;rfl).grow g8
  refine ⟨[.slice a2 (rn+1) c2],(m7.mem.get 0 rfl).rd.read,rfl,(m7.mem.get 4 rfl).app rfl (by simp [Value.oneCell']) (by omega) fun a3 c3 h30 f9 u9 hor9=>?_⟩
  obtain ⟨k8,m8⟩:=m7.setAt 4 (t':=⟨1,a3,u.s.n+1,c3,rows.map RwB.v++[.slice a2 (rn+1) c2]⟩) rfl f9 u9 hor9
  refine ⟨kz k8 m7.mem.ext m8.mem.ext ((m7.mem.get 2 rfl).rd.fld 1 rfl) ((m8.mem.get 2 rfl).rd.fld 1 rfl),fun U8 h31 g10=>?_⟩
  have m9:=m8.grow g10
  refine (m9.mem.get 2 rfl).cellAt 1 (by omega) rfl fun h32 u10 f10=>⟨u10.1,?_⟩
  have m10:=(m9.mem.setAt 2 (t':=⟨1,some kb,3,3,_⟩) rfl f10 u10 (.inl rfl)).sub (.cons _ (.refl _))
  let s:RwB:=⟨a2,rn+1,c2,l++[bit]⟩
  have eb:bools l++[Value.bool bit]=bools (l++[bit]):=by simp [bools]
  have er:rows.map RwB.v++[Value.slice a2 (rn+1) c2]=(rows++[s]).map RwB.v:=by simp [RwB.v,s]
  refine hK h32 ⟨u.i,⟨a3,u.s.n+1,c3⟩,u.lp⟩ (rows++[s]) rfl rfl ⟨b.lp,?_,?_⟩
  ·rw [List.map_append,b.rl,<- hbit];rfl
  ·rw [eb,er] at m10
   refine m10.perm ?_
   have ei:itemsT ⟨u.i,⟨a3,u.s.n+1,c3⟩,u.lp⟩ ⟨R.init,R.ins++[l++[decide (i=lp)]],R.loop⟩ (rows++[s])++X=[⟨1,u.i.a,u.i.n,u.i.c,bools R.init⟩,⟨1,a3,u.s.n+1,c3,(rows++[s]).map RwB.v⟩]++(rows.map (fun r=>(⟨1,r.a,r.n,r.c,bools r.l⟩:Itm))++(⟨1,a2,rn+1,c2,bools (l++[bit])⟩::X)):=by
    unfold itemsT
    rw [List.append_assoc]
    refine congrArg (fun z=>[_,_]++z) ?_
    rw [List.map_append,List.append_assoc]
    rfl
   rw [ei]
   exact (List.perm_middle (l₁:=_::_::_::rows.map (fun r=>(⟨1,r.a,r.n,r.c,bools r.l⟩:Itm)))).symm
 exact ⟨fun he=>fin true (by rw [decide_eq_true he]),fun hne=>fin false (by rw [decide_eq_false hne])⟩
end
end Go.Proofs.Ytdpbdjdgdmheiaa
namespace Go.Proofs.Ytdpbdjdgdmheiaa
open Go.Hx Go.Deep
theorem prs_at {T:Tr} {i:Nat} {r:List Bool} (h:(T.ins++[T.ins.getD T.loop.toNat []])[i]?=some r):(prs T)[i]?=some (r,decide ((i:Int)=T.loop)):=by
 unfold prs
 rw [List.getElem?_mapIdx,h];rfl
section
variable {h:Heap} {v:CV} {C:Circ} {j:Int} {w:TV} {T:Tr}
set_option maxRecDepth 4000 in
theorem c25 (r:CIs h v C) (ok:C.Ok) (q:TIs h w T) (tok:T.Ok):CallsH Try.prog 25 #[v.v,.int .i64 j,w.v] h (ForP C j T h):=by
 have ql:=q.i.ilen
 have qs:=q.s.len
 have qlp:=q.lp
 have q1:=r.len.i
 have q2:=r.len.l
 have ti:=tok.ins
 refine run25 v j w _ h ?_
 unfold VC25
 intro h1 h2 h3
 have e1:Ext h h1:=Ext.box h _
 have e2:Ext h h2:=e1.trans (Ext.push h1 _)
 have e3:Ext h h3:=e2.trans (Ext.push h2 _)
 have hs1:h1.size=h.size+1:=by simp [h1]
 have hs2:h2.size=h.size+2:=by simp [h2,hs1]
 have hb:Rd h3 (some ⟨h.size,0,none⟩) 11 v.cs:=((boxC v 29).ext (Ext.push h1 _)).ext (Ext.push h2 _)
 have hw:Rd h3 (some ⟨h1.size,0,none⟩) 3 w.cs:=(boxT w 53).ext (Ext.push h2 _)
 have fz:Fr h2 1 h3 (some ⟨h2.size,0,none⟩) 3 3 TV.zero.cs:=Fr.lit (.refl h2) TV.zero.cs 53 3 rfl
 have bad:∀ {hx:Heap} {e:Int},Ext h3 hx->forE C j T=e->e≠0->StoreH hx (Addr.mk h2.size 0 none) [.slice none 0 0,.slice none 0 0,.int .i64 0] fun h4=>LdT h4 (Addr.mk h2.size 0 none) fun t=>
   ForP C j T h (.tuple #[t.v,.int .i64 e]) h4:=fun {hx e} u he hne=>by
  refine (fz.upd u).put (ws:=TV.zero.cs) rfl (TV.one _) fun h4 f4 u4=>ldT (v:=TV.zero) f4.rd ⟨e2.trans f4.ext,TV.zero,by rw [he] <;> rfl,?_,Nat.le_refl _,Nat.le_refl _⟩
  rw [forE_ne he hne]
  exact (TNew.zero (.refl _)).tis
 refine ldC hb ((c48 (r.ext e3) ok j).mono ?_)
 rintro x h4 (⟨hne,rfl,u⟩ | ⟨hz,k,v',vf,ms,nw,rfl,m,rf⟩)
 ·refine ⟨_,_,rfl,fun he=>absurd he hne,fun _=>bad u ?_ hne⟩
  unfold forE;rw [if_pos hne]
 refine ⟨_,_,rfl,fun _=>?_,fun he=>absurd rfl he⟩
 obtain ⟨hX,hm,hc,xl,xi,_,xb⟩:=lsX_facts hz
 have e34:=m.mem.ext
 have hb4:=hb.ext e34
 have hw4:=hw.ext e34
 have q4:=q.ext (e3.trans e34)
 refine ldT hw4 ⟨_,_,_,hb4.fld 2 rfl,_,_,_,hb4.fld 1 rfl,?_⟩
 refine useX (c49 q4 (nl:=v.l.n) (ni:=v.i.n) (most:=511) (by omega)) fun h5 e5=>⟨_,rfl,?_⟩
 have e35:=e34.trans e5
 rw [<- q2,<- q1]
 by_cases hN:FitN T C.lats.length C.ins.length 511
 rotate_left
 ·rw [decide_eq_false hN]
  refine BIf.t (bad e35 ?_ (by decide))
  unfold forE;rw [if_neg (by simp [hz]),if_pos hN]
 rw [decide_eq_true hN]
 refine BIf.f ?_
 obtain ⟨n1,n2,n3,n4⟩:=hN
 have hb5:=hb.ext e35
 have hw5:=hw.ext e35
 refine ldC hb5 (ldT hw5 (useX (c26 (r.ext (e3.trans e35)) ok (q.ext (e3.trans e35)) j) fun h6 e6=>⟨_,_,rfl,fun hp=>?_,fun hp=>?_⟩))
 rotate_left
 ·refine bad (e35.trans e6) ?_ (by decide)
  unfold forE;rw [if_neg (by simp [hz]),if_neg (Decidable.not_not.2 ⟨n1,n2,n3,n4⟩),if_pos hp]
 have hE:forE C j T=0:=by unfold forE;rw [if_neg (by simp [hz]),if_neg (Decidable.not_not.2 ⟨n1,n2,n3,n4⟩),if_neg (Decidable.not_not.2 hp)]
 obtain ⟨l,_⟩:=lasso_of hp
 have hlp:=l.lp
 have hlt:=l.fit.2.2.2.2.1
 have e36:=e35.trans e6
 have m6:=(m.ext e5).ext e6
 have nX:=m6.llen
 rw [xl] at nX
 have bd:=chk_bounds hc
 have bX:(lassoX C (mustOf C j)).lats.length≤16384:=(chk_bounds (C:=lassoX C (mustOf C j)) (by rw [hX])).2.2.1
 rw [xl] at bX
 refine AtP.mk rfl ⟨_,_,_,m6.f0 2 rfl,by omega,Int.le_refl _,by omega,?_⟩
 intro h7 h8
 have f7:Fr h6 1 h7 (some ⟨h6.size,0,none⟩) v'.l.n v'.l.n (bools (List.replicate v'.l.n false)):=by
  rw [show bools (List.replicate v'.l.n false)=List.replicate v'.l.n (Value.bool false) by rw [bools,List.map_replicate]]
  exact Fr.zeros (h:=h6) (.bool false) 4 v'.l.n
 have f8:Fr h7 1 h8 (some ⟨h7.size,0,none⟩) 3 3 TV.zero.cs:=Fr.lit (.refl h7) TV.zero.cs 53 3 rfl
 have m8:Mem h6 h8 [⟨1,some ⟨h7.size,0,none⟩,3,3,TV.zero.cs⟩,⟨1,some ⟨h6.size,0,none⟩,v'.l.n,v'.l.n,bools (List.replicate v'.l.n false)⟩]:=((Mem.nil (.refl h6)).add f7).add f8
 let u0:TV:=⟨⟨some ⟨h6.size,0,none⟩,v'.l.n,v'.l.n⟩,⟨none,0,0⟩,-1⟩
 refine (m8.get 0 rfl).put (ws:=u0.cs) rfl (TV.one _) fun h9 f9 u9=>?_
 have m9:=m8.setAt 0 (t':=⟨1,some ⟨h7.size,0,none⟩,3,3,u0.cs⟩) rfl f9 u9 (.inl rfl)
 have e39:Ext h3 h9:=e36.trans m9.ext
 have hw9:=hw.ext e39
 have q9:=q.ext (e3.trans e39)
 refine ⟨_,_,_,(m9.get 0 rfl).rd.fld 0 rfl,_,_,_,hw9.fld 0 rfl,bools T.init,q9.i.read,(show (bools T.init).length=min w.i.n v'.l.n*1 by simp [bools];omega),CpyH.some ?_⟩
 refine (m9.get 1 rfl).over (ws:=bools T.init) (by simp [bools];omega) bools_one fun h10 f10 u10=>?_
 have m10:=m9.setAt 1 (t':=⟨1,some ⟨h6.size,0,none⟩,v'.l.n,v'.l.n,_⟩) rfl f10 u10 (.inl rfl)
 have einit:bools T.init++(bools (List.replicate v'.l.n false)).drop (bools T.init).length=bools (T.init++List.replicate (1+C.lats.length+(mustOf C j).length) false):=by
  rw [bools,bools,bools,List.map_append,List.map_replicate,List.drop_replicate,List.map_replicate,List.length_map,n1,<- nX,Nat.add_sub_cancel_left]
 rw [einit] at m10
 have tb10:TB h6 h10 ⟨h7.size,0,none⟩ u0 ⟨T.init++List.replicate (1+C.lats.length+(mustOf C j).length) false,[],-1⟩ [] []:=by
  refine ⟨rfl,rfl,?_⟩
  have:=m10.add (t:=⟨1,none,0,0,[]⟩) (.nil (.refl h10))
  refine this.perm ?_
  have p:∀ (n b i:Itm),[n,b,i].Perm [b,i,n]:=fun n b i=>List.perm_append_comm (l₁:=[n]) (l₂:=[b,i])
  exact p _ _ _
 have e3A:Ext h3 h10:=e36.trans tb10.mem.ext
 have hwA:=hw.ext e3A
 have qA:=q.ext (e3.trans e3A)
 clear m8 f7 f8 m9 m10 f9 u9 f10 u10 hw9 q9 e39 hw5 hw4 hb4 hb5 q4
 have hwl:h1.size<h10.size:=by have:=cellH_lt (hwA.fld 0 rfl);rwa [add_block] at this
 obtain ⟨rows,hrd6,hrr,hrl⟩:=(q.ext (e3.trans e36)).s.ex
 have hrd:=hrd6.ext tb10.mem.ext
 have hrn:rows.length=w.s.n:=by have:=hrd.ilen;simpa using this
 refine ⟨Zone.old h10.size,.old _,Zone.old_hasL (by rw [add_block];exact hwl),_,_,_,hwA.fld 1 rfl,fun U h11 g11=>?_⟩
 have mu0:=(MemU.start (Mem.nil (.refl h10))).grow g11
 refine (c50 (c:=w.s.c) (hrd.ext g11.ext) RwB.one (by omega)).mono ?_
 rintro _ h12 ⟨a1,c1,rfl,f12⟩
 obtain ⟨k12,mu1⟩:=mu0.add1 (t:=⟨1,a1,w.s.n,c1,rows.map RwB.v⟩) f12
 have eA12:=mu1.mem.ext
 have hw12:=hwA.ext eA12
 refine ⟨_,_,_,rfl,k12,Zone.old_hasL (by rw [add_block];exact hwl),_,_,_,hw12.fld 1 rfl,Zone.old_hasL (by rw [add_block];exact hwl),_,hw12.fld 2 rfl,by omega,by omega,?_⟩
 have hli:w.lp.toNat<w.s.n:=by omega
 refine hrd.getn (i:=w.lp.toNat) hli fun ad1 hl1 hc1=>?_
 refine ⟨Zone.old_hasL (cellH_lt hc1),_,_,_,Ext.cell eA12 hc1,fun U1 h13 b g13 hU ho U2 h14 g14=>?_⟩
 have mu2:=mu1.grow g13
 have hbb:=mu2.lt b hU
 have mu3:=(mu2.take hU hbb.1 (t:=⟨1,some ⟨b,0,none⟩,1,1,[rows[w.lp.toNat].v]⟩) ⟨Own.row ho rfl,(fun ad ha=>by cases ha;exact hbb.1),mu2.mem.ext⟩ fun ad ha=>by cases ha;rfl).grow g14
 refine ⟨[rows[w.lp.toNat].v],(mu3.mem.get 0 rfl).rd.read,rfl,(mu3.mem.get 1 rfl).app rfl (by simp [RwB.v,Value.oneCell']) (by omega) fun a2 c2 h15 f15 u15 hor=>?_⟩
 obtain ⟨k15,mu4⟩:=mu3.setAt 1 (t':=⟨1,a2,w.s.n+1,c2,_⟩) rfl f15 u15 hor
 refine ⟨k15,?_⟩
 have eA15:=mu4.mem.ext
 let cl:Itm:=⟨1,a2,w.s.n+1,c2,(rows++[rows[w.lp.toNat]]).map RwB.v⟩
 have mcl:Mem h10 h15 [cl]:=by
  have:=mu4.mem.sub (l':=[⟨1,a2,w.s.n+1,c2,rows.map RwB.v++[rows[w.lp.toNat].v]⟩]) (.cons _ (.refl _))
  have e:rows.map RwB.v++[rows[w.lp.toNat].v]=(rows++[rows[w.lp.toNat]]).map RwB.v:=by rw [List.map_append];rfl
  rw [e] at this
  exact this
 have tb15:TB h6 h15 ⟨h7.size,0,none⟩ u0 ⟨T.init++List.replicate (1+C.lats.length+(mustOf C j).length) false,[],-1⟩ [] [cl]:=by
  refine ⟨rfl,rfl,(tb10.mem.app mcl).perm ?_⟩
  exact List.perm_append_comm (l₁:=[cl])
 have hg:T.ins.getD T.loop.toNat []=rows[w.lp.toNat].l:=by
  rw [List.getD_eq_getElem?_getD,<- hrl,List.getElem?_map,<- qlp,List.getElem?_eq_getElem hl1];rfl
 have rL:∀ {hx:Heap} {u:TV} {R:Tr} {rw':List RwB},TB h6 hx ⟨h7.size,0,none⟩ u R rw' [cl]->RdBs hx a2 (w.s.n+1) (T.ins++[T.ins.getD T.loop.toNat []]):=fun {hx u R rw'} tb=>by
  refine ⟨rows++[rows[w.lp.toNat]],?_,fun s hs=>?_,?_⟩
  ·exact (tb.mem.fr cl (List.mem_cons_of_mem _ (List.mem_append_right _ (List.mem_singleton.2 rfl)))).rd
  ·have:s∈rows:=by
    rcases List.mem_append.1 hs with h | h
    ·exact h
    ·rw [List.mem_singleton] at h;rw [h];exact List.getElem_mem _
   exact ⟨(hrr s this).1.ext tb.mem.ext,(hrr s this).2⟩
  ·rw [List.map_append,hrl,List.map_singleton,hg]
 clear mu0 mu1 mu2 mu3 mu4 f12 f15 u15 k12 k15 hw12
 have h26:h2.size<h6.size:=by have:=fz.own.lt;have:=e36.1;simp only at *;omega
 refine LoopT.to (n:=w.s.n+1) (by omega) (fun i h'=>∃ (u:TV) (rw':List RwB),u.s.n=i/\TB h6 h' ⟨h7.size,0,none⟩ u ⟨T.init++List.replicate (1+C.lats.length+(mustOf C j).length) false,((prs T).take i).map lsRow,-1⟩ rw' [cl]) ⟨u0,[],rfl,tb15⟩ ?_
 rintro i h16 K hi ⟨u,rw',hun,tb⟩ hK
 have hw16:=hw.ext (e36.trans tb.mem.ext)
 refine ⟨fun hlt=>⟨by omega,hlt,(rL tb).get (i:=i) (by omega) fun ad hl s hc hr _ hsl hsn=>⟨_,_,_,hc,?_⟩⟩,fun hlt=>?_⟩
 ·have hrow:s.l.length=C.ins.length:=by
   rw [hsl]
   have hmem:(T.ins++[T.ins.getD T.loop.toNat []])[i]∈T.ins++[T.ins.getD T.loop.toNat []]:=List.getElem_mem _
   rcases List.mem_append.1 hmem with h | h
   ·exact n4 _ h
   ·rw [List.mem_singleton] at h
    rw [h,hg]
    refine n4 _ ?_
    rw [<- hrl]
    exact List.mem_map.2 ⟨_,List.getElem_mem _,rfl⟩
  have hsn2:=hr.ilen
  refine for_step (kt:=⟨h1.size,0,none⟩) (lp:=w.lp) tb (hw.ext e36 |>.fld 2 rfl) hr (by omega) (by omega) (i:=(i:Int)) (K:=fun h'=>K (IntKind.wrap .i64 ((i:Int)+1)) h') fun h' u' rows' hi' hn' tb'=>hK _ (by omega) ⟨u',rows',by rw [hn',hun],?_⟩
  have hp:=prs_at (T:=T) (List.getElem?_eq_getElem hl)
  have:(prs T).take (i+1)=(prs T).take i++[(s.l,decide ((i:Int)=w.lp))]:=by
   rw [List.take_add_one,hp,hsl,qlp];rfl
  rw [this,List.map_append,List.map_singleton]
  exact tb'
 ·obtain rfl:i=w.s.n+1:=by omega
  rw [List.take_of_length_le (by rw [prs_len];omega)] at tb
  refine ldT (tb.mem.get 0 rfl).rd ((fz.upd (e36.trans tb.mem.ext)).put (ws:=u.cs) rfl (TV.one _) fun h17 f17 u17=>ldT f17.rd ⟨e2.trans f17.ext,u,by rw [hE] <;> rfl,?_,(tb.mem.get 1 rfl).own.cap,(tb.mem.get 2 rfl).own.cap⟩)
  have:forR C j T=⟨T.init++List.replicate (1+C.lats.length+(mustOf C j).length) false,(prs T).map lsRow,-1⟩:=by unfold forR;rw [if_pos hE];rfl
  rw [this]
  exact tb.tnew.upd u17 fun b hb1 hb2 ⟨ad,ha,e⟩=>by cases ha;simp only at e;omega
end
end Go.Proofs.Ytdpbdjdgdmheiaa
namespace Go.Proofs.Ytdpbdjdgdmheiaa
open Go.Hx Go.Deep
theorem lsX_ok {C:Circ} {j:Int} (ok:C.Ok) (hE:lsE C j=0):(lassoX C (mustOf C j)).Ok:=by
 obtain ⟨hX,hm,hc,xl,xi,⟨NL,hNL,hNc,hNl⟩,xb⟩:=lsX_facts hE
 obtain ⟨o1,o2,o3,o4,o5⟩:=lsX_nil hE
 refine ok_of_chk (by rw [hX]) (fun x hx=>?_) (fun s hs=>by rw [o4] at hs;cases hs) fun s hs=>by rw [o5] at hs;cases hs
 rw [hNL] at hx
 rcases List.mem_append.1 hx with hx | hx
 ·exact (ok.lats x hx).2.2
 ·rw [hNc x hx];exact ⟨by decide,by decide⟩
section
variable {h:Heap} {v:CV} {C:Circ} {j:Int} {w:TV} {U:Tr}
end
end Go.Proofs.Ytdpbdjdgdmheiaa
namespace Go.Proofs.Ytdpbdjdgdmheiaa
open Go.Hx Go.Deep
def LC:Circ:=⟨1,[],[⟨2,3,0⟩],[],[],[],[[2]],[],[],[],[]⟩
theorem LC_defs:defs LC=(0,0,[(0,0),(2,0)]):=by decide +kernel
theorem LC_uses:uses LC [(0,0),(2,0)]=(0,0):=by decide +kernel
theorem LC_chk:chk LC=(0,0):=by
 have h1:sizeE LC=0:=sizeE_ok (by simp [LC]) (by simp [Big,LC])
 have h4:cyc LC (defs LC).2.2=none:=by unfold cyc;simp [LC]
 have h5:syF LC=none:=rfl
 have h6:comF LC=none:=rfl
 unfold chk
 rw [if_neg (by rw [h1];simp),if_neg (by rw [LC_defs];simp),if_neg (by rw [LC_defs];simp only;rw [LC_uses];simp),h4,h5,h6]
theorem LC_ok:LC.Ok:=ok_of_chk (by rw [LC_chk]) (fun x hx=>by simp only [LC,List.mem_singleton] at hx;subst hx;exact ⟨by decide,by decide⟩) (fun s hs=>by cases hs) fun s hs=>by cases hs
theorem LC_good:GoodC LC []:=⟨by rw [LC_chk],⟨List.nodup_nil,(fun i hi=>by cases hi),(fun k hk=>by simp at hk),fun i hi=>by simp [LC] at hi⟩⟩
theorem LC_vals (b:Bool):valsOf LC [b] []=[false,b]:=by
 refine valsOf_eq LC_good rfl rfl ?_
 rw [LC_defs]
 refine ⟨rfl,fun j hj=>?_,fun i x b' hx=>by simp [LC] at hx,fun i x b' hx hb=>?_,fun i x hx=>by simp [LC] at hx⟩
 ·match j with
  | 0=>rfl
  | 1=>simp at hj
  | j+2=>simp at hj
 ·match i with
  | 0=>
   simp [LC] at hx hb
   subst hx hb
   rfl
  | i+1=>simp [LC] at hx
theorem LC_m0:moOf LC [false] [false,false]=⟨[false],true,[],[]⟩:=by kernel_rfl
theorem LC_m1:moOf LC [true] [false,true]=⟨[true],true,[],[(0,0)]⟩:=by kernel_rfl
theorem LC_next (b:Bool):nextL LC [false,b]=[!b]:=by cases b <;> kernel_rfl
def LT:Tr:=⟨[false],[[],[]],0⟩
theorem LT_movs:movs LC LT.init LT.ins=[⟨[false],true,[],[]⟩,⟨[true],true,[],[(0,0)]⟩]:=by
 simp only [LT,movs,LC_vals,LC_next,LC_m0,LC_m1,Bool.not_false]
theorem LT_lasso:Lasso LC 0 LT:=by
 refine ⟨by rw [LC_chk],by decide,by decide,⟨rfl,by decide,by decide,by decide,by decide,by simp [LT,LC]⟩,rfl,?_,by decide,?_,?_,?_⟩
 ·rw [LT_movs];simp
 ·rw [LT_movs]
  intro M hM
  simp [LT] at hM
  subst hM
  simp only [LT,endS,LC_vals,LC_next,Bool.not_false,Bool.not_true]
 ·rw [LT_movs]
  intro k hk
  simp [LC] at hk
  subst hk
  exact ⟨⟨[true],true,[],[(0,0)]⟩,by simp [LT],by simp⟩
 ·intro k hk;simp [LC] at hk
theorem LC_must:mustOf LC 0=[2]:=rfl
theorem LC_lsE:lsE LC 0=0:=by
 unfold lsE
 rw [if_neg (by rw [LC_chk];simp),if_neg (by simp [LC]),if_neg (by rw [LC_must];unfold LLong;simp [LC])]
theorem LC_forE:forE LC 0 LT=0:=by
 unfold forE
 rw [if_neg (by rw [LC_lsE];simp),if_neg (Decidable.not_not.2 ⟨rfl,by decide,by decide,by simp [LT,LC]⟩),if_neg (by rw [of_lasso LT_lasso];simp)]
theorem LX_mx:(lassoX LC [2]).mx=17:=by decide +kernel
theorem LX_bads:(lassoX LC [2]).bads=[34]:=by decide +kernel
theorem LX_lats:(lassoX LC [2]).lats.length=4:=by decide +kernel
section
variable {h:Heap} {v:CV} {C:Circ} {j:Int} {w:TV} {T:Tr}
set_option maxRecDepth 4000 in
theorem c23:CallsH Try.prog 23 #[] h (Xt (.bool true) h):=by
 refine run23 _ h ?_
 unfold VC23
 intro h1 h2 h3
 have e1:Ext h h1:=Ext.push h _
 have e12:Ext h1 h2:=Ext.push h1 _
 have e23:Ext h2 h3:=Ext.push h2 _
 have r1:Rd h1 (some ⟨h.size,0,none⟩) 3 (L3.cs ⟨2,3,0⟩):=(Fr.lit (.refl h) (L3.cs ⟨2,3,0⟩) 63 3 rfl).rd
 have r2:Rd h2 (some ⟨h1.size,0,none⟩) 1 (ints [2]):=(Fr.lit (.refl h1) (ints [2]) 3 1 rfl).rd
 have r3:Rd h3 (some ⟨h2.size,0,none⟩) 1 [.slice (some ⟨h1.size,0,none⟩) 1 1]:=(Fr.lit (.refl h2) [.slice (some ⟨h1.size,0,none⟩) 1 1] 22 1 rfl).rd
 let n0:Sl:=⟨none,0,0⟩
 let cv:CV:=⟨1,n0,⟨some ⟨h.size,0,none⟩,1,1⟩,n0,n0,n0,⟨some ⟨h2.size,0,none⟩,1,1⟩,n0,n0,n0,n0⟩
 refine boxN (zs:=CV.zero.cs) (ws:=cv.cs) rfl (CV.one cv) fun h5 e5 b5=>?_
 have e35:Ext h3 h5:=e5
 have z:=(CNew.zero (.refl h5)).cis
 have cis:CIs h5 cv LC:=by
  refine ⟨rfl,z.i,?_,z.o,z.b,z.c,?_,z.f,z.g,z.s,z.m⟩
  ·exact ((r1.ext e12).ext e23).ext e35
  ·exact ⟨⟨[⟨some ⟨h1.size,0,none⟩,1,1,[2]⟩],r3.ext e35,fun s hs=>by
    rw [List.mem_singleton] at hs
    subst hs
    exact ⟨(r2.ext e23).ext e35,Nat.le_refl _⟩,rfl⟩⟩
 have e05:Ext h h5:=((e1.trans e12).trans e23).trans e35
 refine ldC b5 ((c24 (j:=0) cis LC_ok).mono ?_)
 rintro _ h6 ⟨e6,v',rfl,cisF⟩
 have cisF:Far h6 h5.size h6.size fun h'=>CIs h' v' (safeC LC 0):=cisF
 have cis':=cisF.self
 rw [LC_lsE]
 rw [safeC_0 LC_lsE,LC_must] at cis'
 refine ⟨_,_,_,_,_,_,_,_,_,_,_,_,_,_,_,_,_,_,_,_,_,_,_,_,_,_,_,_,_,_,_,_,rfl,boxN (zs:=CV.zero.cs) (ws:=v'.cs) rfl (CV.one v') fun h8 e8 b8=>ldC ((b5.ext e6).ext e8) ?_⟩
 intro h9 h10 h11 h12
 have e89:Ext h8 h9:=Ext.push h8 _
 have e9A:Ext h9 h10:=Ext.push h9 _
 have eAB:Ext h10 h11:=Ext.push h10 _
 have eBC:Ext h11 h12:=Ext.push h11 _
 have e8C:Ext h8 h12:=((e89.trans e9A).trans eAB).trans eBC
 have s9:Rd h9 (some ⟨h8.size,0,none⟩) 1 (bools [false]):=(Fr.lit (.refl h8) (bools [false]) 4 1 rfl).rd
 have s10:Rd h10 (some ⟨h9.size,0,none⟩) 0 (bools []):=(Fr.lit (.refl h9) (bools []) 4 0 rfl).rd
 have s11:Rd h11 (some ⟨h10.size,0,none⟩) 0 (bools []):=(Fr.lit (.refl h10) (bools []) 4 0 rfl).rd
 have s12:Rd h12 (some ⟨h11.size,0,none⟩) 2 [.slice (some ⟨h9.size,0,none⟩) 0 0,.slice (some ⟨h10.size,0,none⟩) 0 0]:=(Fr.lit (.refl h11) [.slice (some ⟨h9.size,0,none⟩) 0 0,.slice (some ⟨h10.size,0,none⟩) 0 0] 44 2 rfl).rd
 let tv:TV:=⟨⟨some ⟨h8.size,0,none⟩,1,1⟩,⟨some ⟨h11.size,0,none⟩,2,2⟩,0⟩
 have q:TIs h12 tv LT:=by
  refine ⟨((s9.ext e9A).ext eAB).ext eBC,⟨⟨[⟨some ⟨h9.size,0,none⟩,0,0,[]⟩,⟨some ⟨h10.size,0,none⟩,0,0,[]⟩],s12,fun s hs=>?_,rfl⟩⟩,rfl⟩
  simp only [List.mem_cons,List.not_mem_nil,or_false] at hs
  rcases hs with rfl | rfl
  ·exact ⟨(s10.ext eAB).ext eBC,Nat.le_refl _⟩
  ·exact ⟨s11.ext eBC,Nat.le_refl _⟩
 have cis12:=((cis.ext e6).ext e8).ext e8C
 refine (c25 (j:=0) (w:=tv) cis12 LC_ok q ⟨by decide,by decide,by decide,by simp [LT]⟩).mono ?_
 rintro _ h13 ⟨e13,u,rfl,tis,_⟩
 rw [LC_forE]
 have hfor:forR LC 0 LT=forthT LC (mustOf LC 0) LT:=by unfold forR;rw [if_pos LC_forE]
 rw [hfor] at tis
 refine ⟨_,_,_,_,_,_,_,_,rfl,boxN (zs:=TV.zero.cs) (ws:=u.cs) rfl (TV.one u) fun h15 e15 b15=>?_⟩
 have b8':=((b8.ext e8C).ext e13).ext e15
 have cisE:=((((cis'.ext e8).ext e8C).ext e13).ext e15)
 have hmx:=cisE.mx
 rw [LX_mx] at hmx
 have hbn:=cisE.len.b
 rw [LX_bads] at hbn
 have hln:=cisE.len.l
 rw [LX_lats] at hln
 have hun:=tis.s.len
 have hui:=tis.i.ilen
 have f1:(forthT LC (mustOf LC 0) LT).ins.length=3:=by unfold forthT;rw [List.length_map,prs_len];rfl
 have f2:(forthT LC (mustOf LC 0) LT).init.length=4:=by unfold forthT;rw [List.length_append,List.length_replicate,LC_must];rfl
 simp only [List.length_singleton] at hbn
 have eF:Ext h h15:=((((e05.trans e6).trans e8).trans e8C).trans e13).trans e15
 refine ⟨fun _=>⟨_,b8'.fld 0 rfl,fun _=>⟨_,_,_,b8'.fld 4 rfl,fun _=>⟨_,_,_,b8'.fld 4 rfl,Int.le_refl _,by omega,cisE.b.getn (i:=0) (by omega) fun ad hl hc=>⟨_,hc,fun _=>⟨_,_,_,b8'.fld 2 rfl,fun _=>⟨fun _=>⟨_,_,_,b15.fld 1 rfl,fun _=>⟨_,_,_,b15.fld 0 rfl,fun _=>⟨rfl,eF⟩,fun hne=>absurd (by omega) hne⟩,fun hne=>absurd (by omega) hne⟩,fun hne=>absurd rfl hne⟩,fun hne=>absurd (by omega) hne⟩,fun hne=>absurd (by simp [LX_bads]) hne⟩⟩,fun hne=>absurd (by omega) hne⟩,fun hne=>absurd hmx hne⟩,fun hne=>absurd rfl hne⟩
end
end Go.Proofs.Ytdpbdjdgdmheiaa
