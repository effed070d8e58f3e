/- Words and facts that the claim's proof leans on. No condition. -/
import Derived.Test.YtobageabpfkpcaaHxK
import Derived.ChangeArms
import Derived.ChangeSame
import Derived.Deep.Fields
set_option linter.unusedVariables false
set_option linter.unusedSimpArgs false
namespace Go.Hx
theorem LoopT.to {B:Int->Heap->(Int->Heap->Prop)->Prop} {n:Nat} {h:Heap} (hn:n<9223372036854775807) (I:Nat->Heap->Prop) (h0:I 0 h)
  (hs:∀ (i:Nat) (h':Heap) (K:Int->Heap->Prop),i≤n->I i h'->(∀ h'',i<n->I (i+1) h''->K (IntKind.wrap .i64 ((i:Int)+1)) h'')->B i h' K):LoopT B 0 h:=by
 refine ⟨fun t h' m=>∃ i:Nat,t=i/\i≤n/\m=n-i/\I i h',⟨n,0,rfl,Nat.zero_le _,rfl,h0⟩,?_⟩
 rintro t h' m ⟨i,rfl,hi,rfl,hI⟩
 refine hs i h' _ hi hI fun h'' hlt hI'=>?_
 exact ⟨n-(i+1),by omega,i+1,by rw [w64 (by omega) (by omega)];rfl,by omega,rfl,hI'⟩
theorem LoopT.to2 {τ:Type} {B:τ×Int->Heap->(τ×Int->Heap->Prop)->Prop} {n:Nat} {h:Heap} {s0:τ} (hn:n<9223372036854775807) (I:Nat->τ->Heap->Prop) (h0:I 0 s0 h)
  (hs:∀ (i:Nat) (s:τ) (h':Heap) (K:τ×Int->Heap->Prop),i≤n->I i s h'->(∀ s' h'',i<n->I (i+1) s' h''->K (s',IntKind.wrap .i64 ((i:Int)+1)) h'')->B (s,i) h' K):LoopT B (s0,0) h:=by
 refine ⟨fun st h' m=>∃ i:Nat,st.2=i/\i≤n/\m=n-i/\I i st.1 h',⟨n,0,rfl,Nat.zero_le _,rfl,h0⟩,?_⟩
 rintro ⟨s,t⟩ h' m ⟨i,rfl,hi,rfl,hI⟩
 refine hs i s h' _ hi hI fun s' h'' hlt hI'=>?_
 exact ⟨n-(i+1),by omega,i+1,by show IntKind.wrap .i64 ((i:Int)+1)=_;rw [w64 (by omega) (by omega)];rfl,by omega,rfl,hI'⟩
theorem LoopT.once {σ:Type} {B:σ->Heap->(σ->Heap->Prop)->Prop} {st:σ} {h:Heap} (hB:∀ K,B st h K):LoopT B st h:=
 ⟨fun st' h' _=>st'=st/\h'=h,⟨0,rfl,rfl⟩,fun st' h' m ⟨e1,e2⟩=>by subst e1;subst e2;exact hB _⟩
section
variable {α:Type} {f:α->List Value} {sz:Nat}
theorem flat_len (hf:∀ x,(f x).length=sz) (l:List α):(l.flatMap f).length=l.length*sz:=by
 induction l with
 | nil=>simp
 | cons x l ih=>rw [List.flatMap_cons,List.length_append,ih,hf,List.length_cons,Nat.succ_mul,Nat.add_comm]
theorem flat_at (hf:∀ x,(f x).length=sz) {l:List α} {i:Nat} (hi:i<l.length):((l.flatMap f).drop (i*sz)).take sz=f l[i]:=by
 induction l generalizing i with
 | nil=>simp at hi
 | cons x l ih=>
  cases i with
  | zero=>rw [Nat.zero_mul,List.drop_zero,List.flatMap_cons,List.take_append_of_le_length (by rw [hf];exact Nat.le_refl _),List.take_of_length_le (by rw [hf];exact Nat.le_refl _)];rfl
  | succ i=>
   have e1:((x::l).flatMap f).drop ((i+1)*sz)=(l.flatMap f).drop (i*sz):=by
    rw [List.flatMap_cons,Nat.succ_mul,Nat.add_comm,<- List.drop_drop,List.drop_append_of_le_length (by rw [hf];exact Nat.le_refl _),List.drop_of_length_le (l:=f x) (by rw [hf];exact Nat.le_refl _),List.nil_append]
   rw [e1,ih (by simpa using hi)]
   rfl
theorem Rd.elen (hf:∀ x,(f x).length=sz) (hz:0<sz) {h:Heap} {a:Option Addr} {n:Nat} {l:List α} (r:Rd h a (n*sz) (l.flatMap f)):l.length=n:=by
 have:=r.len
 rw [flat_len hf] at this
 exact Nat.eq_of_mul_eq_mul_right hz this
theorem Rd.elem (hf:∀ x,(f x).length=sz) (hz:0<sz) {h:Heap} {a:Option Addr} {n:Nat} {l:List α} (r:Rd h a (n*sz) (l.flatMap f)) {i:Nat} (hi:i<n) {K:Addr->Prop}
  (hK:∀ ad (hl:i<l.length),Rd h (.some (ad.add (i*sz))) sz (f l[i])->K ad):AtP a K:=by
 have hl:i<l.length:=by rw [r.elen hf hz];exact hi
 have hle:i*sz+sz≤n*sz:=by rw [<- Nat.succ_mul];exact Nat.mul_le_mul_right _ hi
 cases a with
 | none=>
  have h1:=r.len
  rw [show l.flatMap f=[] from r.read] at h1
  simp at h1
  omega
 | some ad=>
  refine hK ad hl ?_
  have:=r.cut (i*sz) sz hle
  rwa [flat_at hf hl] at this
theorem Rd.fld {h:Heap} {ad:Addr} {n:Nat} {vs:List Value} (r:Rd h (.some ad) n vs) (i:Nat) {v:Value} (hv:vs[i]?=.some v):cellH h (ad.add i)=.some v:=r.read i v hv
end
theorem Rd.getn {α:Type} {f:α->Value} {h:Heap} {a:Option Addr} {n:Nat} {l:List α} (r:Rd h a n (l.map f)) {i:Nat} (hi:i<n) {K:Addr->Prop}
  (hK:∀ ad (hl:i<l.length),cellH h (ad.add (i*1))=.some (f l[i])->K ad):AtP a K:=
 r.geti (j:=(i:Int)) (by omega) (by omega) hK
structure Sl where
 a:Option Addr
 n:Nat
 c:Nat
def Sl.v (s:Sl):Value:=.slice s.a s.n s.c
structure Rw where
 a:Option Addr
 n:Nat
 c:Nat
 l:List Int
def Rw.v (s:Rw):Value:=.slice s.a s.n s.c
structure RdRs (h:Heap) (a:Option Addr) (n:Nat) (L:List (List Int)):Prop where
 ex:∃ rows:List Rw,Rd h a n (rows.map Rw.v)/\(∀ s∈rows,Rd h s.a s.n (ints s.l)/\s.n≤s.c)/\rows.map Rw.l=L
theorem RdRs.ext {h h':Heap} {a:Option Addr} {n:Nat} {L:List (List Int)} (r:RdRs h a n L) (u:Ext h h'):RdRs h' a n L:=by
 obtain ⟨rows,h1,h2,h3⟩:=r.ex
 exact ⟨rows,h1.ext u,fun s hs=>⟨(h2 s hs).1.ext u,(h2 s hs).2⟩,h3⟩
theorem RdRs.len {h:Heap} {a:Option Addr} {n:Nat} {L:List (List Int)} (r:RdRs h a n L):L.length=n:=by
 obtain ⟨rows,h1,h2,rfl⟩:=r.ex
 have:=h1.len
 simpa using this
theorem RdRs.get {h:Heap} {a:Option Addr} {n:Nat} {L:List (List Int)} (r:RdRs h a n L) {i:Nat} (hi:i<n) {K:Addr->Prop}
  (hK:∀ ad (hl:i<L.length) (s:Rw),cellH h (ad.add (i*1))=.some s.v->Rd h s.a s.n (ints s.l)->s.n≤s.c->s.l=L[i]->s.n=L[i].length->K ad):AtP a K:=by
 obtain ⟨rows,h1,h2,rfl⟩:=r.ex
 refine h1.getn hi fun ad hl hc=>?_
 have hr:=h2 _ (List.getElem_mem hl)
 have e:rows[i].l=(rows.map Rw.l)[i]'(by simpa using hl):=by simp
 refine hK ad (by simpa using hl) rows[i] hc hr.1 hr.2 e ?_
 rw [<- e]
 have:=hr.1.len
 simpa using this.symm
structure L3 where
 a:Int
 b:Int
 c:Int
 deriving DecidableEq
abbrev L3.cs (x:L3):List Value:=[.int .i64 x.a,.int .i64 x.b,.int .i64 x.c]
theorem L3.csl (x:L3):x.cs.length=3:=rfl
structure Sy where
 k:Int
 i:Int
 s:ByteArray
 deriving DecidableEq
abbrev Sy.cs (x:Sy):List Value:=[.int .u8 x.k,.int .i64 x.i,.string x.s]
theorem Sy.csl (x:Sy):x.cs.length=3:=rfl
structure Circ where
 mx:Int
 ins:List Int
 lats:List L3
 outs:List Int
 bads:List Int
 cons:List Int
 just:List (List Int)
 fair:List Int
 ands:List L3
 syms:List Sy
 coms:List ByteArray
structure CV where
 mx:Int
 i:Sl
 l:Sl
 o:Sl
 b:Sl
 c:Sl
 j:Sl
 f:Sl
 g:Sl
 s:Sl
 m:Sl
def CV.cs (v:CV):List Value:=[.int .i64 v.mx,.slice v.i.a v.i.n v.i.c,.slice v.l.a v.l.n v.l.c,.slice v.o.a v.o.n v.o.c,.slice v.b.a v.b.n v.b.c,.slice v.c.a v.c.n v.c.c,.slice v.j.a v.j.n v.j.c,.slice v.f.a v.f.n v.f.c,
 .slice v.g.a v.g.n v.g.c,.slice v.s.a v.s.n v.s.c,.slice v.m.a v.m.n v.m.c]
def CV.v (v:CV):Value:=.agg v.cs.toArray
structure CIs (h:Heap) (v:CV) (C:Circ):Prop where
 mx:v.mx=C.mx
 i:Rd h v.i.a v.i.n (ints C.ins)
 l:Rd h v.l.a (v.l.n*3) (C.lats.flatMap L3.cs)
 o:Rd h v.o.a v.o.n (ints C.outs)
 b:Rd h v.b.a v.b.n (ints C.bads)
 c:Rd h v.c.a v.c.n (ints C.cons)
 j:RdRs h v.j.a v.j.n C.just
 f:Rd h v.f.a v.f.n (ints C.fair)
 g:Rd h v.g.a (v.g.n*3) (C.ands.flatMap L3.cs)
 s:Rd h v.s.a (v.s.n*3) (C.syms.flatMap Sy.cs)
 m:Rd h v.m.a v.m.n (C.coms.map Value.string)
theorem CIs.ext {h h':Heap} {v:CV} {C:Circ} (r:CIs h v C) (u:Ext h h'):CIs h' v C:=
 ⟨r.mx,r.i.ext u,r.l.ext u,r.o.ext u,r.b.ext u,r.c.ext u,r.j.ext u,r.f.ext u,r.g.ext u,r.s.ext u,r.m.ext u⟩
theorem Rd.ilen {h:Heap} {a:Option Addr} {n:Nat} {α:Type} {f:α->Value} {l:List α} (r:Rd h a n (l.map f)):l.length=n:=by have:=r.len;simpa using this
structure CIs.Len (v:CV) (C:Circ):Prop where
 i:C.ins.length=v.i.n
 l:C.lats.length=v.l.n
 o:C.outs.length=v.o.n
 b:C.bads.length=v.b.n
 c:C.cons.length=v.c.n
 j:C.just.length=v.j.n
 f:C.fair.length=v.f.n
 g:C.ands.length=v.g.n
 s:C.syms.length=v.s.n
 m:C.coms.length=v.m.n
theorem CIs.len {h:Heap} {v:CV} {C:Circ} (r:CIs h v C):CIs.Len v C:=
 ⟨r.i.ilen,r.l.elen L3.csl (by omega),r.o.ilen,r.b.ilen,r.c.ilen,r.j.len,r.f.ilen,r.g.elen L3.csl (by omega),r.s.elen Sy.csl (by omega),r.m.ilen⟩
theorem Ext.box (h:Heap) (o:Obj):Ext h (h.push o):=Ext.push h o
def CV.zero:CV:=⟨0,⟨none,0,0⟩,⟨none,0,0⟩,⟨none,0,0⟩,⟨none,0,0⟩,⟨none,0,0⟩,⟨none,0,0⟩,⟨none,0,0⟩,⟨none,0,0⟩,⟨none,0,0⟩,⟨none,0,0⟩⟩
structure TV where
 i:Sl
 s:Sl
 lp:Int
def TV.cs (v:TV):List Value:=[.slice v.i.a v.i.n v.i.c,.slice v.s.a v.s.n v.s.c,.int .i64 v.lp]
def TV.v (v:TV):Value:=.agg v.cs.toArray
def TV.zero:TV:=⟨⟨none,0,0⟩,⟨none,0,0⟩,0⟩
end Go.Hx
namespace Go.Hx
open Go.ChangeShapes Go.WideShapes Go.RowKit Go.Deep
section
variable {H:Type} {enc:TypeId×Value->H} {P:Program} {W:World} {base:Nat} {held:Bool} {t e:TypeId}
def Opens (enc:TypeId×Value->H) (P:Program) (W:World) (base:Nat) (held:Bool) (t:TypeId) {α:Type} (f:α->List Value) (G:α->Prop):Prop:=
 ∀ (fuel:Nat) (cs:List Value) (x:DataW H×List MemPlace),DataW.trod enc P W base (fun _=>true) held fuel t cs=some x->(∀ n∈x.1.weights P t,n≤140737488351232)->∃ y,cs=f y/\G y
theorem Opens.mono {α:Type} {f:α->List Value} {G K:α->Prop} (o:Opens enc P W base held t f G) (hk:∀ y,G y->K y):Opens enc P W base held t f K:=fun n cs x h hw=>by
 obtain ⟨y,h1,h2⟩:=o n cs x h hw
 exact ⟨y,h1,hk y h2⟩
theorem Opens.int {k:IntKind} (hu:P.underlying t=some (.int k)):Opens enc P W base held t (fun n:Int=>[Value.int k n]) (fun n=>(Lit.int k n).wf=true):=fun n cs x h _=>by
 obtain ⟨n,rfl,_,hw⟩:=DataW.trod_int hu h
 exact ⟨n,rfl,hw⟩
theorem Opens.bool (hu:P.underlying t=some .bool):Opens enc P W base held t (fun b:Bool=>[Value.bool b]) (fun _=>True):=fun n cs x h _=>by
 obtain ⟨b,rfl,_⟩:=DataW.trod_bool hu h
 exact ⟨b,rfl,trivial⟩
theorem Opens.string (hu:P.underlying t=some .string):Opens enc P W base held t (fun s:ByteArray=>[Value.string s]) (fun s=>s.size≤140737488351232):=fun n cs x h hw=>by
 obtain ⟨s,rfl,rfl,_⟩:=DataW.trod_string hu h
 refine ⟨s,rfl,hw _ ?_⟩
 simp only [DataW.weights,List.mem_singleton]
 rfl
structure SlL (β:Type) where
 a:Option Addr
 n:Nat
 c:Nat
 l:List β
abbrev SlL.cs {β:Type} (s:SlL β):List Value:=[.slice s.a s.n s.c]
theorem weightsAll_mem:∀ {ds:List (DataW H)} {i:Nat} {d:DataW H},ds[i]?=some d->∀ n∈d.weights P e,n∈DataW.weightsAll P e ds
 | [],i,d,h,_,_=>by simp at h
 | d0::ds,0,d,h,n,hn=>by
  simp only [List.getElem?_cons_zero,Option.some.injEq] at h
  subst h
  simp only [DataW.weightsAll,List.mem_append]
  exact .inl hn
 | d0::ds,i+1,d,h,n,hn=>by
  simp only [List.getElem?_cons_succ] at h
  simp only [DataW.weightsAll,List.mem_append]
  exact .inr (weightsAll_mem h n hn)
theorem flat_get {α:Type} {f:α->List Value} {sz:Nat} (hf:∀ x,(f x).length=sz) {l:List α} {q r:Nat} (hr:r<sz) (hq:q<l.length):(l.flatMap f)[q*sz+r]?=(f l[q])[r]?:=by
 have:=flat_at hf hq
 rw [<- this,List.getElem?_take_of_lt hr,List.getElem?_drop]
theorem Opens.slice {β:Type} {g:β->List Value} {K:β->Prop} {sz:Nat} (hu:P.underlying t=some (.slice e)) (hc:P.cellsOf e=sz) (hz:0<sz) (hg:∀ y,(g y).length=sz) (o:Opens enc P W base held e g K) :
  Opens enc P W base held t (SlL.cs (β:=β)) (fun s=>Rd W.heap s.a (s.n*sz) (s.l.flatMap g)/\s.l.length=s.n/\s.n≤s.c/\s.n*P.bytesOf e≤140737488351232/\∀ y∈s.l,K y):=by
 intro fuel cs x h hw
 rcases DataW.trod_slice hu h with ⟨rfl,_⟩ | ⟨a,len,cap,elems,rest,n,_,rfl,rfl,_,hl,_,hlen,hel,_⟩
 ·exact ⟨⟨none,0,0,[]⟩,rfl,by rw [Nat.zero_mul];exact .nil,rfl,Nat.le_refl _,by simp,fun y hy=>by cases hy⟩
 have hw1:=hw ((elems.length+rest.length)*P.bytesOf e) (by simp [DataW.weights,hu])
 have hall:∀ i,i<len->∃ y,(∀ j,j<sz->cellH W.heap (a.add (i*sz+j))=(g y)[j]?)/\K y:=by
  intro i hi
  have h1:=hel i hi
  rw [List.getElem?_eq_getElem (by omega),Option.bind_eq_some_iff] at h1
  obtain ⟨cs1,hc1,hd1⟩:=h1
  obtain ⟨_,hl1,hcell⟩:=World.cells?_some hc1
  obtain ⟨y,rfl,hk⟩:=o _ _ _ hd1 fun m hm=>hw m (by
   simp only [DataW.weights,hu,List.mem_cons,List.mem_append]
   exact .inr (.inl (weightsAll_mem (i:=i) (by rw [List.getElem?_map,List.getElem?_eq_getElem (by omega)];rfl) m hm)))
  refine ⟨y,fun j hj=>?_,hk⟩
  have:=hcell j (by rw [hc];exact hj)
  rw [hc,Addr.add_add,cell_eq] at this
  exact this
 let F:Fin len->β:=fun i=>Classical.choose (hall i.val i.isLt)
 have hF:∀ i:Fin len,(∀ j,j<sz->cellH W.heap (a.add (i.val*sz+j))=(g (F i))[j]?)/\K (F i):=fun i=>Classical.choose_spec (hall i.val i.isLt)
 refine ⟨⟨some a,len,cap,List.ofFn F⟩,rfl,⟨fun i v hv=>?_,by rw [flat_len hg,List.length_ofFn]⟩,by simp,hl,Nat.le_trans (Nat.mul_le_mul_right _ (by simp only;omega)) hw1,fun y hy=>?_⟩
 ·have hi:=(List.getElem?_eq_some_iff.1 hv).1
  rw [flat_len hg,List.length_ofFn] at hi
  have hq:i / sz<len:=Nat.div_lt_of_lt_mul (by rw [Nat.mul_comm];exact hi)
  have hr:=Nat.mod_lt i hz
  have he:i / sz*sz+i % sz=i:=by rw [Nat.mul_comm];exact Nat.div_add_mod i sz
  have:=(hF ⟨i / sz,hq⟩).1 (i % sz) hr
  rw [<- he,flat_get hg hr (by rw [List.length_ofFn];exact hq)] at hv
  simp only [List.getElem_ofFn] at hv
  simp only [he] at this
  rw [this]
  exact hv
 ·rw [List.mem_ofFn] at hy
  obtain ⟨i,rfl⟩:=hy
  exact (hF i).2
theorem weightsEach_mem:∀ {ts:List TypeId} {ds:List (DataW H)} {j:Nat} {t:TypeId} {d:DataW H},ts[j]?=some t->ds[j]?=some d->∀ n∈d.weights P t,n∈DataW.weightsEach P ts ds:=DataW.weights_mem_each
theorem struct_cells {fs:Array Field} (ht:P.underlying t=some (.struct fs)) (hone:oneCellFields P fs=true) {fuel:Nat} {cs:List Value} {x:DataW H×List MemPlace} (h:DataW.trod enc P W base (fun _=>true) held fuel t cs=some x)
  (hw:∀ n∈x.1.weights P t,n≤140737488351232):cs.length=P.cellsOf t/\∀ (i:Nat) (f:Field),fs[i]?=some f->i<cs.length->∀ {α:Type} {g:α->List Value} {K:α->Prop},Opens enc P W base held f.type g K->∃ y c,cs[i]?=some c/\[c]=g y/\K y:=by
 obtain ⟨xs,n,_,rfl,hl,hxs,hf⟩:=DataW.trod_struct ht h
 refine ⟨hl,fun i f hi hil α g K o=>?_⟩
 obtain ⟨ho,hc⟩:=Deep.hone_of hone i f hi
 have h1:=hf i f hi
 have hi2:i<fs.size:=(Array.getElem?_eq_some_iff.1 hi).1
 rw [ho,hc,List.getElem?_eq_getElem (by omega)] at h1
 have e:(cs.drop i).take 1=[cs[i]]:=by rw [List.drop_eq_getElem_cons hil];rfl
 rw [e] at h1
 obtain ⟨y,hy,hk⟩:=o _ _ _ h1 fun m hm=>hw m (by
  simp only [DataW.weights,ht]
  refine weightsEach_mem (j:=i) ?_ ?_ m hm
  ·rw [List.getElem?_map,Array.getElem?_toList,hi];rfl
  ·rw [List.getElem?_map,List.getElem?_eq_getElem (by omega)];rfl)
 exact ⟨y,cs[i],List.getElem?_eq_getElem hil,hy,hk⟩
theorem flat_map1 {α:Type} (f:α->Value) (l:List α):l.flatMap (fun x=>[f x])=l.map f:=by
 induction l with
 | nil=>rfl
 | cons x l ih=>rw [List.flatMap_cons,ih];rfl
theorem Opens.ints (hu:P.underlying t=some (.slice e)) (he:P.underlying e=some (.int .i64)) (hc:P.cellsOf e=1) (hb:P.bytesOf e=8) :
  Opens enc P W base held t (SlL.cs (β:=Int)) (fun s=>Rd W.heap s.a s.n (Hx.ints s.l)/\s.n≤s.c/\s.n≤17592186043904/\∀ x∈s.l,-9223372036854775808≤x/\x≤9223372036854775807):=
 (Opens.slice (g:=fun n:Int=>[Value.int .i64 n]) hu hc (by omega) (fun _=>rfl) (.int he)).mono fun s ⟨h1,h2,h3,h4,h5⟩=>by
  rw [flat_map1,Nat.mul_one] at h1
  rw [hb] at h4
  exact ⟨h1,h3,by omega,fun x hx=>wf_i64 (h5 x hx)⟩
theorem Opens.bools (hu:P.underlying t=some (.slice e)) (he:P.underlying e=some .bool) (hc:P.cellsOf e=1) (hb:P.bytesOf e=1) :
  Opens enc P W base held t (SlL.cs (β:=Bool)) (fun s=>Rd W.heap s.a s.n (Hx.bools s.l)/\s.n≤s.c/\s.n≤140737488351232):=
 (Opens.slice (g:=fun n:Bool=>[Value.bool n]) hu hc (by omega) (fun _=>rfl) (.bool he)).mono fun s ⟨h1,h2,h3,h4,h5⟩=>by
  rw [flat_map1,Nat.mul_one] at h1
  rw [hb] at h4
  exact ⟨h1,h3,by omega⟩
theorem Opens.rows {q:TypeId} (hu:P.underlying t=some (.slice e)) (he:P.underlying e=some (.slice q)) (hq:P.underlying q=some (.int .i64)) (hc:P.cellsOf e=1) (hc2:P.cellsOf q=1) (hb:P.bytesOf e=24) (hb2:P.bytesOf q=8) :
  Opens enc P W base held t (SlL.cs (β:=List Int)) (fun s=>RdRs W.heap s.a s.n s.l/\s.n≤s.c/\s.n≤5864062014634/\∀ r∈s.l,(∀ x∈r,-9223372036854775808≤x/\x≤9223372036854775807)/\r.length≤17592186043904):=fun fuel cs x h hw=>by
 obtain ⟨s,rfl,h1,h2,h3,h4,h5⟩:=Opens.slice (g:=SlL.cs (β:=Int)) hu hc (by omega) (fun _=>rfl) (.ints he hq hc2 hb2) fuel cs x h hw
 rw [flat_map1 (fun s:SlL Int=>Value.slice s.a s.n s.c),Nat.mul_one] at h1
 rw [hb] at h4
 refine ⟨⟨s.a,s.n,s.c,s.l.map SlL.l⟩,rfl,⟨s.l.map fun r=>⟨r.a,r.n,r.c,r.l⟩,by rw [List.map_map];exact h1,fun r hr=>?_,by rw [List.map_map];rfl⟩,h3,by simp only;omega,fun r hr=>?_⟩
 ·obtain ⟨r',hr',rfl⟩:=List.mem_map.1 hr
  exact ⟨(h5 r' hr').1,(h5 r' hr').2.1⟩
 ·obtain ⟨r',hr',rfl⟩:=List.mem_map.1 hr
  have:=h5 r' hr'
  exact ⟨this.2.2.2,by have h6:=this.1.ilen;have h7:=this.2.2.1;omega⟩
theorem Opens.arg {α:Type} {f:α->List Value} {G:α->Prop} {ts:List TypeId} {ds:List (DataW H)} (o:Opens enc P W base held t f G) (hsz:(DataW.weightsEach P ts ds).all (·≤reachBytes)=true) {j:Nat} (ht:ts[j]?=some t) {d:DataW H} (hd:ds[j]?=some d) {v:Value} {ps:List MemPlace}
  (h:DataW.Trod enc P W base (fun _=>true) held t v d ps):∃ y,v.cells.toList=f y/\G y:=by
 obtain ⟨fuel,hf⟩:=h
 exact o fuel _ _ hf fun n hn=>by
  have:=List.all_eq_true.1 hsz n (weightsEach_mem ht hd n hn)
  exact of_decide_eq_true this
end
end Go.Hx
namespace Go.Hx
structure Itm where
 sz:Nat
 a:Option Addr
 n:Nat
 c:Nat
 vs:List Value
abbrev Itm.Fr (h0 h:Heap) (t:Itm):Prop:=Hx.Fr h0 t.sz h t.a t.n t.c t.vs
def Dis (a b:Option Addr):Prop:=∀ x y,a=some x->b=some y->x.block≠y.block
theorem Dis.symm {a b:Option Addr} (d:Dis a b):Dis b a:=fun x y hx hy e=>d y x hy hx e.symm
theorem Dis.none {b:Option Addr}:Dis none b:=fun x y hx _=>by cases hx
structure Mem (h0 h:Heap) (l:List Itm):Prop where
 ext:Ext h0 h
 fr:∀ t∈l,t.Fr h0 h
 dis:l.Pairwise fun s t=>Dis s.a t.a
theorem Mem.nil {h0 h:Heap} (u:Ext h0 h):Mem h0 h []:=⟨u,(fun t ht=>by cases ht),.nil⟩
theorem Mem.ext' {h0 h h':Heap} {l:List Itm} (m:Mem h0 h l) (u:Ext h h'):Mem h0 h' l:=⟨m.ext.trans u,fun t ht=>(m.fr t ht).upd u,m.dis⟩
theorem Mem.base {h0 h1 h:Heap} {l:List Itm} (m:Mem h1 h l) (u:Ext h0 h1):Mem h0 h l:=⟨u.trans m.ext,fun t ht=>(m.fr t ht).base u,m.dis⟩
theorem Mem.lt {h0 h:Heap} {l:List Itm} (m:Mem h0 h l) {t:Itm} (ht:t∈l) {ad:Addr} (ha:t.a=some ad):ad.block<h.size:=by
 have:=(m.fr t ht).own
 rw [ha] at this
 exact this.lt
theorem Mem.add {h0 h h':Heap} {l:List Itm} (m:Mem h0 h l) {t:Itm} (f:t.Fr h h'):Mem h0 h' (t::l):=by
 refine ⟨m.ext.trans f.ext,fun s hs=>?_,List.pairwise_cons.2 ⟨fun s hs x y hx hy e=>?_,m.dis⟩⟩
 ·rcases List.mem_cons.1 hs with rfl | hs
  ·exact f.base m.ext
  ·exact (m.fr s hs).upd f.ext
 ·have h1:=f.new x hx
  have h2:=m.lt hs hy
  omega
theorem pairwise_swap {α:Type} {R:α->α->Prop} (hs:∀ x y,R x y->R y x) {A B:List α} {x:α} (h:(A++x::B).Pairwise R):(∀ y∈A++B,R x y)/\(A++B).Pairwise R:=by
 rw [List.pairwise_append] at h
 obtain ⟨h1,h2,h3⟩:=h
 rw [List.pairwise_cons] at h2
 refine ⟨fun y hy=>?_,List.pairwise_append.2 ⟨h1,h2.2,fun a ha b hb=>h3 a ha b (List.mem_cons_of_mem _ hb)⟩⟩
 rcases List.mem_append.1 hy with hy | hy
 ·exact hs _ _ (h3 y hy x (List.mem_cons_self ..))
 ·exact h2.1 y hy
theorem pairwise_in {α:Type} {R:α->α->Prop} (hs:∀ x y,R x y->R y x) {A B:List α} {x:α} (h1:∀ y∈A++B,R x y) (h2:(A++B).Pairwise R):(A++x::B).Pairwise R:=by
 rw [List.pairwise_append] at h2
 refine List.pairwise_append.2 ⟨h2.1,List.pairwise_cons.2 ⟨fun y hy=>h1 y (List.mem_append_right _ hy),h2.2.1⟩,fun a ha b hb=>?_⟩
 rcases List.mem_cons.1 hb with rfl | hb
 ·exact hs _ _ (h1 a (List.mem_append_left _ ha))
 ·exact h2.2.2 a ha b hb
theorem Mem.put {h0 h h':Heap} {A B:List Itm} {t t':Itm} (m:Mem h0 h (A++t::B)) (f:t'.Fr h0 h') (u:Upd (atb t.a) h h') (hor:t'.a=t.a∨∃ ad,t'.a=some ad/\h.size≤ad.block):Mem h0 h' (A++t'::B):=by
 obtain ⟨d1,d2⟩:=pairwise_swap (fun _ _ d=>d.symm) m.dis
 have hmem:∀ s,s∈A++B->s∈A++t::B:=fun s hs=>by
  rcases List.mem_append.1 hs with hs | hs
  ·exact List.mem_append_left _ hs
  ·exact List.mem_append_right _ (List.mem_cons_of_mem _ hs)
 have ft:=m.fr t (by simp)
 refine ⟨f.ext,fun s hs=>?_,pairwise_in (fun _ _ d=>d.symm) (fun s hs x y hx hy e=>?_) d2⟩
 ·by_cases hst:s∈A++B
  ·have fs:=m.fr s (hmem s hst)
   refine ⟨fs.own.upd u fun ad ha ⟨y,hy,e⟩=>d1 s hst y ad hy ha e.symm,fs.new,f.ext⟩
  ·have:s=t':=by
    rcases List.mem_append.1 hs with h1 | h1
    ·exact absurd (List.mem_append_left _ h1) hst
    ·rcases List.mem_cons.1 h1 with h1 | h1
     ·exact h1
     ·exact absurd (List.mem_append_right _ h1) hst
   subst this
   exact f
 ·rcases hor with h1 | ⟨ad,h1,h2⟩
  ·exact d1 s hs x y (h1▸hx) hy e
  ·rw [hx] at h1
   obtain rfl:=Option.some.inj h1
   have:=m.lt (hmem s hs) hy
   omega
theorem set_split {α:Type}:∀ {l:List α} {k:Nat} {t:α},l[k]?=some t->∃ A B,l=A++t::B/\∀ t',l.set k t'=A++t'::B
 | [],k,t,h=>by simp at h
 | x::l,0,t,h=>by
  simp only [List.getElem?_cons_zero,Option.some.injEq] at h
  subst h
  exact ⟨[],l,rfl,fun _=>rfl⟩
 | x::l,k+1,t,h=>by
  obtain ⟨A,B,rfl,h2⟩:=set_split (l:=l) (k:=k) (t:=t) (by simpa using h)
  exact ⟨x::A,B,rfl,fun t'=>by rw [List.set_cons_succ,h2];rfl⟩
theorem Mem.setAt {h0 h h':Heap} {l:List Itm} (m:Mem h0 h l) (k:Nat) {t t':Itm} (hk:l[k]?=some t) (f:t'.Fr h0 h') (u:Upd (atb t.a) h h') (hor:t'.a=t.a∨∃ ad,t'.a=some ad/\h.size≤ad.block):Mem h0 h' (l.set k t'):=by
 obtain ⟨A,B,rfl,h2⟩:=set_split hk
 rw [h2]
 exact m.put f u hor
theorem Mem.at' {h0 h:Heap} {l:List Itm} (m:Mem h0 h l) (k:Nat) {t:Itm} (hk:l[k]?=some t):t.Fr h0 h:=m.fr t (List.mem_of_getElem? hk)
theorem Mem.get {h0 h:Heap} {l:List Itm} (m:Mem h0 h l) (k:Nat) {sz n c:Nat} {a:Option Addr} {vs:List Value} (hk:l[k]?=some ⟨sz,a,n,c,vs⟩):Fr h0 sz h a n c vs:=m.at' k hk
theorem Mem.sub {h0 h:Heap} {l l':List Itm} (m:Mem h0 h l) (s:l'.Sublist l):Mem h0 h l':=⟨m.ext,fun t ht=>m.fr t (s.subset ht),m.dis.sublist s⟩
theorem Mem.perm {h0 h:Heap} {l l':List Itm} (m:Mem h0 h l) (p:l.Perm l'):Mem h0 h l':=⟨m.ext,fun t ht=>m.fr t (p.mem_iff.2 ht),(p.pairwise_iff fun d=>d.symm).1 m.dis⟩
theorem Mem.app {h0 h h':Heap} {l l':List Itm} (m:Mem h0 h l) (m':Mem h h' l'):Mem h0 h' (l'++l):=
 ⟨m.ext.trans m'.ext,fun t ht=>by
  rcases List.mem_append.1 ht with ht | ht
  ·exact (m'.fr t ht).base m.ext
  ·exact (m.fr t ht).upd m'.ext,List.pairwise_append.2 ⟨m'.dis,m.dis,fun s hs t ht x y hx hy e=>by
   have h1:=(m'.fr s hs).new x hx
   have h2:=m.lt ht hy
   omega⟩⟩
theorem Mem.atb {h0 h:Heap} {l:List Itm} (m:Mem h0 h l) {t:Itm} (ht:t∈l) {h':Heap} (u:Upd (atb t.a) h h'):Upd (fun b=>h0.size≤b/\b<h.size) h h':=u.mono fun b hb ⟨ad,ha,e⟩=>by
 have:=(m.fr t ht).new ad ha
 omega
structure MemU (n:Nat) (h0 h:Heap) (U:Nat->Prop) (l:List Itm):Prop where
 mem:Mem h0 h l
 le:n≤h0.size
 lt:∀ b,U b->n≤b/\b<h.size
 off:∀ t∈l,∀ ad,t.a=some ad->¬ U ad.block
theorem GrowH.ext {U U':Nat->Prop} {h h':Heap} (g:GrowH U h U' h'):Ext h h':=⟨g.size,fun b hb _=>g.old b hb⟩
theorem MemU.start {h0 h:Heap} {l:List Itm} (m:Mem h0 h l):MemU h0.size h0 h none' l:=⟨m,Nat.le_refl _,fun b hb=>hb.elim,fun t ht ad ha hb=>hb⟩
theorem MemU.grow {n:Nat} {h0 h h':Heap} {U U':Nat->Prop} {l:List Itm} (m:MemU n h0 h U l) (g:GrowH U h U' h'):MemU n h0 h' U' l:=
 ⟨m.mem.ext' g.ext,m.le,fun b hb=>by
  rcases g.sup b hb with h1 | h1
  ·have:=m.lt b h1;have:=g.size;omega
  ·have:=m.le;have:=m.mem.ext.1;omega,fun t ht ad ha hb=>by
  rcases g.sup _ hb with h1 | h1
  ·exact m.off t ht ad ha h1
  ·have:=m.mem.lt ht ha;omega⟩
theorem MemU.take {n:Nat} {h0 h:Heap} {U:Nat->Prop} {l:List Itm} (m:MemU n h0 h U l) {b:Nat} (hb:U b) (hn:h0.size≤b) {t:Itm} (f:t.Fr h0 h) (ht:∀ ad,t.a=some ad->ad.block=b):MemU n h0 h (minus U b) (t::l):=
 ⟨⟨m.mem.ext,fun s hs=>by
  rcases List.mem_cons.1 hs with rfl | hs
  ·exact f
  ·exact m.mem.fr s hs,List.pairwise_cons.2 ⟨fun s hs x y hx hy e=>m.off s hs y hy (by rw [<- e,ht x hx];exact hb),m.mem.dis⟩⟩,m.le,fun i hi=>m.lt i hi.1,fun s hs ad ha hi=>by
  rcases List.mem_cons.1 hs with rfl | hs
  ·exact hi.2 (ht ad ha)
  ·exact m.off s hs ad ha hi.1⟩
theorem MemU.add {n:Nat} {h0 h h':Heap} {U:Nat->Prop} {l:List Itm} (m:MemU n h0 h U l) {l':List Itm} (f:Mem h h' l'):Keeps n U h h'/\MemU n h0 h' U (l'++l):=
 ⟨⟨f.ext.1,fun b hb=>f.ext.2 b (by have:=m.le;have:=m.mem.ext.1;omega) fun x=>x,fun b hb=>f.ext.2 b (m.lt b hb).2 fun x=>x⟩,m.mem.app f,m.le,fun b hb=>by have:=m.lt b hb;have:=f.ext.1;omega,fun s hs ad ha hb=>by
  rcases List.mem_append.1 hs with hs | hs
  ·have:=(f.fr s hs).new ad ha;have:=m.lt _ hb;omega
  ·exact m.off s hs ad ha hb⟩
theorem MemU.add1 {n:Nat} {h0 h h':Heap} {U:Nat->Prop} {l:List Itm} (m:MemU n h0 h U l) {t:Itm} (f:t.Fr h h'):Keeps n U h h'/\MemU n h0 h' U (t::l):=m.add (l':=[t]) ((Mem.nil (.refl h)).add f)
theorem MemU.ext {n:Nat} {h0 h h':Heap} {U:Nat->Prop} {l:List Itm} (m:MemU n h0 h U l) (u:Ext h h'):Keeps n U h h'/\MemU n h0 h' U l:=m.add (l':=[]) (Mem.nil u)
theorem MemU.setAt {n:Nat} {h0 h h':Heap} {U:Nat->Prop} {l:List Itm} (m:MemU n h0 h U l) (k:Nat) {t t':Itm} (hk:l[k]?=some t) (f:t'.Fr h0 h') (u:Upd (Hx.atb t.a) h h') (hor:t'.a=t.a∨∃ ad,t'.a=some ad/\h.size≤ad.block) :
  Keeps n U h h'/\MemU n h0 h' U (l.set k t'):=by
 have ht:=List.mem_of_getElem? hk
 have hoff:∀ ad,t.a=some ad->¬ U ad.block:=m.off t ht
 refine ⟨⟨u.1,fun b hb=>u.2 b (by have:=m.le;have:=m.mem.ext.1;omega) fun ⟨ad,ha,e⟩=>?_,fun b hb=>u.2 b (m.lt b hb).2 fun ⟨ad,ha,e⟩=>hoff ad ha (e▸hb)⟩,m.mem.setAt k hk f u hor,m.le,fun b hb=>by have:=m.lt b hb;have:=u.1;omega,fun s hs ad ha hb=>?_⟩
 ·have:=(m.mem.fr t ht).new ad ha;have:=m.le;omega
 ·rcases List.mem_or_eq_of_mem_set hs with hs | rfl
  ·exact m.off s hs ad ha hb
  ·rcases hor with h1 | ⟨ad',h1,h2⟩
   ·exact hoff ad (h1▸ha) hb
   ·rw [ha] at h1
    obtain rfl:=Option.some.inj h1
    have:=m.lt _ hb;omega
theorem Own.empty {h:Heap} {b:Nat} {e:TypeId} {sz:Nat} (hb:h[b]?=some (.cells #[] e (0,0))):Own sz h (some ⟨b,0,none⟩) 0 0 []:=
 ⟨by rw [Nat.zero_mul];exact .nil,Nat.le_refl _,rfl,#[],e,(0,0),hb,by simp,loose0 _ _⟩
theorem Own.row {h:Heap} {b:Nat} {e:TypeId} {vs:List Value} {n:Nat} (hb:h[b]?=some (.cells vs.toArray e (0,0))) (hn:vs.length=n):Own 1 h (some ⟨b,0,none⟩) n n vs:=by
 refine ⟨⟨fun i v hv=>?_,by omega⟩,Nat.le_refl _,rfl,vs.toArray,e,(0,0),hb,by simp;omega,loose0 _ _⟩
 rw [cellH_row hb rfl]
 simpa using hv
theorem app0 {h0 h:Heap} {sz:Nat} {a:Option Addr} (f:Fr h0 sz h a 0 0 []) {e:TypeId} {bytes:Nat} {z:Array Value} {ys:List Value} {n:Nat} (hy:ys.length=n*sz) (h1:∀ y∈ys,y.oneCell'=true) (hb:n*bytes≤140737488355328)
  {K:Option Addr->Nat->Nat->Heap->Prop} (hK:∀ a' c' h',Fr h0 sz h' a' n c' ys->Upd (atb a) h h'->(a'=a∨∃ ad,a'=some ad/\h.size≤ad.block)->K a' n c' h'):AppS h a 0 0 e bytes sz z ys n K:=by
 refine f.app hy h1 (by rw [Nat.zero_add];exact hb) fun a' c' h' f' u hor=>?_
 rw [Nat.zero_add] at f' ⊢
 rw [List.nil_append] at f'
 exact hK a' c' h' f' u hor
theorem app0n {h:Heap} {sz:Nat} {e e':TypeId} {bytes:Nat} {z:Array Value} {ys:List Value} {n:Nat} (hy:ys.length=n*sz) (h1:∀ y∈ys,y.oneCell'=true) (hb:n*bytes≤140737488355328)
  {K:Option Addr->Nat->Nat->Heap->Prop} (hK:∀ a' c' h',Fr h sz h' a' n c' ys->K a' n c' h'):AppS (h.push (.cells #[] e)) (some ⟨h.size,0,none⟩) 0 0 e' bytes sz z ys n K:=
 app0 (h0:=h) ⟨Own.empty (push_at h _),(fun ad ha=>by cases ha;exact Nat.le_refl _),Ext.push h _⟩ hy h1 hb fun a' c' h' f' _ _=>hK a' c' h' f'
theorem Fr.cellAt {h0 h:Heap} {ad:Addr} {n:Nat} {vs:List Value} (f:Fr h0 1 h (some ad) n n vs) (k:Nat) (hk:k<n) {v:Value} (h1:v.oneCell'=true) {K:Heap->Prop} (hK:∀ h',Upd (atb (some ad)) h h'->Fr h0 1 h' (some ad) n n (vs.set k v)->K h'):StoreH h (ad.add k) [v] K:=by
 have hl:=f.own.rd.len
 refine f.own.write k [v] (by simp;omega) (by simpa using h1) fun h' u w=>hK h' (u.mono fun i _ hi=>⟨ad,rfl,hi⟩) ⟨w n (vs.set k v) (by simpa using hl) (Nat.le_refl _) fun i hi=>?_,f.new,Fr.ext_of f.ext f.new (u.mono fun i _ hi=>⟨ad,rfl,hi⟩)⟩
 simp only [List.length_cons,List.length_nil,Nat.zero_add]
 by_cases hik:k=i
 ·subst hik
  rw [if_pos (by omega),List.getElem?_set_self (by omega),Nat.sub_self];rfl
 ·rw [if_neg (by omega),List.getElem?_set_ne hik]
theorem Mem.over {h00 h0 h h':Heap} {l:List Itm} {S:Nat->Prop} (m:Mem h0 h l) (u0:Ext h00 h0) (u:Upd S h h') (hS:∀ b,S b->h00.size≤b/\b<h0.size):Mem h00 h' l:=by
 have e:Ext h00 h':=⟨Nat.le_trans u0.1 (Nat.le_trans m.ext.1 u.1),fun b hb _=>by
  rw [u.2 b (by have:=u0.1;have:=m.ext.1;omega) (fun hs=>by have:=(hS b hs).1;omega),m.ext.2 b (by have:=u0.1;omega) (fun x=>x),u0.2 b hb fun x=>x]⟩
 refine ⟨e,fun t ht=>?_,m.dis⟩
 have f:=m.fr t ht
 exact ⟨f.own.upd u fun ad ha hs=>by have:=f.new ad ha;have:=(hS _ hs).2;omega,fun ad ha=>Nat.le_trans u0.1 (f.new ad ha),e⟩
end Go.Hx
