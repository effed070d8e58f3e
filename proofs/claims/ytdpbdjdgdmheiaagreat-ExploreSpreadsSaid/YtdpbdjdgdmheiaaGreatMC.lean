/- Words and facts that the claim's proof leans on. No condition. -/
import Derived.Test.YtdpbdjdgdmheiaaGreatMA
import Derived.Test.YtdpbdjdgdmheiaaGreatDA
import Derived.Test.YtdpbdjdgdmheiaaGreatKAa
import Derived.Test.YtdpbdjdgdmheiaaGreatCH
import Derived.Test.YtdpbdjdgdmheiaaGreatCR
set_option linter.unusedVariables false
set_option linter.unusedSimpArgs false
namespace Go.Hx
end Go.Hx
namespace Go.Proofs.YtdpbdjdgdmheiaaGreat
open Go.Hx
structure Mx (h0 h:Heap) (k:Addr) (v:CV) (S:Circ) (vf:CV) (ms:Sl) (sv sd nw:Int) (X:List Itm):Prop where
 mx:v.mx=S.mx
 mem:Mem h0 h (⟨1,some k,26,26,v.cs++(vf.cs++[.slice ms.a ms.n ms.c,.int .i64 sv,.int .i64 sd,.int .i64 nw])⟩::⟨1,v.i.a,v.i.n,v.i.c,ints S.ins⟩::⟨3,v.l.a,v.l.n,v.l.c,S.lats.flatMap L3.cs⟩::⟨1,v.b.a,v.b.n,v.b.c,ints S.bads⟩::⟨1,v.c.a,v.c.n,v.c.c,ints S.cons⟩::⟨3,v.g.a,v.g.n,v.g.c,S.ands.flatMap L3.cs⟩::X)
 z:v.o=⟨none,0,0⟩/\v.j=⟨none,0,0⟩/\v.f=⟨none,0,0⟩/\v.s=⟨none,0,0⟩/\v.m=⟨none,0,0⟩
section
variable {h0 h:Heap} {k:Addr} {v:CV} {S:Circ} {vf:CV} {ms:Sl} {sv sd nw:Int} {X:List Itm}
theorem Mx.ext {h':Heap} (m:Mx h0 h k v S vf ms sv sd nw X) (u:Ext h h'):Mx h0 h' k v S vf ms sv sd nw X:=⟨m.mx,m.mem.ext' u,m.z⟩
theorem Mx.rd (m:Mx h0 h k v S vf ms sv sd nw X):Rd h (some k) 26 (v.cs++(vf.cs++[.slice ms.a ms.n ms.c,.int .i64 sv,.int .i64 sd,.int .i64 nw])):=(m.mem.get 0 rfl).rd
theorem Mx.f (m:Mx h0 h k v S vf ms sv sd nw X) (i:Nat) {x:Value} (hx:(v.cs++(vf.cs++[.slice ms.a ms.n ms.c,.int .i64 sv,.int .i64 sd,.int .i64 nw]))[i]?=some x):cellH h (k.add i)=some x:=m.rd.fld i hx
theorem Mx.f0 (m:Mx h0 h k v S vf ms sv sd nw X) (i:Nat) {x:Value} (hx:(v.cs++(vf.cs++[.slice ms.a ms.n ms.c,.int .i64 sv,.int .i64 sd,.int .i64 nw]))[i]?=some x):cellH h (((k.add 0).add 0).add i)=some x:=by rw [addr_add0,addr_add0];exact m.f i hx
theorem Mx.f11 (m:Mx h0 h k v S vf ms sv sd nw X) (i:Nat) {x:Value} (hx:vf.cs[i]?=some x):cellH h ((k.add 11).add i)=some x:=by
 rw [Addr.add_add]
 refine m.f (11+i) ?_
 have hi:=(List.getElem?_eq_some_iff.1 hx).1
 rw [List.getElem?_append_right (by simp [CV.cs]),show 11+i-v.cs.length=i by simp [CV.cs],List.getElem?_append_left hi]
 exact hx
theorem Mx.lt (m:Mx h0 h k v S vf ms sv sd nw X):k.block<h.size:=(m.mem.get 0 rfl).own.lt
theorem Mx.llen (m:Mx h0 h k v S vf ms sv sd nw X):S.lats.length=v.l.n:=(m.mem.get 2 rfl).own.rd.elen L3.csl (by omega)
variable {C:Circ}
end
end Go.Proofs.YtdpbdjdgdmheiaaGreat
namespace Go.Hx
def Zone.cl (l:List Addr):Zone:=⟨fun a c=>∀ x∈l,cellH c x=cellH a x,fun _ _ _=>rfl,fun h x hx=>(h x hx).symm,fun h k x hx=>(k x hx).trans (h x hx)⟩
end Go.Hx
namespace Go.Proofs.YtdpbdjdgdmheiaaGreat
open Go.Hx
section
variable {h0 h:Heap} {k:Addr} {v:CV} {S:Circ} {vf:CV} {ms:Sl} {sv sd nw:Int} {X:List Itm}
theorem Mx.x (m:Mx h0 h k v S vf ms sv sd nw X) (i:Nat) {sz n c:Nat} {a:Option Addr} {vs:List Value} (hi:X[i]?=some ⟨sz,a,n,c,vs⟩):Fr h0 sz h a n c vs:=m.mem.get (6+i) (by rw [show 6+i=i+6 by omega];exact hi)
variable {C:Circ} {must:List Int}
theorem W1 {i:Nat} (hi:i≤1000000):IntKind.wrap .i64 ((i:Int)+1)=((i+1:Nat):Int):=by rw [w64 (by omega) (by omega)];rfl
end
end Go.Proofs.YtdpbdjdgdmheiaaGreat
namespace Go.Proofs.YtdpbdjdgdmheiaaGreat
open Go.Hx
theorem zr_len1 (n:Nat):(zeroRow #[Value.int .i64 0] (n*1)).length=n:=by rw [zeroRow_one];simp
theorem c142 {h:Heap} {n:Nat} (hn:n≤1000000):CallsH Tryz.prog 142 #[.slice none 0 0,.int .i64 (n:Int)] h fun w h'=>∃ a c,w=.slice a 0 c/\Fr h 1 h' a 0 c []:=by
 refine run142 none 0 0 n _ h ⟨fun h=>absurd h (by omega),fun _=>?_⟩
 unfold J142_0
 have e0:IntKind.wrap .i64 (((0:Nat):Int)-((0:Nat):Int))=0:=rfl
 rw [e0,show IntKind.wrap .i64 ((n:Int)-0)=(n:Int) by rw [w64 (by omega) (by omega)];omega]
 refine ⟨fun hp=>⟨Int.le_refl _,by omega,by omega,by omega,by omega,?_⟩,fun hp=>⟨none,0,rfl,.nil (.refl h)⟩⟩
 rw [show cutA 1 none 0 (Int.toNat 0)=none by rw [cutA0]]
 have f0:Fr h 1 h none 0 0 []:=.nil (.refl h)
 refine f0.app (by rw [zr_len1];simp) (fun y hy=>by rw [zeroRow_one] at hy;rw [(List.mem_replicate.1 hy).2];rfl) (by simp;omega) fun a' c' h1 f u hor=>⟨Int.le_refl _,by omega,by omega,a',c',?_,?_⟩
 ·rw [cutA0];rfl
 ·refine ⟨?_,f.new,f.ext⟩
  have:=f.own.take (m:=0) (by omega)
  simpa using this
theorem flat_take_len {L:List (List Int)} (hL:∀ l∈L,l.length≤16384):L.flatten.length≤L.length*16384:=by
 induction L with
 | nil=>simp
 | cons x L ih=>
  rw [List.flatten_cons,List.length_append,List.length_cons]
  have:=ih fun l hl=>hL l (List.mem_cons_of_mem _ hl)
  have:=hL x (List.mem_cons_self ..)
  omega
theorem c104 {h:Heap} {a:Option Addr} {n c:Nat} {rows:List Rw} (r:Rd h a n (rows.map Rw.v)) (hr:∀ s∈rows,Rd h s.a s.n (ints s.l)) {L:List (List Int)} (hRL:rows.map Rw.l=L) (hn:n≤10) (hL:∀ l∈L,l.length≤16384):CallsH Tryz.prog 104 #[.slice a n c] h fun w h'=>∃ a' c',w=.slice a' L.flatten.length c'/\Fr h 1 h' a' L.flatten.length c' (ints L.flatten):=by
 have hl:L.length=n:=by have:=r.ilen;rw [<- hRL];simpa using this
 have get:∀ {h':Heap} {i:Nat} {K:Addr->Prop},Ext h h'->i<n->(∀ ad (hl:i<L.length) (x:Rw),cellH h' (ad.add (i*1))=some (.slice x.a x.n x.c)->Rd h' x.a x.n (ints x.l)->x.l=L[i]->x.n=L[i].length->K ad)->AtP a K:=fun {h' i K} e hi hK=>(r.ext e).getn hi fun ad hli hc=>by
  have hx:rows[i].l=L[i]'(by omega):=by simp only [<- hRL,List.getElem_map]
  have h1:=hr _ (List.getElem_mem hli)
  exact hK ad (by omega) rows[i] hc (h1.ext e) hx (by rw [<- hx];exact h1.ilen.symm)
 have tk:∀ i,(L.take i).flatten.length≤163840:=fun i=>by
  have:=flat_take_len (L:=L.take i) fun l hl=>hL l (List.mem_of_mem_take hl)
  rw [List.length_take] at this
  omega
 refine run104 a n c _ h (LoopT.to2 (n:=n) (by omega) (fun i s h'=>h'=h/\s=((L.take i).flatten.length:Int)) ⟨rfl,by simp⟩ ?_)
 rintro i s h2 K hi ⟨hh,rfl⟩ hK
 replace hh:=hh.symm
 subst hh
 refine ⟨fun hlt=>⟨by omega,hlt,get (i:=i) (.refl h) (by omega) fun ad hl1 x hc hr hx1 hxn=>⟨_,_,_,hc,?_⟩⟩,fun hge=>?_⟩
 ·have hb:=tk (i+1)
  rw [List.take_succ_eq_append_getElem hl1,List.flatten_append,List.length_append] at hb
  simp only [List.flatten_cons,List.flatten_nil,List.append_nil] at hb
  have e:IntKind.wrap .i64 (((L.take i).flatten.length:Int)+((x.n:Nat):Int))=((L.take (i+1)).flatten.length:Int):=by
   rw [w64 (by omega) (by omega),List.take_succ_eq_append_getElem hl1,List.flatten_append,List.length_append]
   simp only [List.flatten_cons,List.flatten_nil,List.append_nil]
   omega
  rw [e]
  exact ⟨fun h=>absurd h (by omega),fun _=>hK _ _ (by omega) ⟨rfl,rfl⟩⟩
 ·rw [List.take_of_length_le (by omega)]
  have hb:=tk n
  rw [List.take_of_length_le (by omega)] at hb
  refine (c142 (n:=L.flatten.length) (by omega)).mono ?_
  rintro _ h3 ⟨a1,c1,rfl,f3⟩
  refine ⟨_,_,_,rfl,LoopT.to2 (n:=n) (by omega) (fun i s h'=>Fr h 1 h' s.1 s.2.1 s.2.2 (ints (L.take i).flatten)) f3 ?_⟩
  rintro j ⟨sa,sn,sc⟩ h5 K2 hj f hK2
  dsimp only at f ⊢
  have fl:=f.rd.ilen
  refine ⟨fun hlt=>⟨by omega,hlt,get (i:=j) f.ext (by omega) fun ad hl1 x hc hr hx1 hxn=>⟨_,_,_,hc,ints x.l,hr.read,by have:=hr.len;omega,?_⟩⟩,fun hge=>?_⟩
  ·have hb:=tk (j+1)
   rw [List.take_succ_eq_append_getElem hl1,List.flatten_append,List.length_append] at hb
   simp only [List.flatten_cons,List.flatten_nil,List.append_nil] at hb
   refine f.app (by have:=hr.len;omega) ints_one (by omega) fun a' c' h6 f6 u6 hor=>hK2 _ _ (by omega) ?_
   rw [List.take_succ_eq_append_getElem hl1,List.flatten_append,<- hx1]
   simp only [List.flatten_cons,List.flatten_nil,List.append_nil]
   rw [ints,List.map_append]
   exact f6
  ·rw [List.take_of_length_le (by omega)] at f fl
   subst fl
   exact ⟨_,_,rfl,f⟩
def mustOf (C:Circ) (j:Int):List Int:=C.just.getD j.toNat []++C.fair
def LLong (C:Circ) (must:List Int):Prop:=16384<C.mx+2+C.lats.length+must.length+(2+7*C.lats.length+3*must.length:Nat)∨16384≤C.ins.length∨16384<2*C.lats.length+1+must.length∨16384<C.ands.length+(2+7*C.lats.length+3*must.length)
open Classical in
noncomputable def lsE (C:Circ) (j:Int):Int:=if (chk C).2≠0 then (chk C).2 else if ¬ (0≤j/\j<C.just.length) then 5 else if LLong C (mustOf C j) then 2 else 0
def MadeP (C:Circ) (j:Int) (h:Heap) (w:Value) (h':Heap):Prop:=
 (lsE C j≠0/\w=.tuple #[.pointer none,.int .i64 (lsE C j)]/\Ext h h')∨(lsE C j=0/\∃ k v vf ms nw,w=.tuple #[.pointer (some k),.int .i64 0]/\Mx h h' k v (lassoX C (mustOf C j)) vf ms (lsSave C) (lsSaved C) nw []/\CIs h' vf C)
theorem lsE_ok {C:Circ} {j:Int} (h:lsE C j=0):(chk C).2=0/\(0≤j/\j<C.just.length)/\¬ LLong C (mustOf C j):=by
 unfold lsE at h
 split at h
 ·rename_i h1;exact absurd h h1
 ·rename_i h1
  split at h
  ·simp at h
  ·rename_i h2
   split at h
   ·simp at h
   ·rename_i h3
    exact ⟨Decidable.not_not.1 h1,Decidable.not_not.1 h2,h3⟩
section
variable {h:Heap} {v:CV} {C:Circ}
end
end Go.Proofs.YtdpbdjdgdmheiaaGreat
