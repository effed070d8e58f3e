/- Words and facts that the claim's proof leans on. No condition. -/
import Derived.Test.YtdpbdjdgdmheiaaGreatCS
import Derived.Test.YtdpbdjdgdmheiaaGreatHxV
import Derived.Test.YtdpbdjdgdmheiaaGreatChecked
import Derived.Test.YtdpbdjdgdmheiaaGreatCH
import Derived.Test.YtdpbdjdgdmheiaaGreatCAb
set_option linter.unusedVariables false
set_option linter.unusedSimpArgs false
namespace Go.Proofs.YtdpbdjdgdmheiaaGreat
open Go.Hx Go.Deep
structure CV.Cap (v:CV):Prop where
 i:v.i.n≤v.i.c
 l:v.l.n≤v.l.c
 o:v.o.n≤v.o.c
 b:v.b.n≤v.b.c
 c:v.c.n≤v.c.c
 j:v.j.n≤v.j.c
 f:v.f.n≤v.f.c
 g:v.g.n≤v.g.c
 s:v.s.n≤v.s.c
 m:v.m.n≤v.m.c
section
variable {H:Type} {enc:TypeId×Value->H} {W:World} {base:Nat} {held:Bool}
theorem fits8 {n:Int} (h:(Lit.int .u8 n).wf=true):0≤n/\n≤255:=by
 simp [Lit.wf] at h
 have e1:IntKind.u8.min=0:=rfl
 have e2:IntKind.u8.max=255:=rfl
 omega
theorem open_circ:Opens enc Tryz.prog W base held 29 (fun p:CV×Circ=>p.1.cs) (fun p=>CIs W.heap p.1 p.2/\p.2.Ok/\CV.Cap p.1):=by
 intro fuel cs x h hw
 obtain ⟨hl,hf⟩:=struct_cells (P:=Tryz.prog) (t:=29) Tryz.underlying29 (by kernel_rfl) h hw
 rw [show Tryz.prog.cellsOf 29=11 by kernel_rfl] at hl
 have oi:Opens enc Tryz.prog W base held 22 _ _:=Opens.ints (t:=22) (e:=3) Tryz.underlying22 Tryz.underlying3 (by kernel_rfl) (by kernel_rfl)
 have o3:Opens enc Tryz.prog W base held 23 _ _:=Opens.slice (t:=23) (e:=65) (sz:=3) Tryz.underlying23 (by kernel_rfl) (by omega) L3.csl (Opens.three (t:=65) Tryz.underlying65 (by kernel_rfl) (by kernel_rfl) rfl rfl rfl Tryz.underlying3 Tryz.underlying3 Tryz.underlying3)
 have o4:Opens enc Tryz.prog W base held 25 _ _:=Opens.slice (t:=25) (e:=67) (sz:=3) Tryz.underlying25 (by kernel_rfl) (by omega) L3.csl (Opens.three (t:=67) Tryz.underlying67 (by kernel_rfl) (by kernel_rfl) rfl rfl rfl Tryz.underlying3 Tryz.underlying3 Tryz.underlying3)
 have o5:Opens enc Tryz.prog W base held 26 _ _:=Opens.slice (t:=26) (e:=123) (sz:=3) Tryz.underlying26 (by kernel_rfl) (by omega) Sy.csl (Opens.sym (t:=123) Tryz.underlying123 (by kernel_rfl) (by kernel_rfl) rfl rfl rfl Tryz.underlying5 Tryz.underlying3 Tryz.underlying9)
 have o6:Opens enc Tryz.prog W base held 24 _ _:=Opens.rows (t:=24) (e:=22) (q:=3) Tryz.underlying24 Tryz.underlying22 Tryz.underlying3 (by kernel_rfl) (by kernel_rfl) (by kernel_rfl) (by kernel_rfl)
 have o7:Opens enc Tryz.prog W base held 27 _ _:=Opens.strs (t:=27) (e:=9) Tryz.underlying27 Tryz.underlying9 (by kernel_rfl) (by kernel_rfl)
 obtain ⟨mx,_,h0,e0,k0⟩:=hf 0 _ rfl (by omega) (Opens.int Tryz.underlying3)
 obtain ⟨i,_,h1,e1,k1,c1,n1,w1⟩:=hf 1 _ rfl (by omega) oi
 obtain ⟨l,_,h2,e2,k2,m2,c2,n2,w2⟩:=hf 2 _ rfl (by omega) o3
 obtain ⟨o,_,h3,e3,k3,c10003,n3,w3⟩:=hf 3 _ rfl (by omega) oi
 obtain ⟨b,_,h4,e4,k4,c10004,n4,w4⟩:=hf 4 _ rfl (by omega) oi
 obtain ⟨c,_,h5,e5,k5,c10005,n5,w5⟩:=hf 5 _ rfl (by omega) oi
 obtain ⟨j,_,h6,e6,k6,c10006,n6,w6⟩:=hf 6 _ rfl (by omega) o6
 obtain ⟨f,_,h7,e7,k7,c10007,n7,w7⟩:=hf 7 _ rfl (by omega) oi
 obtain ⟨g,_,h8,e8,k8,m8,c10008,n8,w8⟩:=hf 8 _ rfl (by omega) o4
 obtain ⟨s,_,h9,e9,k9,m9,c10009,n9,w9⟩:=hf 9 _ rfl (by omega) o5
 obtain ⟨m,_,h10,e10,k10,c10010,n10,w10⟩:=hf 10 _ rfl (by omega) o7
 simp only [List.cons.injEq,and_true] at e0 e1 e2 e3 e4 e5 e6 e7 e8 e9 e10
 subst e0 e1 e2 e3 e4 e5 e6 e7 e8 e9 e10
 rw [show Tryz.prog.bytesOf 65=24 by kernel_rfl] at n2
 rw [show Tryz.prog.bytesOf 67=24 by kernel_rfl] at n8
 rw [show Tryz.prog.bytesOf 123=32 by kernel_rfl] at n9
 let v:CV:=⟨mx,⟨i.a,i.n,i.c⟩,⟨l.a,l.n,l.c⟩,⟨o.a,o.n,o.c⟩,⟨b.a,b.n,b.c⟩,⟨c.a,c.n,c.c⟩,⟨j.a,j.n,j.c⟩,⟨f.a,f.n,f.c⟩,⟨g.a,g.n,g.c⟩,⟨s.a,s.n,s.c⟩,⟨m.a,m.n,m.c⟩⟩
 let C:Circ:=⟨mx,i.l,l.l,o.l,b.l,c.l,j.l,f.l,g.l,s.l,m.l⟩
 have r:CIs W.heap v C:=⟨rfl,k1,k2,k3,k4,k5,k6,k7,k8,k9,k10⟩
 have hln:=r.len
 refine ⟨(v,C),list11 hl h0 h1 h2 h3 h4 h5 h6 h7 h8 h9 h10,r,?_,⟨c1,c2,c10003,c10004,c10005,c10006,c10007,c10008,c10009,c10010⟩⟩
 have g3:∀ x:L3,((Lit.int .i64 x.a).wf=true/\(Lit.int .i64 x.b).wf=true/\(Lit.int .i64 x.c).wf=true)->x.ok:=fun x ⟨a,b,c⟩=>⟨wf_i64 a,wf_i64 b,wf_i64 c⟩
 refine ⟨wf_i64 k0,w1,fun x hx=>g3 x (w2 x hx),w3,w4,w5,fun r hr=>⟨(w6 r hr).1,by have:=(w6 r hr).2;omega⟩,w7,fun x hx=>g3 x (w8 x hx),fun x hx=>?_,fun x hx=>by have:=w10 x hx;omega,?_,?_⟩
 ·obtain ⟨a1,a2,a3⟩:=w9 x hx
  exact ⟨wf_i64 a2,(fits8 a1).1,(fits8 a1).2,by omega⟩
 ·have t1:=hln.i;have t2:=hln.l;have t3:=hln.o;have t4:=hln.b;have t5:=hln.c;have t6:=hln.j;have t7:=hln.f;have t8:=hln.g;have t9:=hln.s;have t10:=hln.m
  simp only [v,C] at t1 t2 t3 t4 t5 t6 t7 t8 t9 t10 ⊢
  omega
 ·have t1:=hln.i;have t2:=hln.l;have t3:=hln.o;have t4:=hln.b;have t5:=hln.c;have t6:=hln.j;have t7:=hln.f;have t8:=hln.g;have t9:=hln.s;have t10:=hln.m
  simp only [v,C] at t1 t2 t3 t4 t5 t6 t7 t8 t9 t10 ⊢
  exact ⟨by omega,by omega,by omega,by omega,by omega,by omega,by omega,by omega,by omega,by omega,fun r hr=>(w6 r hr).2⟩
end
end Go.Proofs.YtdpbdjdgdmheiaaGreat
namespace Go.Proofs.YtdpbdjdgdmheiaaGreat
open Go.Hx
theorem w1 {i n:Nat} (h:n<9223372036854775807) (hi:i≤n):IntKind.wrap .i64 ((i:Int)+1)=((i+1:Nat):Int):=by rw [w64 (by omega) (by omega)];rfl
theorem cutA0 (sz:Nat) (a:Option Addr) (c:Nat):cutA sz a c (Int.toNat 0)=a:=by
 unfold cutA
 split
 ·rfl
 ·cases a with
  | none=>rfl
  | some ad=>simp [addr_add0]
theorem eq_of_at {α:Type} {A B:List α} (hl:A.length=B.length) (h:∀ j,j<A.length->A[j]?=B[j]?):A=B:=by
 apply List.ext_getElem? fun j=>?_
 rcases Nat.lt_or_ge j A.length with hj | hj
 ·exact h j hj
 ·rw [List.getElem?_eq_none hj,List.getElem?_eq_none (by omega)]
theorem c41 {h:Heap} {a:Option Addr} {n c:Nat} {l:List Int} (r:Rd h a n (ints l)) (hn:n≤17592186044416):CallsH Tryz.prog 41 #[.slice a n c] h fun w h'=>∃ a' c',w=.slice a' n c'/\Fr h 1 h' a' n c' (ints l):=by
 refine run41 a n c _ h ?_
 unfold VC41
 intro h1
 exact ⟨ints l,(r.ext (Ext.push h _)).read,by rw [r.len];omega,app0n (by rw [r.len];omega) ints_one (by omega) fun a' c' h' f=>⟨a',c',rfl,f⟩⟩
theorem c9 {h:Heap} {a:Option Addr} {n c:Nat} {l:List Int} (r:Rd h a n (ints l)) (hn:n≤17592186044415):CallsH Tryz.prog 9 #[.slice a n c] h fun w h'=>∃ a' c',w=.slice a' n c'/\n+1≤c'/\Fr h 1 h' a' (n+1) c' (ints (l++[-77])):=by
 refine run9 a n c _ h ((c41 r (by omega)).mono ?_)
 rintro _ h1 ⟨a1,c1,rfl,f1⟩
 refine ⟨_,_,_,rfl,?_⟩
 refine app1 f1 rfl (by omega) fun a2 c2 h2 f2=>?_
 have hc:=f2.own.cap
 refine ⟨by omega,by omega,by omega,a2,c2,?_,hc,?_⟩
 ·rw [cutA0]
  simp
 ·rw [ints,List.map_append]
  exact f2
theorem c22 {h:Heap} {a b:Option Addr} {n c m d:Nat} {A B:List Int} (r:Rd h a n (ints A)) (s:Rd h b m (ints B)) (hn:n<9223372036854775807) :
  CallsH Tryz.prog 22 #[.slice a n c,.slice b m d] h (Ret (.bool (decide (A=B))) h):=by
 have la:=r.ilen
 have lb:=s.ilen
 refine run22 a n c b m d _ h ⟨fun hl=>?_,fun hl=>⟨by rw [decide_eq_false];intro e;subst e;omega,rfl⟩⟩
 refine LoopT.to (n:=n) hn (fun i h'=>h'=h/\∀ j,j<i->A[j]?=B[j]?) ⟨rfl,fun j hj=>by omega⟩ ?_
 rintro i _ K hi ⟨rfl,hI⟩ hK
 refine ⟨fun hlt=>?_,fun hlt=>?_⟩
 ·refine ⟨by omega,hlt,r.getn (by omega) fun ad hl1 hc=>⟨_,hc,by omega,by omega,s.getn (by omega) fun ad2 hl2 hc2=>⟨_,hc2,fun e=>?_,fun e=>?_⟩⟩⟩
  ·refine hK _ (by omega) ⟨rfl,fun j hj=>?_⟩
   by_cases hji:j=i
   ·subst hji;rw [List.getElem?_eq_getElem (show j<A.length from hl1),List.getElem?_eq_getElem (show j<B.length from hl2)];exact congrArg some e
   ·exact hI j (by omega)
  ·refine ⟨?_,rfl⟩
   rw [decide_eq_false]
   intro e2;subst e2;exact e rfl
 ·refine ⟨?_,rfl⟩
  rw [decide_eq_true]
  exact eq_of_at (by omega) fun j hj=>hI j (by omega)
theorem c86 {h:Heap} {a:Option Addr} {n c:Nat} {L:List (List Int)} (r:RdRs h a n L) (hn:n≤5864062014805) (hl:∀ x∈L,x.length≤17592186044416) :
  CallsH Tryz.prog 86 #[.slice a n c] h fun w h'=>∃ a' c',∃ rows:List Rw,w=.slice a' n c'/\rows.map Rw.l=L/\Mem h h' (⟨1,a',n,c',rows.map Rw.v⟩::rows.map fun s=>⟨1,s.a,s.n,s.c,ints s.l⟩):=by
 have hlen:=r.len
 refine run86 a n c _ h (LoopT.to2 (n:=n) (by omega) (fun i s h'=>∃ rows:List Rw,s.2.1=i/\rows.length=i/\rows.map Rw.l=L.take i/\Mem h h' (⟨1,s.1,i,s.2.2,rows.map Rw.v⟩::rows.map fun s=>⟨1,s.a,s.n,s.c,ints s.l⟩)) ⟨[],rfl,rfl,rfl,?_⟩ ?_)
 ·exact (Mem.nil (.refl h)).add (t:=⟨1,none,0,0,[]⟩) (.nil (.refl h))
 rintro i ⟨oa,on,oc⟩ h1 K hi ⟨rows,hon,hrl,hrs,m⟩ hK
 dsimp only at hon m ⊢
 subst hon
 refine ⟨fun hlt=>⟨by omega,hlt,(r.ext m.ext).get (by omega) fun ad hl1 s hc hs hsc hsl hsn=>⟨_,_,_,hc,?_⟩⟩,fun hlt=>?_⟩
 ·refine (c41 hs (by rw [hsn];exact hl _ (List.getElem_mem hl1))).mono ?_
  rintro _ h2 ⟨a2,c2,rfl,f2⟩
  refine ⟨_,_,_,rfl,?_⟩
  have m2:Mem h h2 (⟨1,a2,s.n,c2,ints s.l⟩::⟨1,oa,on,oc,rows.map Rw.v⟩::rows.map fun s=>⟨1,s.a,s.n,s.c,ints s.l⟩):=m.add (t:=⟨1,a2,s.n,c2,ints s.l⟩) f2
  have r1:=(Fr.lit (.refl h2) [Value.slice a2 s.n c2] 22 1 rfl).rd
  have m3:=m2.ext' (Ext.push h2 (.cells #[.slice a2 s.n c2] 22))
  have f3:Fr h 1 (h2.push (.cells #[.slice a2 s.n c2] 22)) oa on oc (rows.map Rw.v):=m3.at' 1 rfl
  have hl2:on<L.length:=hl1
  have hsl2:s.l=L[on]:=hsl
  refine ⟨[.slice a2 s.n c2],r1.read,rfl,f3.app rfl (by simp [Value.oneCell']) (by omega) fun a' c' h' f' u hor=>hK _ _ (by omega) ⟨rows++[⟨a2,s.n,c2,s.l⟩],rfl,by simp [hrl],?_,?_⟩⟩
  ·rw [List.map_append,hrs,List.take_succ_eq_append_getElem hl2,<- hsl2];rfl
  ·have m4:=m3.setAt 1 (t':=⟨1,a',on+1,c',rows.map Rw.v++[Value.slice a2 s.n c2]⟩) rfl f' u hor
   simp only [List.set_cons_succ,List.set_cons_zero] at m4
   have e:rows.map Rw.v++[Value.slice a2 s.n c2]=(rows++[(⟨a2,s.n,c2,s.l⟩:Rw)]).map Rw.v:=by rw [List.map_append];rfl
   rw [e] at m4
   refine m4.perm ?_
   simp only [List.map_append,List.map_cons,List.map_nil]
   refine (List.Perm.swap _ _ _).trans (List.Perm.cons _ ?_)
   exact (List.perm_append_comm (l₁:=[_]))
 ·have:on=n:=by omega
  subst this
  exact ⟨oa,oc,rows,rfl,by rw [hrs,List.take_of_length_le (by omega)],m⟩
def itemsC (v:CV) (C:Circ) (rows:List Rw):List Itm:=
 [⟨1,v.i.a,v.i.n,v.i.c,ints C.ins⟩,⟨3,v.l.a,v.l.n,v.l.c,C.lats.flatMap L3.cs⟩,⟨1,v.o.a,v.o.n,v.o.c,ints C.outs⟩,⟨1,v.b.a,v.b.n,v.b.c,ints C.bads⟩,⟨1,v.c.a,v.c.n,v.c.c,ints C.cons⟩,⟨1,v.j.a,v.j.n,v.j.c,rows.map Rw.v⟩,
  ⟨1,v.f.a,v.f.n,v.f.c,ints C.fair⟩,⟨3,v.g.a,v.g.n,v.g.c,C.ands.flatMap L3.cs⟩,⟨3,v.s.a,v.s.n,v.s.c,C.syms.flatMap Sy.cs⟩,⟨1,v.m.a,v.m.n,v.m.c,C.coms.map Value.string⟩]++rows.map fun r=>⟨1,r.a,r.n,r.c,ints r.l⟩
structure CNew (h0 h:Heap) (v:CV) (C:Circ):Prop where
 mx:v.mx=C.mx
 ex:∃ rows,rows.map Rw.l=C.just/\Mem h0 h (itemsC v C rows)
theorem Rd.one {h:Heap} {a:Option Addr} {n:Nat} {vs:List Value} (r:Rd h a (n*1) vs):Rd h a n vs:=by rwa [Nat.mul_one] at r
theorem rows_rd {h0 h:Heap} {a:Option Addr} {n c:Nat} {rows:List Rw} (f:Fr h0 1 h a n c (rows.map Rw.v)) (hr:∀ r∈rows,Fr h0 1 h r.a r.n r.c (ints r.l)):RdRs h a n (rows.map Rw.l):=
 ⟨⟨rows,f.rd,fun s hs=>⟨(hr s hs).rd,(hr s hs).own.cap⟩,rfl⟩⟩
theorem CNew.cis {h0 h:Heap} {v:CV} {C:Circ} (c:CNew h0 h v C):CIs h v C:=by
 obtain ⟨rows,hj,m⟩:=c.ex
 have hr:∀ r∈rows,Fr h0 1 h r.a r.n r.c (ints r.l):=fun r hr=>m.fr ⟨1,r.a,r.n,r.c,ints r.l⟩ (List.mem_append_right _ (List.mem_map.2 ⟨r,hr,rfl⟩))
 exact ⟨c.mx,Rd.one (m.at' 0 rfl).own.rd,(m.at' 1 rfl).own.rd,Rd.one (m.at' 2 rfl).own.rd,Rd.one (m.at' 3 rfl).own.rd,Rd.one (m.at' 4 rfl).own.rd,hj▸rows_rd (m.at' 5 rfl) hr,Rd.one (m.at' 6 rfl).own.rd,(m.at' 7 rfl).own.rd,(m.at' 8 rfl).own.rd,Rd.one (m.at' 9 rfl).own.rd⟩
theorem CNew.ext {h0 h h':Heap} {v:CV} {C:Circ} (c:CNew h0 h v C) (u:Ext h h'):CNew h0 h' v C:=⟨c.mx,let ⟨rows,hj,m⟩:=c.ex;⟨rows,hj,m.ext' u⟩⟩
theorem CNew.base {h0 h1 h:Heap} {v:CV} {C:Circ} (c:CNew h1 h v C) (u:Ext h0 h1):CNew h0 h v C:=⟨c.mx,let ⟨rows,hj,m⟩:=c.ex;⟨rows,hj,m.base u⟩⟩
theorem CNew.heap {h0 h:Heap} {v:CV} {C:Circ} (c:CNew h0 h v C):Ext h0 h:=let ⟨_,_,m⟩:=c.ex;m.ext
def Circ.zero:Circ:=⟨0,[],[],[],[],[],[],[],[],[],[]⟩
theorem CNew.zero {h0 h:Heap} (u:Ext h0 h):CNew h0 h CV.zero Circ.zero:=by
 refine ⟨rfl,[],rfl,u,fun t ht=>?_,?_⟩
 ·simp only [itemsC,CV.zero,Circ.zero,List.map_nil,List.flatMap_nil,List.append_nil,List.mem_cons,List.not_mem_nil,or_false,ints] at ht
  rcases ht with rfl | rfl | rfl | rfl | rfl | rfl | rfl | rfl | rfl | rfl <;> exact .nil u
 ·have:∀ t∈itemsC CV.zero Circ.zero [],t.a=none:=fun t ht=>by
   simp only [itemsC,CV.zero,Circ.zero,List.map_nil,List.flatMap_nil,List.append_nil,List.mem_cons,List.not_mem_nil,or_false,ints] at ht
   rcases ht with rfl | rfl | rfl | rfl | rfl | rfl | rfl | rfl | rfl | rfl <;> rfl
  exact List.pairwise_of_forall_mem_list fun s hs t ht=>by rw [this s hs];exact Dis.none
end Go.Proofs.YtdpbdjdgdmheiaaGreat
namespace Go.Proofs.YtdpbdjdgdmheiaaGreat
open Go.Hx
theorem L3.one {l:List L3}:∀ y∈l.flatMap L3.cs,y.oneCell'=true:=by
 intro y hy
 obtain ⟨x,_,hx⟩:=List.mem_flatMap.1 hy
 simp only [L3.cs,List.mem_cons,List.not_mem_nil,or_false] at hx
 rcases hx with rfl | rfl | rfl <;> rfl
theorem Sy.one {l:List Sy}:∀ y∈l.flatMap Sy.cs,y.oneCell'=true:=by
 intro y hy
 obtain ⟨x,_,hx⟩:=List.mem_flatMap.1 hy
 simp only [Sy.cs,List.mem_cons,List.not_mem_nil,or_false] at hx
 rcases hx with rfl | rfl | rfl <;> rfl
theorem str_one {l:List ByteArray}:∀ y∈l.map Value.string,y.oneCell'=true:=by intro y hy;obtain ⟨x,_,rfl⟩:=List.mem_map.1 hy;rfl
theorem CV.one (v:CV):∀ y∈v.cs,y.oneCell'=true:=by simp [CV.cs,Value.oneCell']
theorem flt0 {n:Nat} {h0 h:Heap} {U:Nat->Prop} {l:List Itm} (m:MemU n h0 h U l) (hn:n=h0.size) {b:Nat} (hb:U b) {e:TypeId} (ho:h[b]?=some (Obj.cells #[] e)) (sz:Nat):MemU n h0 h (minus U b) (⟨sz,some ⟨b,0,none⟩,0,0,[]⟩::l):=by
 have hlt:=m.lt b hb
 exact m.take hb (by omega) (t:=⟨sz,some ⟨b,0,none⟩,0,0,[]⟩) ⟨Own.empty ho,(fun ad ha=>by cases ha;simp only;omega),m.mem.ext⟩ fun ad ha=>by cases ha;rfl
theorem c40 {h:Heap} {v:CV} {C:Circ} (r:CIs h v C) (ok:C.Ok):CallsH Tryz.prog 40 #[v.v] h fun w h'=>∃ v',w=CV.v v'/\CNew h h' v' C:=by
 obtain ⟨q1,q2,q3,q4,q5,q6,q7,q8,q9,q10⟩:=r.len
 have hn:=ok.n
 have hnb:=ok.nb
 refine run40 v _ h ?_
 unfold VC40
 intro h1 h2
 have e2:Ext h h2:=(Ext.box h _).trans (Ext.box h1 _)
 have hs1:h1.size=h.size+1:=by simp [h1]
 have hs2:h2.size=h.size+2:=by simp [h2,hs1]
 have hb:Rd h2 (some ⟨h.size,0,none⟩) 11 v.cs:=(boxC v 29).ext (Ext.box h1 _)
 have fb:Fr h 1 h2 (some ⟨h1.size,0,none⟩) 11 11 CV.zero.cs:=Fr.lit (Ext.box h _) CV.zero.cs 29 11 rfl
 have r2:=r.ext e2
 have blt:∀ k,(Addr.add ⟨h.size,0,none⟩ k).block<h2.size:=fun k=>by rw [add_block];simp only;omega
 have m:=MemU.start (Mem.nil (.refl h2))
 refine ⟨blt 1,_,_,_,hb.fld 1 rfl,fun U h3 g=>(c41 (r2.i.ext g.ext) (by omega)).mono ?_⟩
 rintro _ h4 ⟨a1,c1,rfl,f⟩
 obtain ⟨k,m1⟩:=(m.grow g).add1 (t:=⟨1,a1,v.i.n,c1,ints C.ins⟩) f
 refine ⟨_,_,_,rfl,k,fun U1 h5 b g hU ho=>?_⟩
 have m2:=flt0 (m1.grow g) rfl hU ho 3
 refine ⟨blt 2,_,_,_,(hb.ext m2.mem.ext).fld 2 rfl,fun U2 h6 g=>?_⟩
 have m3:=m2.grow g
 have e3:=m3.mem.ext
 refine ⟨C.lats.flatMap L3.cs,(r2.l.ext e3).read,(r2.l).len,app0 (m3.mem.at' 0 rfl) (r2.l).len L3.one (by omega) fun a2 c2 h7 f u hor=>?_⟩
 obtain ⟨k,m4⟩:=m3.setAt 0 (t':=⟨3,a2,v.l.n,c2,C.lats.flatMap L3.cs⟩) rfl f u hor
 refine ⟨k,blt 3,_,_,_,(hb.ext m4.mem.ext).fld 3 rfl,fun U3 h8 g=>(c41 (r2.o.ext ((m4.grow g).mem.ext)) (by omega)).mono ?_⟩
 rintro _ h9 ⟨a3,c10003,rfl,f⟩
 obtain ⟨k,m5⟩:=(m4.grow g).add1 (t:=⟨1,a3,v.o.n,c10003,ints C.outs⟩) f
 refine ⟨_,_,_,rfl,k,blt 4,_,_,_,(hb.ext m5.mem.ext).fld 4 rfl,fun U4 h10 g=>(c41 (r2.b.ext ((m5.grow g).mem.ext)) (by omega)).mono ?_⟩
 rintro _ h11 ⟨a4,c10004,rfl,f⟩
 obtain ⟨k,m6⟩:=(m5.grow g).add1 (t:=⟨1,a4,v.b.n,c10004,ints C.bads⟩) f
 refine ⟨_,_,_,rfl,k,blt 5,_,_,_,(hb.ext m6.mem.ext).fld 5 rfl,fun U5 h12 g=>(c41 (r2.c.ext ((m6.grow g).mem.ext)) (by omega)).mono ?_⟩
 rintro _ h13 ⟨a5,c10005,rfl,f⟩
 obtain ⟨k,m7⟩:=(m6.grow g).add1 (t:=⟨1,a5,v.c.n,c10005,ints C.cons⟩) f
 refine ⟨_,_,_,rfl,k,blt 6,_,_,_,(hb.ext m7.mem.ext).fld 6 rfl,fun U6 h14 g=>(c86 (r2.j.ext ((m7.grow g).mem.ext)) (by omega) fun x hx=>(ok.just x hx).2).mono ?_⟩
 rintro _ h15 ⟨a6,c10006,rows,rfl,hrows,f⟩
 obtain ⟨k,m8⟩:=(m7.grow g).add f
 refine ⟨_,_,_,rfl,k,blt 7,_,_,_,(hb.ext m8.mem.ext).fld 7 rfl,fun U7 h16 g=>(c41 (r2.f.ext ((m8.grow g).mem.ext)) (by omega)).mono ?_⟩
 rintro _ h17 ⟨a7,c10007,rfl,f⟩
 obtain ⟨k,m9⟩:=(m8.grow g).add1 (t:=⟨1,a7,v.f.n,c10007,ints C.fair⟩) f
 refine ⟨_,_,_,rfl,k,fun U8 h18 b g hU ho=>?_⟩
 have m10:=flt0 (m9.grow g) rfl hU ho 3
 refine ⟨blt 8,_,_,_,(hb.ext m10.mem.ext).fld 8 rfl,fun U9 h19 g=>?_⟩
 have m11:=m10.grow g
 refine ⟨C.ands.flatMap L3.cs,(r2.g.ext m11.mem.ext).read,(r2.g).len,app0 (m11.mem.at' 0 rfl) (r2.g).len L3.one (by omega) fun a8 c10008 h20 f u hor=>?_⟩
 obtain ⟨k,m12⟩:=m11.setAt 0 (t':=⟨3,a8,v.g.n,c10008,C.ands.flatMap L3.cs⟩) rfl f u hor
 refine ⟨k,fun U10 h21 b g hU ho=>?_⟩
 have m13:=flt0 (m12.grow g) rfl hU ho 3
 refine ⟨blt 9,_,_,_,(hb.ext m13.mem.ext).fld 9 rfl,fun U11 h22 g=>?_⟩
 have m14:=m13.grow g
 refine ⟨C.syms.flatMap Sy.cs,(r2.s.ext m14.mem.ext).read,(r2.s).len,app0 (m14.mem.at' 0 rfl) (r2.s).len Sy.one (by omega) fun a9 c10009 h23 f u hor=>?_⟩
 obtain ⟨k,m15⟩:=m14.setAt 0 (t':=⟨3,a9,v.s.n,c10009,C.syms.flatMap Sy.cs⟩) rfl f u hor
 refine ⟨k,fun U12 h24 b g hU ho=>?_⟩
 have m16:=flt0 (m15.grow g) rfl hU ho 1
 refine ⟨blt 10,_,_,_,(hb.ext m16.mem.ext).fld 10 rfl,fun U13 h25 g=>?_⟩
 have m17:=m16.grow g
 refine ⟨C.coms.map Value.string,(r2.m.ext m17.mem.ext).read,by rw [(r2.m).len];omega,app0 (m17.mem.at' 0 rfl) (by rw [(r2.m).len];show v.m.n=v.m.n*1;omega) str_one (by omega) fun a10 c10010 h26 f u hor=>?_⟩
 obtain ⟨k,m18⟩:=m17.setAt 0 (t':=⟨1,a10,v.m.n,c10010,C.coms.map Value.string⟩) rfl f u hor
 refine ⟨k,blt 0,_,(hb.ext m18.mem.ext).fld 0 rfl,fun U14 h27 g=>?_⟩
 have m19:=m18.grow g
 let v':CV:=⟨v.mx,⟨a1,v.i.n,c1⟩,⟨a2,v.l.n,c2⟩,⟨a3,v.o.n,c10003⟩,⟨a4,v.b.n,c10004⟩,⟨a5,v.c.n,c10005⟩,⟨a6,v.j.n,c10006⟩,⟨a7,v.f.n,c10007⟩,⟨a8,v.g.n,c10008⟩,⟨a9,v.s.n,c10009⟩,⟨a10,v.m.n,c10010⟩⟩
 refine (fb.upd m19.mem.ext).put (ws:=v'.cs) rfl (CV.one v') fun h28 f u=>⟨u.1,?_⟩
 refine ldC f.rd ⟨v',rfl,r.mx,rows,hrows,?_⟩
 have mo:=m19.mem.over e2 u fun b ⟨ad,ha,e⟩=>by cases ha;simp only at e;omega
 refine mo.perm ?_
 exact perm3 (α:=Itm) [⟨1,a10,v.m.n,c10010,C.coms.map Value.string⟩,⟨3,a9,v.s.n,c10009,C.syms.flatMap Sy.cs⟩,⟨3,a8,v.g.n,c10008,C.ands.flatMap L3.cs⟩,⟨1,a7,v.f.n,c10007,ints C.fair⟩,⟨1,a6,v.j.n,c10006,rows.map Rw.v⟩] (rows.map fun s=>⟨1,s.a,s.n,s.c,ints s.l⟩)
  [⟨1,a5,v.c.n,c10005,ints C.cons⟩,⟨1,a4,v.b.n,c10004,ints C.bads⟩,⟨1,a3,v.o.n,c10003,ints C.outs⟩,⟨3,a2,v.l.n,c2,C.lats.flatMap L3.cs⟩,⟨1,a1,v.i.n,c1,ints C.ins⟩]
end Go.Proofs.YtdpbdjdgdmheiaaGreat
namespace Go.Proofs.YtdpbdjdgdmheiaaGreat
open Go.Hx
abbrev L77:L3:=⟨-77,0,0⟩
structure LIs (h:Heap) (v:CV) (C:Circ):Prop where
 mx:v.mx=C.mx
 i:Rd h v.i.a (v.i.n+1) (ints (C.ins++[-77]))
 l:Rd h v.l.a ((v.l.n+1)*3) ((C.lats++[L77]).flatMap L3.cs)
 o:Rd h v.o.a (v.o.n+1) (ints (C.outs++[-77]))
 b:Rd h v.b.a (v.b.n+1) (ints (C.bads++[-77]))
 c:Rd h v.c.a (v.c.n+1) (ints (C.cons++[-77]))
 j:RdRs h v.j.a v.j.n C.just
 f:Rd h v.f.a (v.f.n+1) (ints (C.fair++[-77]))
 g:Rd h v.g.a ((v.g.n+1)*3) ((C.ands++[L77]).flatMap L3.cs)
 s:Rd h v.s.a (v.s.n*3) (C.syms.flatMap Sy.cs)
 m:Rd h v.m.a v.m.n (C.coms.map Value.string)
 cap:v.i.n+1≤v.i.c/\v.l.n+1≤v.l.c/\v.o.n+1≤v.o.c/\v.b.n+1≤v.b.c/\v.c.n+1≤v.c.c/\v.f.n+1≤v.f.c/\v.g.n+1≤v.g.c
theorem LIs.ext {h h':Heap} {v:CV} {C:Circ} (r:LIs h v C) (u:Ext h h'):LIs h' v C:=
 ⟨r.mx,r.i.ext u,r.l.ext u,r.o.ext u,r.b.ext u,r.c.ext u,r.j.ext u,r.f.ext u,r.g.ext u,r.s.ext u,r.m.ext u,r.cap⟩
theorem lent_rd {h:Heap} {a:Option Addr} {n:Nat} {l:List Int} (r:Rd h a (n+1) (ints (l++[-77]))):Rd h a n (ints l):=by
 have hl:=r.ilen
 simp only [List.length_append,List.length_cons,List.length_nil] at hl
 have:=r.take n (by omega)
 rwa [ints,List.map_append,List.take_append_of_le_length (by simp;omega),List.take_of_length_le (by simp;omega)] at this
theorem lent_rd3 {h:Heap} {a:Option Addr} {n:Nat} {l:List L3} (r:Rd h a ((n+1)*3) ((l++[L77]).flatMap L3.cs)):Rd h a (n*3) (l.flatMap L3.cs):=by
 have hl:=r.elen L3.csl (by omega)
 simp only [List.length_append,List.length_cons,List.length_nil] at hl
 have:=r.take (n*3) (by omega)
 rwa [List.flatMap_append,List.take_append_of_le_length (by rw [flat_len L3.csl];omega),List.take_of_length_le (by rw [flat_len L3.csl];omega)] at this
theorem LIs.cis {h:Heap} {v:CV} {C:Circ} (r:LIs h v C):CIs h v C:=
 ⟨r.mx,lent_rd r.i,lent_rd3 r.l,lent_rd r.o,lent_rd r.b,lent_rd r.c,r.j,lent_rd r.f,lent_rd3 r.g,r.s,r.m⟩
theorem _root_.Go.Hx.Mem.far {h0 h h':Heap} {l:List Itm} {S:Nat->Prop} (m:Mem h0 h l) (u:Upd S h h') (hS:∀ b,h0.size≤b->b<h.size->¬ S b):∀ t∈l,Rd h' t.a (t.n*t.sz) t.vs/\t.n≤t.c:=fun t ht=>
 ⟨(m.fr t ht).own.rd.upd u fun ad ha hs=>hS _ ((m.fr t ht).new ad ha) (m.lt ht ha) hs,(m.fr t ht).own.cap⟩
theorem _root_.Go.Hx.Mem.farAt {h0 h h':Heap} {l:List Itm} {S:Nat->Prop} (m:Mem h0 h l) (u:Upd S h h') (hS:∀ b,h0.size≤b->b<h.size->¬ S b) (k:Nat) {sz n c:Nat} {a:Option Addr} {vs:List Value} (hk:l[k]?=some ⟨sz,a,n,c,vs⟩):Rd h' a (n*sz) vs:=(m.far u hS _ (List.mem_of_getElem? hk)).1
def LNew (h0 h:Heap) (v:CV) (C:Circ):Prop:=∀ (S:Nat->Prop) (h':Heap),Upd S h h'->(∀ b,h0.size≤b->b<h.size->¬ S b)->LIs h' v C
theorem c8n {h:Heap} {v:CV} {C:Circ} (r:CIs h v C) (ok:C.Ok):CallsH Tryz.prog 8 #[v.v] h fun w h'=>∃ v',w=CV.v v'/\LNew h h' v' C/\Ext h h':=by
 obtain ⟨q1,q2,q3,q4,q5,q6,q7,q8,q9,q10⟩:=r.len
 have hn:=ok.n
 have hnb:=ok.nb
 refine run8 v _ h ?_
 unfold VC8
 intro h1 h2
 have e2:Ext h h2:=(Ext.box h _).trans (Ext.box h1 _)
 have hs1:h1.size=h.size+1:=by simp [h1]
 have hs2:h2.size=h.size+2:=by simp [h2,hs1]
 have hb:Rd h2 (some ⟨h.size,0,none⟩) 11 v.cs:=(boxC v 29).ext (Ext.box h1 _)
 have fb:Fr h 1 h2 (some ⟨h1.size,0,none⟩) 11 11 CV.zero.cs:=Fr.lit (Ext.box h _) CV.zero.cs 29 11 rfl
 have r2:=r.ext e2
 refine ldC hb ((c40 r2 ok).mono ?_)
 rintro _ h3 ⟨v1,rfl,cn⟩
 obtain ⟨rows,hrows,m0⟩:=cn.ex
 obtain ⟨p1,p2,p3,p4,p5,p6,p7,p8,p9,p10⟩:=cn.cis.len
 refine ⟨_,_,_,_,_,_,_,_,_,_,_,_,_,_,_,_,_,_,_,_,_,_,_,_,_,_,_,_,_,_,_,rfl,?_⟩
 intro h4
 have f4:Fr h3 1 h4 (some ⟨h3.size,0,none⟩) 11 11 CV.zero.cs:=Fr.lit (.refl h3) CV.zero.cs 29 11 rfl
 refine f4.put (ws:=v1.cs) rfl (CV.one v1) fun h5 f5 u5=>?_
 have m1:Mem h2 h5 (⟨1,some ⟨h3.size,0,none⟩,11,11,v1.cs⟩::itemsC v1 C rows):=m0.add (t:=⟨1,some ⟨h3.size,0,none⟩,11,11,v1.cs⟩) f5
 have hs5:=m1.ext.1
 have blt:∀ {h':Heap} (e:Ext h2 h') k,(Addr.add ⟨h.size,0,none⟩ k).block<h'.size:=fun e k=>by rw [add_block];have:=e.1;simp only;omega
 refine ⟨blt m1.ext 1,_,_,_,(hb.ext m1.ext).fld 1 rfl,(c9 (r2.i.ext m1.ext) (by omega)).mono ?_⟩
 rintro _ h6 ⟨a1,c1,rfl,d1,f6⟩
 have m2:=m1.add (t:=⟨1,a1,v.i.n+1,c1,ints (C.ins++[-77])⟩) f6
 refine ⟨_,_,_,rfl,fun b hb=>f6.ext.2 b hb fun x=>x,blt m1.ext 3,_,_,_,(hb.ext m2.ext).fld 3 rfl,(c9 (r2.o.ext m2.ext) (by omega)).mono ?_⟩
 rintro _ h7 ⟨a2,c2,rfl,d2,f7⟩
 have m3:=m2.add (t:=⟨1,a2,v.o.n+1,c2,ints (C.outs++[-77])⟩) f7
 refine ⟨_,_,_,rfl,fun b hb=>f7.ext.2 b (Nat.lt_of_lt_of_le hb f6.ext.1) fun x=>x,blt m1.ext 4,_,_,_,(hb.ext m3.ext).fld 4 rfl,(c9 (r2.b.ext m3.ext) (by omega)).mono ?_⟩
 rintro _ h8 ⟨a3,c10003,rfl,d3,f8⟩
 have m4:=m3.add (t:=⟨1,a3,v.b.n+1,c10003,ints (C.bads++[-77])⟩) f8
 refine ⟨_,_,_,rfl,fun b hb=>f8.ext.2 b (Nat.lt_of_lt_of_le hb (Nat.le_trans f6.ext.1 f7.ext.1)) fun x=>x,?_⟩
 refine (m4.get 3 rfl).cellAt 1 (by omega) rfl fun h9 u9 f9=>?_
 have m5:=m4.setAt 3 (t':=⟨1,some ⟨h3.size,0,none⟩,11,11,_⟩) rfl f9 u9 (.inl rfl)
 refine (m5.get 3 rfl).cellAt 3 (by omega) rfl fun h10 u10 f10=>?_
 have m6:=m5.setAt 3 (t':=⟨1,some ⟨h3.size,0,none⟩,11,11,_⟩) rfl f10 u10 (.inl rfl)
 refine (m6.get 3 rfl).cellAt 4 (by omega) rfl fun h11 u11 f11=>?_
 have m7:=m6.setAt 3 (t':=⟨1,some ⟨h3.size,0,none⟩,11,11,_⟩) rfl f11 u11 (.inl rfl)
 refine ⟨blt m7.ext 5,_,_,_,(hb.ext m7.ext).fld 5 rfl,(c9 (r2.c.ext m7.ext) (by omega)).mono ?_⟩
 rintro _ h12 ⟨a4,c10004,rfl,d4,f12⟩
 have m8:=m7.add (t:=⟨1,a4,v.c.n+1,c10004,ints (C.cons++[-77])⟩) f12
 refine ⟨_,_,_,rfl,fun b hb=>f12.ext.2 b hb fun x=>x,blt m7.ext 7,_,_,_,(hb.ext m8.ext).fld 7 rfl,(c9 (r2.f.ext m8.ext) (by omega)).mono ?_⟩
 rintro _ h13 ⟨a5,c10005,rfl,d5,f13⟩
 have m9:=m8.add (t:=⟨1,a5,v.f.n+1,c10005,ints (C.fair++[-77])⟩) f13
 refine ⟨_,_,_,rfl,fun b hb=>f13.ext.2 b (Nat.lt_of_lt_of_le hb f12.ext.1) fun x=>x,?_⟩
 refine (m9.get 5 rfl).cellAt 5 (by omega) rfl fun h14 u14 f14=>?_
 have m10:=m9.setAt 5 (t':=⟨1,some ⟨h3.size,0,none⟩,11,11,_⟩) rfl f14 u14 (.inl rfl)
 refine (m10.get 5 rfl).cellAt 7 (by omega) rfl fun h15 u15 f15=>?_
 have m11:=m10.setAt 5 (t':=⟨1,some ⟨h3.size,0,none⟩,11,11,_⟩) rfl f15 u15 (.inl rfl)
 have key:∀ (h15:Heap) (k:Nat) (l:List Itm) (a:Option Addr) (n c:Nat) (X:List L3) (vs:List Value),Mem h2 h15 l->l[5]?=some ⟨1,some ⟨h3.size,0,none⟩,11,11,vs⟩->l[k]?=some ⟨3,a,n,c,X.flatMap L3.cs⟩->k≠5->n≤5864062014634->∀ (e:TypeId) (Q:Option Addr->Nat->Heap->Prop),
   (∀ a' c' h',n+1≤c'->Mem h2 h' (l.set k ⟨3,a',n+1,c',(X++[L77]).flatMap L3.cs⟩)->Q a' c' h') ->
   (let h_15:Heap:=(h15).push (.cells #[(.int .i64 (-77)),(.int .i64 0),(.int .i64 0)] e);Zone.r (Zone.of fun b=>b=h3.size∨b=h.size) h15 h_15/\∃ ys:List Value,ReadL h_15 (some (Addr.mk (h15).size 0 none)) ys/\ys.length=1*3/\AppS h_15 a n c e 24 3 #[(.int .i64 0),(.int .i64 0),(.int .i64 0)] ys 1 fun apA apN apC h_16=>Zone.r (Zone.of fun b=>b=h3.size∨b=h.size) h_15 h_16/\Q apA apC h_16):=by
  intro h15 k l a n c X vs m hk5 hk hne hn2 e Q hQ h16
  have e16:Ext h15 h16:=Ext.push _ _
  have m':=m.ext' e16
  have r16:=(Fr.lit (.refl h15) L77.cs e 3 rfl).rd
  have hlt3:h3.size<h15.size:=m.lt (List.mem_of_getElem? hk5) rfl
  refine ⟨fun b hb=>e16.2 b (by have:=m.ext.1;omega) fun x=>x,L77.cs,r16.read,rfl,?_⟩
  refine (m'.get k hk).app rfl (by simp [Value.oneCell']) (by omega) fun a' c' h' f' u hor=>⟨fun b hb=>u.2 b (by have:=m'.ext.1;have:=e16.1;omega) fun ⟨ad,ha,e⟩=>?_,?_⟩
  ·have hnew:=(m.get k hk).new ad ha
   rcases hb with rfl | rfl
   ·have dd:=m.dis
    rw [List.pairwise_iff_getElem] at dd
    obtain ⟨hk1,hk2⟩:=List.getElem?_eq_some_iff.1 hk
    obtain ⟨h51,h52⟩:=List.getElem?_eq_some_iff.1 hk5
    rcases Nat.lt_or_ge k 5 with hlt | hge
    ·have:=dd k 5 hk1 h51 hlt ad ⟨h3.size,0,none⟩ (by rw [hk2];exact ha) (by rw [h52])
     exact this e.symm
    ·have:=dd 5 k h51 hk1 (by omega) ⟨h3.size,0,none⟩ ad (by rw [h52]) (by rw [hk2];exact ha)
     exact this e
   ·omega
  ·refine hQ a' c' h' f'.own.cap ?_
   have:=m'.setAt k (t':=⟨3,a',n+1,c',X.flatMap L3.cs++L77.cs⟩) hk f' u hor
   rwa [show X.flatMap L3.cs++L77.cs=(X++[L77]).flatMap L3.cs by rw [List.flatMap_append];simp] at this
 have has:∀ {h':Heap} {k:Nat} {x:Nat} (b:Addr),(x=h3.size∨x=h.size)->b.block=x->Zone.hasL (Zone.of fun b=>b=h3.size∨b=h.size) h' (b.add k):=fun b hx hb=>Zone.has.cell fun h'' hz=>by
  rw [add_block];exact hz _ (hb▸hx)
 refine ⟨Zone.of fun b=>b=h3.size∨b=h.size,has ⟨h3.size,0,none⟩ (.inl rfl) rfl,_,_,_,(m11.get 5 rfl).rd.fld 2 rfl,?_⟩
 refine key h15 7 _ _ _ _ C.lats _ m11 rfl rfl (by omega) (by omega) 65 _ fun a6 c10006 h16 d6 m12=>?_
 refine ⟨has ⟨h.size,0,none⟩ (.inr rfl) rfl,_,_,_,(hb.ext m12.ext).fld 2 rfl,by omega,by omega,by omega,?_⟩
 rw [cutA0]
 refine (m12.get 5 rfl).cellAt 2 (by omega) rfl fun h17 u17 f17=>?_
 have m13:=m12.setAt 5 (t':=⟨1,some ⟨h3.size,0,none⟩,11,11,_⟩) rfl f17 u17 (.inl rfl)
 refine ⟨Zone.of fun b=>b=h3.size∨b=h.size,has ⟨h3.size,0,none⟩ (.inl rfl) rfl,_,_,_,(m13.get 5 rfl).rd.fld 8 rfl,?_⟩
 refine key h17 13 _ _ _ _ C.ands _ m13 rfl rfl (by omega) (by omega) 67 _ fun a7 c10007 h18 d7 m14=>?_
 refine ⟨has ⟨h.size,0,none⟩ (.inr rfl) rfl,_,_,_,(hb.ext m14.ext).fld 8 rfl,by omega,by omega,by omega,?_⟩
 rw [cutA0]
 refine (m14.get 5 rfl).cellAt 8 (by omega) rfl fun h19 u19 f19=>?_
 have m15:=m14.setAt 5 (t':=⟨1,some ⟨h3.size,0,none⟩,11,11,_⟩) rfl f19 u19 (.inl rfl)
 let v':CV:=⟨v1.mx,⟨a1,v.i.n,c1⟩,⟨a6,v.l.n,c10006⟩,⟨a2,v.o.n,c2⟩,⟨a3,v.b.n,c10003⟩,⟨a4,v.c.n,c10004⟩,v1.j,⟨a5,v.f.n,c10005⟩,⟨a7,v.g.n,c10007⟩,v1.s,v1.m⟩
 refine ldC (v:=v') (by have:=(m15.get 5 rfl).rd;simpa [v',CV.cs] using this) ?_
 refine (fb.upd m15.ext).put (ws:=v'.cs) rfl (CV.one v') fun h20 f20 u20=>?_
 have m16:=m15.over e2 u20 fun b ⟨ad,ha,e⟩=>by cases ha;simp only at e;omega
 refine ldC f20.rd ⟨v',rfl,fun S h21 u21 hS=>?_,m16.ext⟩
 have one:∀ {a:Option Addr} {n:Nat} {vs:List Value},Rd h21 a (n*1) vs->Rd h21 a n vs:=fun r=>by rwa [Nat.mul_one] at r
 have hr:∀ r∈rows,Rd h21 r.a r.n (ints r.l)/\r.n≤r.c:=fun r hr=>by
  obtain ⟨k1,k2⟩:=m16.far u21 hS ⟨1,r.a,r.n,r.c,ints r.l⟩ (by
   simp only [itemsC,List.cons_append,List.nil_append,List.set_cons_succ,List.set_cons_zero,List.mem_cons,List.mem_map]
   exact .inr (.inr (.inr (.inr (.inr (.inr (.inr (.inr (.inr (.inr (.inr (.inr (.inr (.inr (.inr (.inr ⟨r,hr,rfl⟩))))))))))))))))
  exact ⟨one k1,k2⟩
 have el:v1.l.n=v.l.n:=by omega
 have eg:v1.g.n=v.g.n:=by omega
 have rl:=m16.farAt u21 hS 7 rfl
 have rg:=m16.farAt u21 hS 13 rfl
 rw [el] at rl d6
 rw [eg] at rg d7
 exact ⟨cn.mx,one (m16.farAt u21 hS 4 rfl),rl,one (m16.farAt u21 hS 3 rfl),one (m16.farAt u21 hS 2 rfl),one (m16.farAt u21 hS 1 rfl),hrows▸⟨⟨rows,one (m16.farAt u21 hS 11 rfl),hr,rfl⟩⟩,one (m16.farAt u21 hS 0 rfl),rg,m16.farAt u21 hS 14 rfl,one (m16.farAt u21 hS 15 rfl),d1,d6,d2,d3,d4,d5,d7⟩
theorem c8 {h:Heap} {v:CV} {C:Circ} (r:CIs h v C) (ok:C.Ok):CallsH Tryz.prog 8 #[v.v] h fun w h'=>∃ v',w=CV.v v'/\LIs h' v' C/\Ext h h':=
 (c8n r ok).mono fun _ _ ⟨v',h1,h2,h3⟩=>⟨v',h1,h2 nob _ (.refl _) fun _ _ _ h=>h,h3⟩
end Go.Proofs.YtdpbdjdgdmheiaaGreat
namespace Go.Proofs.YtdpbdjdgdmheiaaGreat
open Go.Hx
theorem c70 {h:Heap} {a b:Option Addr} {n c m d:Nat} {A:List L3} (r:Rd h a (n*3) (A.flatMap L3.cs)) (s:Rd h b (m*3) (A.flatMap L3.cs)) (hn:n<9223372036854775807):CallsH Tryz.prog 70 #[.slice a n c,.slice b m d] h (Ret (.bool true) h):=by
 have la:=r.elen L3.csl (by omega)
 have lb:=s.elen L3.csl (by omega)
 refine run70 a n c b m d _ h ⟨fun hl=>?_,fun hl=>absurd (by omega) hl⟩
 refine LoopT.to (n:=n) hn (fun i h'=>h'=h) rfl ?_
 rintro i _ K hi rfl hK
 refine ⟨fun hlt=>?_,fun hlt=>⟨rfl,rfl⟩⟩
 exact ⟨by omega,hlt,r.elem L3.csl (by omega) (i:=i) (by omega) fun ad hl1 re=>⟨_,_,_,re.cells,by omega,by omega,s.elem L3.csl (by omega) (i:=i) (by omega) fun ad2 hl2 re2=>⟨_,_,_,re2.cells,fun _=>hK _ (by omega) rfl,fun e=>absurd rfl e⟩⟩⟩
theorem c72 {h:Heap} {a b:Option Addr} {n c m d:Nat} {A:List L3} (r:Rd h a (n*3) (A.flatMap L3.cs)) (s:Rd h b (m*3) (A.flatMap L3.cs)) (hn:n<9223372036854775807):CallsH Tryz.prog 72 #[.slice a n c,.slice b m d] h (Ret (.bool true) h):=by
 have la:=r.elen L3.csl (by omega)
 have lb:=s.elen L3.csl (by omega)
 refine run72 a n c b m d _ h ⟨fun hl=>?_,fun hl=>absurd (by omega) hl⟩
 refine LoopT.to (n:=n) hn (fun i h'=>h'=h) rfl ?_
 rintro i _ K hi rfl hK
 refine ⟨fun hlt=>?_,fun hlt=>⟨rfl,rfl⟩⟩
 exact ⟨by omega,hlt,r.elem L3.csl (by omega) (i:=i) (by omega) fun ad hl1 re=>⟨_,_,_,re.cells,by omega,by omega,s.elem L3.csl (by omega) (i:=i) (by omega) fun ad2 hl2 re2=>⟨_,_,_,re2.cells,fun _=>hK _ (by omega) rfl,fun e=>absurd rfl e⟩⟩⟩
theorem c73 {h:Heap} {a b:Option Addr} {n c m d:Nat} {A:List Sy} (r:Rd h a (n*3) (A.flatMap Sy.cs)) (s:Rd h b (m*3) (A.flatMap Sy.cs)) (hn:n<9223372036854775807):CallsH Tryz.prog 73 #[.slice a n c,.slice b m d] h (Ret (.bool true) h):=by
 have la:=r.elen Sy.csl (by omega)
 have lb:=s.elen Sy.csl (by omega)
 refine run73 a n c b m d _ h ⟨fun hl=>?_,fun hl=>absurd (by omega) hl⟩
 refine LoopT.to (n:=n) hn (fun i h'=>h'=h) rfl ?_
 rintro i _ K hi rfl hK
 refine ⟨fun hlt=>?_,fun hlt=>⟨rfl,rfl⟩⟩
 exact ⟨by omega,hlt,r.elem Sy.csl (by omega) (i:=i) (by omega) fun ad hl1 re=>⟨_,_,_,re.cells,by omega,by omega,s.elem Sy.csl (by omega) (i:=i) (by omega) fun ad2 hl2 re2=>⟨_,_,_,re2.cells,fun _=>hK _ (by omega) rfl,fun e=>absurd rfl e⟩⟩⟩
theorem c74 {h:Heap} {a b:Option Addr} {n c m d:Nat} {A:List ByteArray} (r:Rd h a n (A.map Value.string)) (s:Rd h b m (A.map Value.string)) (hn:n<9223372036854775807):CallsH Tryz.prog 74 #[.slice a n c,.slice b m d] h (Ret (.bool true) h):=by
 have la:=r.ilen
 have lb:=s.ilen
 refine run74 a n c b m d _ h ⟨fun hl=>?_,fun hl=>absurd (by omega) hl⟩
 refine LoopT.to (n:=n) hn (fun i h'=>h'=h) rfl ?_
 rintro i _ K hi rfl hK
 refine ⟨fun hlt=>?_,fun hlt=>⟨rfl,rfl⟩⟩
 exact ⟨by omega,hlt,r.getn (by omega) fun ad hl1 hc=>⟨_,hc,by omega,by omega,s.getn (by omega) fun ad2 hl2 hc2=>⟨_,hc2,fun _=>hK _ (by omega) rfl,fun e=>absurd rfl e⟩⟩⟩
theorem c22t {h:Heap} {a b:Option Addr} {n c m d:Nat} {A:List Int} (r:Rd h a n (ints A)) (s:Rd h b m (ints A)) (hn:n<9223372036854775807):CallsH Tryz.prog 22 #[.slice a n c,.slice b m d] h (Ret (.bool true) h):=by
 have:=c22 (c:=c) (d:=d) r s hn
 rwa [decide_eq_true rfl] at this
theorem c71 {h:Heap} {a b:Option Addr} {n c m d:Nat} {A:List (List Int)} (r:RdRs h a n A) (s:RdRs h b m A) (hn:n<9223372036854775807) (hx:∀ x∈A,x.length<9223372036854775807):CallsH Tryz.prog 71 #[.slice a n c,.slice b m d] h (Ret (.bool true) h):=by
 have la:=r.len
 have lb:=s.len
 refine run71 a n c b m d _ h ⟨fun hl=>?_,fun hl=>absurd (by omega) hl⟩
 refine LoopT.to (n:=n) hn (fun i h'=>h'=h) rfl ?_
 rintro i _ K hi rfl hK
 refine ⟨fun hlt=>?_,fun hlt=>⟨rfl,rfl⟩⟩
 refine ⟨by omega,hlt,r.get (by omega) fun ad hl1 x hc hr _ hx1 hxn=>⟨_,_,_,hc,by omega,by omega,s.get (by omega) fun ad2 hl2 y hc2 hr2 _ hy1 hyn=>⟨_,_,_,hc2,?_⟩⟩⟩
 rw [hx1] at hr
 rw [hy1] at hr2
 exact use (c22t hr hr2 (by rw [hxn];exact hx _ (List.getElem_mem hl1))) ⟨true,rfl,BIf.f (hK _ (by omega) rfl)⟩
structure CSm (C:Circ):Prop where
 n:C.ins.length<9223372036854775807/\C.lats.length<9223372036854775807/\C.outs.length<9223372036854775807/\C.bads.length<9223372036854775807/\C.cons.length<9223372036854775807/\C.just.length<9223372036854775807/\C.fair.length<9223372036854775807 /\
  C.ands.length<9223372036854775807/\C.syms.length<9223372036854775807/\C.coms.length<9223372036854775807
 just:∀ r∈C.just,r.length<9223372036854775807
theorem Circ.Ok.sm {C:Circ} (ok:C.Ok):CSm C:=by
 obtain ⟨n1,n2,n3,n4,n5,n6,n7,n8,n9,n10,n11⟩:=ok.nb
 exact ⟨⟨by omega,by omega,by omega,by omega,by omega,by omega,by omega,by omega,by omega,by omega⟩,fun r hr=>by have:=n11 r hr;omega⟩
theorem c32 {h:Heap} {v w:CV} {C:Circ} (r:CIs h v C) (s:CIs h w C) (ok:CSm C):CallsH Tryz.prog 32 #[v.v,w.v] h (Xt (.bool true) h):=by
 obtain ⟨q1,q2,q3,q4,q5,q6,q7,q8,q9,q10⟩:=r.len
 obtain ⟨n1,n2,n3,n4,n5,n6,n7,n8,n9,n10⟩:=ok.n
 refine run32 v
  w _ h ?_
 unfold VC32
 intro h1 h2
 have e1:Ext h h1:=Ext.box h _
 have e2:Ext h h2:=e1.trans (Ext.box h1 _)
 have hb:Rd h2 (some ⟨h.size,0,none⟩) 11 v.cs:=(boxC v 29).ext (Ext.box h1 _)
 have hw:Rd h2 (some ⟨h1.size,0,none⟩) 11 w.cs:=boxC w 29
 have r2:=r.ext e2
 have s2:=s.ext e2
 refine ⟨_,hb.fld 0 rfl,_,hw.fld 0 rfl,fun _=>?_,fun e=>absurd (r.mx.trans s.mx.symm) e⟩
 refine ⟨_,_,_,hb.fld 1 rfl,_,_,_,hw.fld 1 rfl,use (c22t r2.i s2.i (by omega)) ⟨true,rfl,BIf.t ?_⟩⟩
 refine ⟨_,_,_,hb.fld 2 rfl,_,_,_,hw.fld 2 rfl,use (c70 r2.l s2.l (by omega)) ⟨true,rfl,BIf.t ?_⟩⟩
 refine ⟨_,_,_,hb.fld 3 rfl,_,_,_,hw.fld 3 rfl,use (c22t r2.o s2.o (by omega)) ⟨true,rfl,BIf.t ?_⟩⟩
 refine ⟨_,_,_,hb.fld 4 rfl,_,_,_,hw.fld 4 rfl,use (c22t r2.b s2.b (by omega)) ⟨true,rfl,?_⟩⟩
 refine ⟨_,_,_,hb.fld 5 rfl,_,_,_,hw.fld 5 rfl,use (c22t r2.c s2.c (by omega)) ⟨true,rfl,BIf.t ?_⟩⟩
 refine ⟨_,_,_,hb.fld 6 rfl,_,_,_,hw.fld 6 rfl,use (c71 r2.j s2.j (by omega) ok.just) ⟨true,rfl,BIf.t ?_⟩⟩
 refine ⟨_,_,_,hb.fld 7 rfl,_,_,_,hw.fld 7 rfl,use (c22t r2.f s2.f (by omega)) ⟨true,rfl,BIf.t ?_⟩⟩
 refine ⟨_,_,_,hb.fld 8 rfl,_,_,_,hw.fld 8 rfl,use (c72 r2.g s2.g (by omega)) ⟨true,rfl,BIf.t (BIf.t ?_)⟩⟩
 refine ⟨_,_,_,hb.fld 9 rfl,_,_,_,hw.fld 9 rfl,use (c73 r2.s s2.s (by omega)) ⟨true,rfl,BIf.t ?_⟩⟩
 exact ⟨_,_,_,hb.fld 10 rfl,_,_,_,hw.fld 10 rfl,use (c74 r2.m s2.m (by omega)) ⟨true,rfl,rfl,e2⟩⟩
theorem c24 {h0 h:Heap} {a:Option Addr} {n c:Nat} {vs:List Value} (f:Fr h0 1 h a n c vs) (hn:n<9223372036854775807) (mk:Int):CallsH Tryz.prog 24 #[.slice a n c,.int .i64 mk] h fun w h'=>w=.tuple #[]/\∃ vs',Fr h0 1 h' a n c vs'/\Upd (atb a) h h':=by
 refine run24 a n c mk _ h (LoopT.to (n:=n) hn (fun i h'=>∃ vs',Fr h0 1 h' a n c vs'/\Upd (atb a) h h') ⟨vs,f,.refl _⟩ ?_)
 rintro i h1 K hi ⟨vs',f1,u1⟩ hK
 refine ⟨fun hlt=>⟨by omega,hlt,f1.set1 (by omega) hlt rfl fun h2 u2 f2=>hK _ (by omega) ⟨_,f2,u1.trans u2⟩⟩,fun hlt=>⟨fun hc=>?_,fun hc=>⟨rfl,vs',f1,u1⟩⟩⟩
 have hw:IntKind.wrap .i64 ((n:Int)+1)=((n+1:Nat):Int):=by rw [w64 (by omega) (by omega)];rfl
 refine ⟨by omega,by rw [hw];omega,by rw [hw];omega,by omega,by rw [hw];omega,?_⟩
 rw [cutA0]
 cases a with
 | none=>have:=f1.own.mem;simp only [MemOk] at this;omega
 | some ad=>
  have hl:=f1.own.rd.len
  refine f1.own.write (n*1) [.int .i64 mk] (by simp;omega) (by simp [Value.oneCell']) fun h2 u2 w2=>⟨rfl,vs',⟨w2 n vs' hl f1.own.cap fun i hi=>?_,f1.new,Fr.ext_of f1.ext f1.new (u2.mono fun i _ hi=>⟨ad,rfl,hi⟩)⟩,u1.trans (u2.mono fun i _ hi=>⟨ad,rfl,hi⟩)⟩
  rw [if_neg (by omega)]
structure Spt (h0 h:Heap) (v:CV) (rows:List Rw) (l:List Itm):Prop where
 mem:Mem h0 h l
 len:l.length=10+rows.length
 at0:∃ vs,l[0]?=some ⟨1,v.i.a,v.i.n,v.i.c,vs⟩
 at1:∃ vs,l[1]?=some ⟨3,v.l.a,v.l.n,v.l.c,vs⟩
 at2:∃ vs,l[2]?=some ⟨1,v.o.a,v.o.n,v.o.c,vs⟩
 at3:∃ vs,l[3]?=some ⟨1,v.b.a,v.b.n,v.b.c,vs⟩
 at4:∃ vs,l[4]?=some ⟨1,v.c.a,v.c.n,v.c.c,vs⟩
 at5:l[5]?=some ⟨1,v.j.a,v.j.n,v.j.c,rows.map Rw.v⟩
 at6:∃ vs,l[6]?=some ⟨1,v.f.a,v.f.n,v.f.c,vs⟩
 at7:∃ vs,l[7]?=some ⟨3,v.g.a,v.g.n,v.g.c,vs⟩
 at8:∃ vs,l[8]?=some ⟨3,v.s.a,v.s.n,v.s.c,vs⟩
 at9:∃ vs,l[9]?=some ⟨1,v.m.a,v.m.n,v.m.c,vs⟩
 row:∀ i (hi:i<rows.length),∃ vs,l[10+i]?=some ⟨1,rows[i].a,rows[i].n,rows[i].c,vs⟩
theorem at_set {l:List Itm} {k j:Nat} {sz n c:Nat} {a:Option Addr} {vs0 vs1:List Value} (hk:l[k]?=some ⟨sz,a,n,c,vs0⟩) {sz' n' c':Nat} {a':Option Addr} (hj:∃ vs,l[j]?=some ⟨sz',a',n',c',vs⟩):∃ vs,(l.set k ⟨sz,a,n,c,vs1⟩)[j]?=some ⟨sz',a',n',c',vs⟩:=by
 obtain ⟨vs,hj⟩:=hj
 by_cases h:k=j
 ·subst h
  rw [hk] at hj
  simp only [Option.some.injEq,Itm.mk.injEq] at hj
  obtain ⟨rfl,rfl,rfl,rfl,_⟩:=hj
  exact ⟨vs1,by rw [List.getElem?_set_self (List.getElem?_eq_some_iff.1 hk).1]⟩
 ·exact ⟨vs,by rw [List.getElem?_set_ne h];exact hj⟩
theorem Spt.set {h0 h h':Heap} {v:CV} {rows:List Rw} {l:List Itm} (s:Spt h0 h v rows l) {k:Nat} (h5:k≠5) {sz n c:Nat} {a:Option Addr} {vs0 vs1:List Value} (hk:l[k]?=some ⟨sz,a,n,c,vs0⟩) (f:Fr h0 sz h' a n c vs1) (u:Upd (atb a) h h') :
  Spt h0 h' v rows (l.set k ⟨sz,a,n,c,vs1⟩):=
 ⟨s.mem.setAt k (t':=⟨sz,a,n,c,vs1⟩) hk f u (.inl rfl),by rw [List.length_set];exact s.len,at_set hk s.at0,at_set hk s.at1,at_set hk s.at2,at_set hk s.at3,at_set hk s.at4,by rw [List.getElem?_set_ne h5];exact s.at5,at_set hk s.at6,at_set hk s.at7,at_set hk s.at8,at_set hk s.at9,
  fun i hi=>at_set hk (s.row i hi)⟩
end Go.Proofs.YtdpbdjdgdmheiaaGreat
namespace Go.Proofs.YtdpbdjdgdmheiaaGreat
open Go.Hx
theorem c13 {h:Heap} {a b:Option Addr} {n c m d:Nat} {A:List Int} (r:Rd h a (n+1) (ints (A++[-77]))) (s:Rd h b m (ints A)) (hn:n<9223372036854775807) (hc:n+1≤c):CallsH Tryz.prog 13 #[.slice a n c,.slice b m d] h (Ret (.bool true) h):=by
 have la:=r.ilen
 have lb:=s.ilen
 simp only [List.length_append,List.length_cons,List.length_nil] at la
 refine run13 a n c b m d _ h (use (c22t (lent_rd r) s hn) ⟨true,rfl,BIf.t ?_⟩)
 have hw:IntKind.wrap .i64 ((m:Int)+1)=((m+1:Nat):Int):=by rw [w64 (by omega) (by omega)];rfl
 refine ⟨by omega,by rw [hw];omega,by rw [hw];omega,by omega,by rw [hw];omega,?_⟩
 rw [cutA0]
 refine r.getn (by show m<_;omega) fun ad hl1 hc=>⟨_,hc,fun _=>⟨rfl,rfl⟩,fun e=>absurd ?_ e⟩
 have:m=A.length:=by omega
 subst this
 simp
theorem c12 {h:Heap} {v w:CV} {C:Circ} (r:LIs h v C) (s:CIs h w C) (ok:CSm C):CallsH Tryz.prog 12 #[v.v,w.v] h (Xt (.bool true) h):=by
 obtain ⟨q1,q2,q3,q4,q5,q6,q7,q8,q9,q10⟩:=r.cis.len
 obtain ⟨p1,p2,p3,p4,p5,p6,p7,p8,p9,p10⟩:=s.len
 obtain ⟨n1,n2,n3,n4,n5,n6,n7,n8,n9,n10⟩:=ok.n
 obtain ⟨k1,k2,k3,k4,k5,k6,k7⟩:=r.cap
 refine run12 v
  w _ h ?_
 unfold VC12
 intro h1 h2
 have e1:Ext h h1:=Ext.box h _
 have e2:Ext h h2:=e1.trans (Ext.box h1 _)
 have hb:Rd h2 (some ⟨h.size,0,none⟩) 11 v.cs:=(boxC v 29).ext (Ext.box h1 _)
 have hw:Rd h2 (some ⟨h1.size,0,none⟩) 11 w.cs:=boxC w 29
 have r2:=r.ext e2
 have s2:=s.ext e2
 refine ⟨_,_,_,hb.fld 1 rfl,_,_,_,hw.fld 1 rfl,use (c13 r2.i s2.i (by omega) k1) ⟨true,rfl,BIf.t ?_⟩⟩
 refine ⟨_,_,_,hb.fld 3 rfl,_,_,_,hw.fld 3 rfl,use (c13 r2.o s2.o (by omega) k3) ⟨true,rfl,BIf.t ?_⟩⟩
 refine ⟨_,_,_,hb.fld 4 rfl,_,_,_,hw.fld 4 rfl,use (c13 r2.b s2.b (by omega) k4) ⟨true,rfl,BIf.t ?_⟩⟩
 refine ⟨_,_,_,hb.fld 5 rfl,_,_,_,hw.fld 5 rfl,use (c13 r2.c s2.c (by omega) k5) ⟨true,rfl,BIf.t ?_⟩⟩
 refine ⟨_,_,_,hb.fld 7 rfl,_,_,_,hw.fld 7 rfl,use (c13 r2.f s2.f (by omega) k6) ⟨true,rfl,BIf.t ?_⟩⟩
 refine ldC hb (ldC hw (useX (c32 r2.cis s2 ok) fun h3 e3=>⟨true,rfl,BIf.t ?_⟩))
 have hb3:=hb.ext e3
 have hw3:=hw.ext e3
 have r3:=r2.ext e3
 have facts:∀ {m c:Nat},m+1≤c->m<9223372036854775807->0≤(IntKind.wrap .i64 (((m:Nat):Int)+1))/\((IntKind.wrap .i64 (((m:Nat):Int)+1)):Int)≤(c:Nat)/\(((m:Nat):Int):Int)<((Int.toNat (IntKind.wrap .i64 (((m:Nat):Int)+1))-Int.toNat 0):Nat):=by
  intro m c hc hm
  have hwr:IntKind.wrap .i64 ((m:Int)+1)=((m+1:Nat):Int):=by rw [w64 (by omega) (by omega)];rfl
  exact ⟨by rw [hwr];omega,by rw [hwr];omega,by rw [hwr];omega⟩
 have behind:∀ {a:Option Addr} {n m c:Nat} {X:List L3} {K:Addr->Prop},Rd h3 a ((n+1)*3) ((X++[L77]).flatMap L3.cs)->X.length=m ->
   (∀ ad,cellsH h3 (ad.add (Int.toNat (m:Nat)*3)) 0 [.int .i64 (-77),.int .i64 0,.int .i64 0]->K ad)->AtP (cutA 3 a c (Int.toNat 0)) K:=by
  intro a n m c X K rx hX hK
  have hlx:=rx.elen L3.csl (by omega)
  simp only [List.length_append,List.length_cons,List.length_nil] at hlx
  rw [cutA0]
  refine rx.elem L3.csl (by omega) (i:=m) (by omega) fun ad hl1 re=>hK ad ?_
  subst hX
  have e:(X++[L77])[X.length]=L77:=by simp
  rw [e] at re
  exact re.cells
 obtain ⟨g1,g2,g3⟩:=facts (m:=w.l.n) (c:=v.l.c) (by omega) (by omega)
 refine ⟨_,_,_,hb3.fld 2 rfl,_,_,_,hw3.fld 2 rfl,by omega,g1,g2,_,_,_,hw3.fld 2 rfl,by omega,g3,behind r3.l (by omega) fun ad hc=>⟨_,_,_,hc,fun _=>?_,fun e=>absurd rfl e⟩⟩
 obtain ⟨g1,g2,g3⟩:=facts (m:=w.g.n) (c:=v.g.c) (by omega) (by omega)
 exact ⟨_,_,_,hb3.fld 8 rfl,_,_,_,hw3.fld 8 rfl,by omega,g1,g2,_,_,_,hw3.fld 8 rfl,by omega,g3,behind r3.g (by omega) fun ad hc=>⟨_,_,_,hc,fun _=>⟨rfl,e2.trans e3⟩,fun e=>absurd rfl e⟩⟩
end Go.Proofs.YtdpbdjdgdmheiaaGreat
namespace Go.Hx
end Go.Hx
namespace Go.Proofs.YtdpbdjdgdmheiaaGreat
open Go.Hx
theorem Rw.one {l:List Rw}:∀ y∈l.map Rw.v,y.oneCell'=true:=by intro y hy;obtain ⟨x,_,rfl⟩:=List.mem_map.1 hy;rfl
theorem chk_size {C:Circ} (h:(chk C).2=0):sizeE C=0:=by
 unfold chk at h
 split at h
 ·rename_i h1;exact absurd h h1
 ·rename_i h1;exact Decidable.not_not.1 h1
theorem chk_ok {C:Circ} (h:(chk C).2=0):sizeE C=0/\(defs C).2.1=0/\(uses C (defs C).2.2).2=0/\cyc C (defs C).2.2=none/\syF C=none/\comF C=none:=by
 unfold chk at h
 split at h
 ·rename_i h1;exact absurd h h1
 rename_i h1
 split at h
 ·rename_i h2;exact absurd h h2
 rename_i h2
 split at h
 ·rename_i h3;exact absurd h h3
 rename_i h3
 split at h
 ·simp at h
 rename_i h4
 split at h
 ·simp at h
 rename_i h5
 split at h
 ·simp at h
 rename_i h6
 exact ⟨Decidable.not_not.1 h1,Decidable.not_not.1 h2,Decidable.not_not.1 h3,h4,h5,h6⟩
theorem chk_bounds {C:Circ} (h:(chk C).2=0):(0≤C.mx/\C.mx≤16384)/\C.ins.length≤16384/\C.lats.length≤16384/\C.outs.length≤16384/\C.bads.length≤16384/\C.cons.length≤16384/\C.just.length≤16384/\C.fair.length≤16384/\C.ands.length≤16384/\C.syms.length≤16384/\C.coms.length≤16384/\(C.just.map List.length).sum≤16384:=by
 obtain ⟨h1,h2⟩:=sizeE_zero (chk_size h)
 unfold Big at h2
 exact ⟨h1,by omega,by omega,by omega,by omega,by omega,by omega,by omega,by omega,by omega,by omega,by omega⟩
end Go.Proofs.YtdpbdjdgdmheiaaGreat
