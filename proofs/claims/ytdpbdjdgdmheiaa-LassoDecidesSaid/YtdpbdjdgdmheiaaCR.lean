/- Words and facts that the claim's proof leans on. No condition. -/
import Derived.Test.YtdpbdjdgdmheiaaCS
import Derived.Test.YtdpbdjdgdmheiaaHxV
import Derived.Test.YtdpbdjdgdmheiaaChecked
import Derived.Test.YtdpbdjdgdmheiaaCH
import Derived.Test.YtdpbdjdgdmheiaaCAb
set_option linter.unusedVariables false
set_option linter.unusedSimpArgs false
namespace Go.Proofs.Ytdpbdjdgdmheiaa
open Go.Hx Go.Deep
structure CV.Cap (v:CV):Prop where
 i:v.i.n≤v.i.c
 l:v.l.n≤v.l.c
 o:v.o.n≤v.o.c
 b:v.b.n≤v.b.c
 c:v.c.n≤v.c.c
 j:v.j.n≤v.j.c
 f:v.f.n≤v.f.c
 g:v.g.n≤v.g.c
 s:v.s.n≤v.s.c
 m:v.m.n≤v.m.c
section
variable {H:Type} {enc:TypeId×Value->H} {W:World} {base:Nat} {held:Bool}
theorem fits8 {n:Int} (h:(Lit.int .u8 n).wf=true):0≤n/\n≤255:=by
 simp [Lit.wf] at h
 have e1:IntKind.u8.min=0:=rfl
 have e2:IntKind.u8.max=255:=rfl
 omega
theorem open_circ:Opens enc Try.prog W base held 29 (fun p:CV×Circ=>p.1.cs) (fun p=>CIs W.heap p.1 p.2/\p.2.Ok/\CV.Cap p.1):=by
 intro fuel cs x h hw
 obtain ⟨hl,hf⟩:=struct_cells (P:=Try.prog) (t:=29) Try.underlying29 (by kernel_rfl) h hw
 rw [show Try.prog.cellsOf 29=11 by kernel_rfl] at hl
 have oi:Opens enc Try.prog W base held 22 _ _:=Opens.ints (t:=22) (e:=3) Try.underlying22 Try.underlying3 (by kernel_rfl) (by kernel_rfl)
 have o3:Opens enc Try.prog W base held 23 _ _:=Opens.slice (t:=23) (e:=63) (sz:=3) Try.underlying23 (by kernel_rfl) (by omega) L3.csl (Opens.three (t:=63) Try.underlying63 (by kernel_rfl) (by kernel_rfl) rfl rfl rfl Try.underlying3 Try.underlying3 Try.underlying3)
 have o4:Opens enc Try.prog W base held 25 _ _:=Opens.slice (t:=25) (e:=120) (sz:=3) Try.underlying25 (by kernel_rfl) (by omega) L3.csl (Opens.three (t:=120) Try.underlying120 (by kernel_rfl) (by kernel_rfl) rfl rfl rfl Try.underlying3 Try.underlying3 Try.underlying3)
 have o5:Opens enc Try.prog W base held 26 _ _:=Opens.slice (t:=26) (e:=71) (sz:=3) Try.underlying26 (by kernel_rfl) (by omega) Sy.csl (Opens.sym (t:=71) Try.underlying71 (by kernel_rfl) (by kernel_rfl) rfl rfl rfl Try.underlying5 Try.underlying3 Try.underlying9)
 have o6:Opens enc Try.prog W base held 24 _ _:=Opens.rows (t:=24) (e:=22) (q:=3) Try.underlying24 Try.underlying22 Try.underlying3 (by kernel_rfl) (by kernel_rfl) (by kernel_rfl) (by kernel_rfl)
 have o7:Opens enc Try.prog W base held 27 _ _:=Opens.strs (t:=27) (e:=9) Try.underlying27 Try.underlying9 (by kernel_rfl) (by kernel_rfl)
 obtain ⟨mx,_,h0,e0,k0⟩:=hf 0 _ rfl (by omega) (Opens.int Try.underlying3)
 obtain ⟨i,_,h1,e1,k1,c1,n1,w1⟩:=hf 1 _ rfl (by omega) oi
 obtain ⟨l,_,h2,e2,k2,m2,c2,n2,w2⟩:=hf 2 _ rfl (by omega) o3
 obtain ⟨o,_,h3,e3,k3,c10003,n3,w3⟩:=hf 3 _ rfl (by omega) oi
 obtain ⟨b,_,h4,e4,k4,c10004,n4,w4⟩:=hf 4 _ rfl (by omega) oi
 obtain ⟨c,_,h5,e5,k5,c10005,n5,w5⟩:=hf 5 _ rfl (by omega) oi
 obtain ⟨j,_,h6,e6,k6,c10006,n6,w6⟩:=hf 6 _ rfl (by omega) o6
 obtain ⟨f,_,h7,e7,k7,c10007,n7,w7⟩:=hf 7 _ rfl (by omega) oi
 obtain ⟨g,_,h8,e8,k8,m8,c10008,n8,w8⟩:=hf 8 _ rfl (by omega) o4
 obtain ⟨s,_,h9,e9,k9,m9,c10009,n9,w9⟩:=hf 9 _ rfl (by omega) o5
 obtain ⟨m,_,h10,e10,k10,c10010,n10,w10⟩:=hf 10 _ rfl (by omega) o7
 simp only [List.cons.injEq,and_true] at e0 e1 e2 e3 e4 e5 e6 e7 e8 e9 e10
 subst e0 e1 e2 e3 e4 e5 e6 e7 e8 e9 e10
 rw [show Try.prog.bytesOf 63=24 by kernel_rfl] at n2
 rw [show Try.prog.bytesOf 120=24 by kernel_rfl] at n8
 rw [show Try.prog.bytesOf 71=32 by kernel_rfl] at n9
 let v:CV:=⟨mx,⟨i.a,i.n,i.c⟩,⟨l.a,l.n,l.c⟩,⟨o.a,o.n,o.c⟩,⟨b.a,b.n,b.c⟩,⟨c.a,c.n,c.c⟩,⟨j.a,j.n,j.c⟩,⟨f.a,f.n,f.c⟩,⟨g.a,g.n,g.c⟩,⟨s.a,s.n,s.c⟩,⟨m.a,m.n,m.c⟩⟩
 let C:Circ:=⟨mx,i.l,l.l,o.l,b.l,c.l,j.l,f.l,g.l,s.l,m.l⟩
 have r:CIs W.heap v C:=⟨rfl,k1,k2,k3,k4,k5,k6,k7,k8,k9,k10⟩
 have hln:=r.len
 refine ⟨(v,C),list11 hl h0 h1 h2 h3 h4 h5 h6 h7 h8 h9 h10,r,?_,⟨c1,c2,c10003,c10004,c10005,c10006,c10007,c10008,c10009,c10010⟩⟩
 have g3:∀ x:L3,((Lit.int .i64 x.a).wf=true/\(Lit.int .i64 x.b).wf=true/\(Lit.int .i64 x.c).wf=true)->x.ok:=fun x ⟨a,b,c⟩=>⟨wf_i64 a,wf_i64 b,wf_i64 c⟩
 refine ⟨wf_i64 k0,w1,fun x hx=>g3 x (w2 x hx),w3,w4,w5,fun r hr=>⟨(w6 r hr).1,by have:=(w6 r hr).2;omega⟩,w7,fun x hx=>g3 x (w8 x hx),fun x hx=>?_,fun x hx=>by have:=w10 x hx;omega,?_,?_⟩
 ·obtain ⟨a1,a2,a3⟩:=w9 x hx
  exact ⟨wf_i64 a2,(fits8 a1).1,(fits8 a1).2,by omega⟩
 ·have t1:=hln.i;have t2:=hln.l;have t3:=hln.o;have t4:=hln.b;have t5:=hln.c;have t6:=hln.j;have t7:=hln.f;have t8:=hln.g;have t9:=hln.s;have t10:=hln.m
  simp only [v,C] at t1 t2 t3 t4 t5 t6 t7 t8 t9 t10 ⊢
  omega
 ·have t1:=hln.i;have t2:=hln.l;have t3:=hln.o;have t4:=hln.b;have t5:=hln.c;have t6:=hln.j;have t7:=hln.f;have t8:=hln.g;have t9:=hln.s;have t10:=hln.m
  simp only [v,C] at t1 t2 t3 t4 t5 t6 t7 t8 t9 t10 ⊢
  exact ⟨by omega,by omega,by omega,by omega,by omega,by omega,by omega,by omega,by omega,by omega,fun r hr=>(w6 r hr).2⟩
end
end Go.Proofs.Ytdpbdjdgdmheiaa
namespace Go.Proofs.Ytdpbdjdgdmheiaa
open Go.Hx
theorem w1 {i n:Nat} (h:n<9223372036854775807) (hi:i≤n):IntKind.wrap .i64 ((i:Int)+1)=((i+1:Nat):Int):=by rw [w64 (by omega) (by omega)];rfl
theorem cutA0 (sz:Nat) (a:Option Addr) (c:Nat):cutA sz a c (Int.toNat 0)=a:=by
 unfold cutA
 split
 ·rfl
 ·cases a with
  | none=>rfl
  | some ad=>simp [addr_add0]
theorem eq_of_at {α:Type} {A B:List α} (hl:A.length=B.length) (h:∀ j,j<A.length->A[j]?=B[j]?):A=B:=by
 apply List.ext_getElem? fun j=>?_
 rcases Nat.lt_or_ge j A.length with hj | hj
 ·exact h j hj
 ·rw [List.getElem?_eq_none hj,List.getElem?_eq_none (by omega)]
def itemsC (v:CV) (C:Circ) (rows:List Rw):List Itm:=
 [⟨1,v.i.a,v.i.n,v.i.c,ints C.ins⟩,⟨3,v.l.a,v.l.n,v.l.c,C.lats.flatMap L3.cs⟩,⟨1,v.o.a,v.o.n,v.o.c,ints C.outs⟩,⟨1,v.b.a,v.b.n,v.b.c,ints C.bads⟩,⟨1,v.c.a,v.c.n,v.c.c,ints C.cons⟩,⟨1,v.j.a,v.j.n,v.j.c,rows.map Rw.v⟩,
  ⟨1,v.f.a,v.f.n,v.f.c,ints C.fair⟩,⟨3,v.g.a,v.g.n,v.g.c,C.ands.flatMap L3.cs⟩,⟨3,v.s.a,v.s.n,v.s.c,C.syms.flatMap Sy.cs⟩,⟨1,v.m.a,v.m.n,v.m.c,C.coms.map Value.string⟩]++rows.map fun r=>⟨1,r.a,r.n,r.c,ints r.l⟩
structure CNew (h0 h:Heap) (v:CV) (C:Circ):Prop where
 mx:v.mx=C.mx
 ex:∃ rows,rows.map Rw.l=C.just/\Mem h0 h (itemsC v C rows)
theorem Rd.one {h:Heap} {a:Option Addr} {n:Nat} {vs:List Value} (r:Rd h a (n*1) vs):Rd h a n vs:=by rwa [Nat.mul_one] at r
theorem rows_rd {h0 h:Heap} {a:Option Addr} {n c:Nat} {rows:List Rw} (f:Fr h0 1 h a n c (rows.map Rw.v)) (hr:∀ r∈rows,Fr h0 1 h r.a r.n r.c (ints r.l)):RdRs h a n (rows.map Rw.l):=
 ⟨⟨rows,f.rd,fun s hs=>⟨(hr s hs).rd,(hr s hs).own.cap⟩,rfl⟩⟩
theorem CNew.cis {h0 h:Heap} {v:CV} {C:Circ} (c:CNew h0 h v C):CIs h v C:=by
 obtain ⟨rows,hj,m⟩:=c.ex
 have hr:∀ r∈rows,Fr h0 1 h r.a r.n r.c (ints r.l):=fun r hr=>m.fr ⟨1,r.a,r.n,r.c,ints r.l⟩ (List.mem_append_right _ (List.mem_map.2 ⟨r,hr,rfl⟩))
 exact ⟨c.mx,Rd.one (m.at' 0 rfl).own.rd,(m.at' 1 rfl).own.rd,Rd.one (m.at' 2 rfl).own.rd,Rd.one (m.at' 3 rfl).own.rd,Rd.one (m.at' 4 rfl).own.rd,hj▸rows_rd (m.at' 5 rfl) hr,Rd.one (m.at' 6 rfl).own.rd,(m.at' 7 rfl).own.rd,(m.at' 8 rfl).own.rd,Rd.one (m.at' 9 rfl).own.rd⟩
theorem CNew.ext {h0 h h':Heap} {v:CV} {C:Circ} (c:CNew h0 h v C) (u:Ext h h'):CNew h0 h' v C:=⟨c.mx,let ⟨rows,hj,m⟩:=c.ex;⟨rows,hj,m.ext' u⟩⟩
theorem CNew.base {h0 h1 h:Heap} {v:CV} {C:Circ} (c:CNew h1 h v C) (u:Ext h0 h1):CNew h0 h v C:=⟨c.mx,let ⟨rows,hj,m⟩:=c.ex;⟨rows,hj,m.base u⟩⟩
theorem CNew.heap {h0 h:Heap} {v:CV} {C:Circ} (c:CNew h0 h v C):Ext h0 h:=let ⟨_,_,m⟩:=c.ex;m.ext
def Circ.zero:Circ:=⟨0,[],[],[],[],[],[],[],[],[],[]⟩
theorem CNew.zero {h0 h:Heap} (u:Ext h0 h):CNew h0 h CV.zero Circ.zero:=by
 refine ⟨rfl,[],rfl,u,fun t ht=>?_,?_⟩
 ·simp only [itemsC,CV.zero,Circ.zero,List.map_nil,List.flatMap_nil,List.append_nil,List.mem_cons,List.not_mem_nil,or_false,ints] at ht
  rcases ht with rfl | rfl | rfl | rfl | rfl | rfl | rfl | rfl | rfl | rfl <;> exact .nil u
 ·have:∀ t∈itemsC CV.zero Circ.zero [],t.a=none:=fun t ht=>by
   simp only [itemsC,CV.zero,Circ.zero,List.map_nil,List.flatMap_nil,List.append_nil,List.mem_cons,List.not_mem_nil,or_false,ints] at ht
   rcases ht with rfl | rfl | rfl | rfl | rfl | rfl | rfl | rfl | rfl | rfl <;> rfl
  exact List.pairwise_of_forall_mem_list fun s hs t ht=>by rw [this s hs];exact Dis.none
end Go.Proofs.Ytdpbdjdgdmheiaa
namespace Go.Proofs.Ytdpbdjdgdmheiaa
open Go.Hx
theorem L3.one {l:List L3}:∀ y∈l.flatMap L3.cs,y.oneCell'=true:=by
 intro y hy
 obtain ⟨x,_,hx⟩:=List.mem_flatMap.1 hy
 simp only [L3.cs,List.mem_cons,List.not_mem_nil,or_false] at hx
 rcases hx with rfl | rfl | rfl <;> rfl
theorem Sy.one {l:List Sy}:∀ y∈l.flatMap Sy.cs,y.oneCell'=true:=by
 intro y hy
 obtain ⟨x,_,hx⟩:=List.mem_flatMap.1 hy
 simp only [Sy.cs,List.mem_cons,List.not_mem_nil,or_false] at hx
 rcases hx with rfl | rfl | rfl <;> rfl
theorem str_one {l:List ByteArray}:∀ y∈l.map Value.string,y.oneCell'=true:=by intro y hy;obtain ⟨x,_,rfl⟩:=List.mem_map.1 hy;rfl
theorem CV.one (v:CV):∀ y∈v.cs,y.oneCell'=true:=by simp [CV.cs,Value.oneCell']
end Go.Proofs.Ytdpbdjdgdmheiaa
namespace Go.Proofs.Ytdpbdjdgdmheiaa
open Go.Hx
abbrev L77:L3:=⟨-77,0,0⟩
structure LIs (h:Heap) (v:CV) (C:Circ):Prop where
 mx:v.mx=C.mx
 i:Rd h v.i.a (v.i.n+1) (ints (C.ins++[-77]))
 l:Rd h v.l.a ((v.l.n+1)*3) ((C.lats++[L77]).flatMap L3.cs)
 o:Rd h v.o.a (v.o.n+1) (ints (C.outs++[-77]))
 b:Rd h v.b.a (v.b.n+1) (ints (C.bads++[-77]))
 c:Rd h v.c.a (v.c.n+1) (ints (C.cons++[-77]))
 j:RdRs h v.j.a v.j.n C.just
 f:Rd h v.f.a (v.f.n+1) (ints (C.fair++[-77]))
 g:Rd h v.g.a ((v.g.n+1)*3) ((C.ands++[L77]).flatMap L3.cs)
 s:Rd h v.s.a (v.s.n*3) (C.syms.flatMap Sy.cs)
 m:Rd h v.m.a v.m.n (C.coms.map Value.string)
 cap:v.i.n+1≤v.i.c/\v.l.n+1≤v.l.c/\v.o.n+1≤v.o.c/\v.b.n+1≤v.b.c/\v.c.n+1≤v.c.c/\v.f.n+1≤v.f.c/\v.g.n+1≤v.g.c
theorem LIs.ext {h h':Heap} {v:CV} {C:Circ} (r:LIs h v C) (u:Ext h h'):LIs h' v C:=
 ⟨r.mx,r.i.ext u,r.l.ext u,r.o.ext u,r.b.ext u,r.c.ext u,r.j.ext u,r.f.ext u,r.g.ext u,r.s.ext u,r.m.ext u,r.cap⟩
theorem lent_rd {h:Heap} {a:Option Addr} {n:Nat} {l:List Int} (r:Rd h a (n+1) (ints (l++[-77]))):Rd h a n (ints l):=by
 have hl:=r.ilen
 simp only [List.length_append,List.length_cons,List.length_nil] at hl
 have:=r.take n (by omega)
 rwa [ints,List.map_append,List.take_append_of_le_length (by simp;omega),List.take_of_length_le (by simp;omega)] at this
theorem lent_rd3 {h:Heap} {a:Option Addr} {n:Nat} {l:List L3} (r:Rd h a ((n+1)*3) ((l++[L77]).flatMap L3.cs)):Rd h a (n*3) (l.flatMap L3.cs):=by
 have hl:=r.elen L3.csl (by omega)
 simp only [List.length_append,List.length_cons,List.length_nil] at hl
 have:=r.take (n*3) (by omega)
 rwa [List.flatMap_append,List.take_append_of_le_length (by rw [flat_len L3.csl];omega),List.take_of_length_le (by rw [flat_len L3.csl];omega)] at this
theorem LIs.cis {h:Heap} {v:CV} {C:Circ} (r:LIs h v C):CIs h v C:=
 ⟨r.mx,lent_rd r.i,lent_rd3 r.l,lent_rd r.o,lent_rd r.b,lent_rd r.c,r.j,lent_rd r.f,lent_rd3 r.g,r.s,r.m⟩
theorem _root_.Go.Hx.Mem.far {h0 h h':Heap} {l:List Itm} {S:Nat->Prop} (m:Mem h0 h l) (u:Upd S h h') (hS:∀ b,h0.size≤b->b<h.size->¬ S b):∀ t∈l,Rd h' t.a (t.n*t.sz) t.vs/\t.n≤t.c:=fun t ht=>
 ⟨(m.fr t ht).own.rd.upd u fun ad ha hs=>hS _ ((m.fr t ht).new ad ha) (m.lt ht ha) hs,(m.fr t ht).own.cap⟩
theorem _root_.Go.Hx.Mem.farAt {h0 h h':Heap} {l:List Itm} {S:Nat->Prop} (m:Mem h0 h l) (u:Upd S h h') (hS:∀ b,h0.size≤b->b<h.size->¬ S b) (k:Nat) {sz n c:Nat} {a:Option Addr} {vs:List Value} (hk:l[k]?=some ⟨sz,a,n,c,vs⟩):Rd h' a (n*sz) vs:=(m.far u hS _ (List.mem_of_getElem? hk)).1
end Go.Proofs.Ytdpbdjdgdmheiaa
namespace Go.Proofs.Ytdpbdjdgdmheiaa
open Go.Hx
structure CSm (C:Circ):Prop where
 n:C.ins.length<9223372036854775807/\C.lats.length<9223372036854775807/\C.outs.length<9223372036854775807/\C.bads.length<9223372036854775807/\C.cons.length<9223372036854775807/\C.just.length<9223372036854775807/\C.fair.length<9223372036854775807 /\
  C.ands.length<9223372036854775807/\C.syms.length<9223372036854775807/\C.coms.length<9223372036854775807
 just:∀ r∈C.just,r.length<9223372036854775807
theorem Circ.Ok.sm {C:Circ} (ok:C.Ok):CSm C:=by
 obtain ⟨n1,n2,n3,n4,n5,n6,n7,n8,n9,n10,n11⟩:=ok.nb
 exact ⟨⟨by omega,by omega,by omega,by omega,by omega,by omega,by omega,by omega,by omega,by omega⟩,fun r hr=>by have:=n11 r hr;omega⟩
structure Spt (h0 h:Heap) (v:CV) (rows:List Rw) (l:List Itm):Prop where
 mem:Mem h0 h l
 len:l.length=10+rows.length
 at0:∃ vs,l[0]?=some ⟨1,v.i.a,v.i.n,v.i.c,vs⟩
 at1:∃ vs,l[1]?=some ⟨3,v.l.a,v.l.n,v.l.c,vs⟩
 at2:∃ vs,l[2]?=some ⟨1,v.o.a,v.o.n,v.o.c,vs⟩
 at3:∃ vs,l[3]?=some ⟨1,v.b.a,v.b.n,v.b.c,vs⟩
 at4:∃ vs,l[4]?=some ⟨1,v.c.a,v.c.n,v.c.c,vs⟩
 at5:l[5]?=some ⟨1,v.j.a,v.j.n,v.j.c,rows.map Rw.v⟩
 at6:∃ vs,l[6]?=some ⟨1,v.f.a,v.f.n,v.f.c,vs⟩
 at7:∃ vs,l[7]?=some ⟨3,v.g.a,v.g.n,v.g.c,vs⟩
 at8:∃ vs,l[8]?=some ⟨3,v.s.a,v.s.n,v.s.c,vs⟩
 at9:∃ vs,l[9]?=some ⟨1,v.m.a,v.m.n,v.m.c,vs⟩
 row:∀ i (hi:i<rows.length),∃ vs,l[10+i]?=some ⟨1,rows[i].a,rows[i].n,rows[i].c,vs⟩
theorem at_set {l:List Itm} {k j:Nat} {sz n c:Nat} {a:Option Addr} {vs0 vs1:List Value} (hk:l[k]?=some ⟨sz,a,n,c,vs0⟩) {sz' n' c':Nat} {a':Option Addr} (hj:∃ vs,l[j]?=some ⟨sz',a',n',c',vs⟩):∃ vs,(l.set k ⟨sz,a,n,c,vs1⟩)[j]?=some ⟨sz',a',n',c',vs⟩:=by
 obtain ⟨vs,hj⟩:=hj
 by_cases h:k=j
 ·subst h
  rw [hk] at hj
  simp only [Option.some.injEq,Itm.mk.injEq] at hj
  obtain ⟨rfl,rfl,rfl,rfl,_⟩:=hj
  exact ⟨vs1,by rw [List.getElem?_set_self (List.getElem?_eq_some_iff.1 hk).1]⟩
 ·exact ⟨vs,by rw [List.getElem?_set_ne h];exact hj⟩
theorem Spt.set {h0 h h':Heap} {v:CV} {rows:List Rw} {l:List Itm} (s:Spt h0 h v rows l) {k:Nat} (h5:k≠5) {sz n c:Nat} {a:Option Addr} {vs0 vs1:List Value} (hk:l[k]?=some ⟨sz,a,n,c,vs0⟩) (f:Fr h0 sz h' a n c vs1) (u:Upd (atb a) h h') :
  Spt h0 h' v rows (l.set k ⟨sz,a,n,c,vs1⟩):=
 ⟨s.mem.setAt k (t':=⟨sz,a,n,c,vs1⟩) hk f u (.inl rfl),by rw [List.length_set];exact s.len,at_set hk s.at0,at_set hk s.at1,at_set hk s.at2,at_set hk s.at3,at_set hk s.at4,by rw [List.getElem?_set_ne h5];exact s.at5,at_set hk s.at6,at_set hk s.at7,at_set hk s.at8,at_set hk s.at9,
  fun i hi=>at_set hk (s.row i hi)⟩
end Go.Proofs.Ytdpbdjdgdmheiaa
namespace Go.Hx
theorem clone {h:Heap} {sz:Nat} {a:Option Addr} {n:Nat} {vs:List Value} (r:Rd h a (n*sz) vs) (hz:0<sz) (h1:∀ y∈vs,y.oneCell'=true) {e e':TypeId} {bytes:Nat} {z:Array Value} (hb:n*bytes≤140737488355328)
  {K:Option Addr->Nat->Nat->Heap->Prop} (hK:∀ a' c' h',Fr h sz h' a' n c' vs->K a' n c' h') :
  PIf (a=none) (K none 0 0 h) (∃ ys:List Value,ReadL (h.push (.cells #[] e)) a ys/\ys.length=n*sz/\AppS (h.push (.cells #[] e)) (some (Addr.mk h.size 0 none)) 0 0 e' bytes sz z ys n K):=by
 refine ⟨fun ha=>?_,fun ha=>⟨vs,(r.ext (Ext.push h _)).read,r.len,app0n r.len h1 hb hK⟩⟩
 subst ha
 have h2:vs=[]:=r.read
 have h3:=r.len
 subst h2
 have:n=0:=by
  simp only [List.length_nil] at h3
  rcases Nat.eq_zero_or_pos n with h | h
  ·exact h
  ·have:=Nat.mul_pos h hz;omega
 subst this
 exact hK none 0 h (.nil (.refl h))
end Go.Hx
namespace Go.Proofs.Ytdpbdjdgdmheiaa
open Go.Hx
theorem Rw.one {l:List Rw}:∀ y∈l.map Rw.v,y.oneCell'=true:=by intro y hy;obtain ⟨x,_,rfl⟩:=List.mem_map.1 hy;rfl
theorem chk_size {C:Circ} (h:(chk C).2=0):sizeE C=0:=by
 unfold chk at h
 split at h
 ·rename_i h1;exact absurd h h1
 ·rename_i h1;exact Decidable.not_not.1 h1
theorem chk_ok {C:Circ} (h:(chk C).2=0):sizeE C=0/\(defs C).2.1=0/\(uses C (defs C).2.2).2=0/\cyc C (defs C).2.2=none/\syF C=none/\comF C=none:=by
 unfold chk at h
 split at h
 ·rename_i h1;exact absurd h h1
 rename_i h1
 split at h
 ·rename_i h2;exact absurd h h2
 rename_i h2
 split at h
 ·rename_i h3;exact absurd h h3
 rename_i h3
 split at h
 ·simp at h
 rename_i h4
 split at h
 ·simp at h
 rename_i h5
 split at h
 ·simp at h
 rename_i h6
 exact ⟨Decidable.not_not.1 h1,Decidable.not_not.1 h2,Decidable.not_not.1 h3,h4,h5,h6⟩
theorem chk_bounds {C:Circ} (h:(chk C).2=0):(0≤C.mx/\C.mx≤16384)/\C.ins.length≤16384/\C.lats.length≤16384/\C.outs.length≤16384/\C.bads.length≤16384/\C.cons.length≤16384/\C.just.length≤16384/\C.fair.length≤16384/\C.ands.length≤16384/\C.syms.length≤16384/\C.coms.length≤16384/\(C.just.map List.length).sum≤16384:=by
 obtain ⟨h1,h2⟩:=sizeE_zero (chk_size h)
 unfold Big at h2
 exact ⟨h1,by omega,by omega,by omega,by omega,by omega,by omega,by omega,by omega,by omega,by omega,by omega⟩
end Go.Proofs.Ytdpbdjdgdmheiaa
