/- Words and facts that the claim's proof leans on. No condition. -/
import Derived.Test.YtdpbdjdgdmheiaaCR
set_option linter.unusedVariables false
set_option linter.unusedSimpArgs false
namespace Go.Hx
theorem range_get {α:Type}:∀ L:List α,(List.range L.length).filterMap (fun i=>L[i]?)=L
 | []=>rfl
 | x::L=>by
  rw [List.length_cons,List.range_succ_eq_map,List.filterMap_cons]
  simp only [List.getElem?_cons_zero,List.filterMap_map]
  congr 1
  exact range_get L
theorem perm_idx {α:Type} (L:List α) (p:List Nat) (n:Nat) (hn:L.length=n) (hp:p.Perm (List.range n)):(p.filterMap fun i=>L[i]?).Perm L:=by
 subst hn
 have:=List.Perm.filterMap (fun i=>L[i]?) hp
 rwa [range_get] at this
end Go.Hx
namespace Go.Proofs.Ytdpbdjdgdmheiaa
open Go.Hx
theorem c85 {h:Heap} {a:Option Addr} {n c:Nat} {l:List Int} (r:Rd h a n (ints l)) (hn:n≤17592186044416):CallsH Try.prog 85 #[.slice a n c] h fun w h'=>∃ a' c',w=.slice a' n c'/\Fr h 1 h' a' n c' (ints l):=
 run85 a n c _ h (by unfold VC85;exact clone (sz:=1) (K:=fun a' n' c' h'=>∃ a1 c1,Value.slice a' n' c'=.slice a1 n c1/\Fr h 1 h' a1 n c1 (ints l)) (by rwa [Nat.mul_one]) (by omega) ints_one (by omega) fun a' c' h' f=>⟨a',c',rfl,f⟩)
theorem c86 {h:Heap} {a:Option Addr} {n c:Nat} {l:List L3} (r:Rd h a (n*3) (l.flatMap L3.cs)) (hn:n≤5864062014805):CallsH Try.prog 86 #[.slice a n c] h fun w h'=>∃ a' c',w=.slice a' n c'/\Fr h 3 h' a' n c' (l.flatMap L3.cs):=
 run86 a n c _ h (by unfold VC86;exact clone (sz:=3) (K:=fun a' n' c' h'=>∃ a1 c1,Value.slice a' n' c'=.slice a1 n c1/\Fr h 3 h' a1 n c1 (l.flatMap L3.cs)) r (by omega) L3.one (by omega) fun a' c' h' f=>⟨a',c',rfl,f⟩)
theorem c87 {h:Heap} {a:Option Addr} {n c:Nat} {l:List L3} (r:Rd h a (n*3) (l.flatMap L3.cs)) (hn:n≤5864062014805):CallsH Try.prog 87 #[.slice a n c] h fun w h'=>∃ a' c',w=.slice a' n c'/\Fr h 3 h' a' n c' (l.flatMap L3.cs):=
 run87 a n c _ h (by unfold VC87;exact clone (sz:=3) (K:=fun a' n' c' h'=>∃ a1 c1,Value.slice a' n' c'=.slice a1 n c1/\Fr h 3 h' a1 n c1 (l.flatMap L3.cs)) r (by omega) L3.one (by omega) fun a' c' h' f=>⟨a',c',rfl,f⟩)
theorem c88 {h:Heap} {a:Option Addr} {n c:Nat} {l:List Sy} (r:Rd h a (n*3) (l.flatMap Sy.cs)) (hn:n≤4398046511104):CallsH Try.prog 88 #[.slice a n c] h fun w h'=>∃ a' c',w=.slice a' n c'/\Fr h 3 h' a' n c' (l.flatMap Sy.cs):=
 run88 a n c _ h (by unfold VC88;exact clone (sz:=3) (K:=fun a' n' c' h'=>∃ a1 c1,Value.slice a' n' c'=.slice a1 n c1/\Fr h 3 h' a1 n c1 (l.flatMap Sy.cs)) r (by omega) Sy.one (by omega) fun a' c' h' f=>⟨a',c',rfl,f⟩)
theorem c89 {h:Heap} {a:Option Addr} {n c:Nat} {l:List ByteArray} (r:Rd h a n (l.map Value.string)) (hn:n≤8796093022208):CallsH Try.prog 89 #[.slice a n c] h fun w h'=>∃ a' c',w=.slice a' n c'/\Fr h 1 h' a' n c' (l.map Value.string):=
 run89 a n c _ h (by unfold VC89;exact clone (sz:=1) (K:=fun a' n' c' h'=>∃ a1 c1,Value.slice a' n' c'=.slice a1 n c1/\Fr h 1 h' a1 n c1 (l.map Value.string)) (by rwa [Nat.mul_one]) (by omega) str_one (by omega) fun a' c' h' f=>⟨a',c',rfl,f⟩)
theorem c90 {h:Heap} {a:Option Addr} {n c:Nat} {l:List Rw} (r:Rd h a n (l.map Rw.v)) (hn:n≤5864062014805):CallsH Try.prog 90 #[.slice a n c] h fun w h'=>∃ a' c',w=.slice a' n c'/\Fr h 1 h' a' n c' (l.map Rw.v):=
 run90 a n c _ h (by unfold VC90;exact clone (sz:=1) (K:=fun a' n' c' h'=>∃ a1 c1,Value.slice a' n' c'=.slice a1 n c1/\Fr h 1 h' a1 n c1 (l.map Rw.v)) (by rwa [Nat.mul_one]) (by omega) Rw.one (by omega) fun a' c' h' f=>⟨a',c',rfl,f⟩)
theorem c55 {h:Heap} {v:CV} {C:Circ} (r:CIs h v C) (ok:C.Ok):CallsH Try.prog 55 #[v.v] h fun w h'=>∃ v',w=CV.v v'/\CNew h h' v' C:=by
 obtain ⟨q1,q2,q3,q4,q5,q6,q7,q8,q9,q10⟩:=r.len
 have hn:=ok.n
 have hnb:=ok.nb
 refine run55 v _ h ?_
 unfold VC55
 intro h1 h2
 have e2:Ext h h2:=(Ext.box h _).trans (Ext.box h1 _)
 have hs1:h1.size=h.size+1:=by simp [h1]
 have hs2:h2.size=h.size+2:=by simp [h2,hs1]
 have hb:Rd h2 (some ⟨h.size,0,none⟩) 11 v.cs:=(boxC v 29).ext (Ext.box h1 _)
 have fb:Fr h 1 h2 (some ⟨h1.size,0,none⟩) 11 11 CV.zero.cs:=Fr.lit (Ext.box h _) CV.zero.cs 29 11 rfl
 have r2:=r.ext e2
 refine ldC hb ?_
 intro h3
 have f3:Fr h2 1 h3 (some ⟨h2.size,0,none⟩) 11 11 CV.zero.cs:=Fr.lit (.refl h2) CV.zero.cs 29 11 rfl
 refine f3.put (ws:=v.cs) rfl (CV.one v) fun h4 f4 u4=>?_
 have m0:Mem h2 h4 [⟨1,some ⟨h2.size,0,none⟩,11,11,v.cs⟩]:=(Mem.nil (.refl h2)).add (t:=⟨1,some ⟨h2.size,0,none⟩,11,11,v.cs⟩) f4
 have blt:∀ {h':Heap} (e:Ext h2 h') k,(Addr.add ⟨h.size,0,none⟩ k).block<h'.size:=fun e k=>by rw [add_block];have:=e.1;simp only;omega
 have ag:∀ {a b c:Heap},Ext a b->Ext b c->AgreeH a.size b c:=fun {a b c} h k i hi=>k.2 i (Nat.lt_of_lt_of_le hi h.1) fun x=>x
 have ex:=m0.ext
 refine ⟨blt ex 1,_,_,_,(hb.ext ex).fld 1 rfl,(c85 (r2.i.ext ex) (by omega)).mono ?_⟩
 rintro _ h5 ⟨a1,c1,rfl,f5⟩
 have m1:=m0.add (t:=⟨1,a1,v.i.n,c1,ints C.ins⟩) f5
 have x5:=f5.ext
 refine ⟨_,_,_,rfl,ag (.refl _) f5.ext,blt ex 2,_,_,_,(hb.ext m1.ext).fld 2 rfl,(c86 (r2.l.ext m1.ext) (by omega)).mono ?_⟩
 rintro _ h6 ⟨a2,c2,rfl,f6⟩
 have m2:=m1.add (t:=⟨3,a2,v.l.n,c2,C.lats.flatMap L3.cs⟩) f6
 have x6:=x5.trans f6.ext
 refine ⟨_,_,_,rfl,ag x5 f6.ext,blt ex 3,_,_,_,(hb.ext m2.ext).fld 3 rfl,(c85 (r2.o.ext m2.ext) (by omega)).mono ?_⟩
 rintro _ h7 ⟨a3,c10003,rfl,f7⟩
 have m3:=m2.add (t:=⟨1,a3,v.o.n,c10003,ints C.outs⟩) f7
 have x7:=x6.trans f7.ext
 refine ⟨_,_,_,rfl,ag x6 f7.ext,blt ex 4,_,_,_,(hb.ext m3.ext).fld 4 rfl,(c85 (r2.b.ext m3.ext) (by omega)).mono ?_⟩
 rintro _ h8 ⟨a4,c10004,rfl,f8⟩
 have m4:=m3.add (t:=⟨1,a4,v.b.n,c10004,ints C.bads⟩) f8
 refine ⟨_,_,_,rfl,ag x7 f8.ext,?_⟩
 refine (m4.get 4 rfl).cellAt 1 (by omega) rfl fun h9 u f=>?_
 have m5:=m4.setAt 4 (t':=⟨1,some ⟨h2.size,0,none⟩,11,11,_⟩) rfl f u (.inl rfl)
 refine (m5.get 4 rfl).cellAt 2 (by omega) rfl fun h10 u f=>?_
 have m6:=m5.setAt 4 (t':=⟨1,some ⟨h2.size,0,none⟩,11,11,_⟩) rfl f u (.inl rfl)
 refine (m6.get 4 rfl).cellAt 3 (by omega) rfl fun h11 u f=>?_
 have m7:=m6.setAt 4 (t':=⟨1,some ⟨h2.size,0,none⟩,11,11,_⟩) rfl f u (.inl rfl)
 refine (m7.get 4 rfl).cellAt 4 (by omega) rfl fun h12 u f=>?_
 have m8:=m7.setAt 4 (t':=⟨1,some ⟨h2.size,0,none⟩,11,11,_⟩) rfl f u (.inl rfl)
 have ex:=m8.ext
 refine ⟨blt ex 5,_,_,_,(hb.ext ex).fld 5 rfl,(c85 (r2.c.ext ex) (by omega)).mono ?_⟩
 rintro _ h13 ⟨a5,c10005,rfl,f13⟩
 have m9:=m8.add (t:=⟨1,a5,v.c.n,c10005,ints C.cons⟩) f13
 have x13:=f13.ext
 refine ⟨_,_,_,rfl,ag (.refl _) x13,blt ex 7,_,_,_,(hb.ext m9.ext).fld 7 rfl,(c85 (r2.f.ext m9.ext) (by omega)).mono ?_⟩
 rintro _ h14 ⟨a6,c10006,rfl,f14⟩
 have m10:=m9.add (t:=⟨1,a6,v.f.n,c10006,ints C.fair⟩) f14
 have x14:=x13.trans f14.ext
 refine ⟨_,_,_,rfl,ag x13 f14.ext,blt ex 8,_,_,_,(hb.ext m10.ext).fld 8 rfl,(c87 (r2.g.ext m10.ext) (by omega)).mono ?_⟩
 rintro _ h15 ⟨a7,c10007,rfl,f15⟩
 have m11:=m10.add (t:=⟨3,a7,v.g.n,c10007,C.ands.flatMap L3.cs⟩) f15
 refine ⟨_,_,_,rfl,ag x14 f15.ext,?_⟩
 refine (m11.get 7 rfl).cellAt 5 (by omega) rfl fun h16 u f=>?_
 have m12:=m11.setAt 7 (t':=⟨1,some ⟨h2.size,0,none⟩,11,11,_⟩) rfl f u (.inl rfl)
 refine (m12.get 7 rfl).cellAt 7 (by omega) rfl fun h17 u f=>?_
 have m13:=m12.setAt 7 (t':=⟨1,some ⟨h2.size,0,none⟩,11,11,_⟩) rfl f u (.inl rfl)
 refine (m13.get 7 rfl).cellAt 8 (by omega) rfl fun h18 u f=>?_
 have m14:=m13.setAt 7 (t':=⟨1,some ⟨h2.size,0,none⟩,11,11,_⟩) rfl f u (.inl rfl)
 have ex:=m14.ext
 refine ⟨blt ex 9,_,_,_,(hb.ext ex).fld 9 rfl,(c88 (r2.s.ext ex) (by omega)).mono ?_⟩
 rintro _ h19 ⟨a8,c10008,rfl,f19⟩
 have m15:=m14.add (t:=⟨3,a8,v.s.n,c10008,C.syms.flatMap Sy.cs⟩) f19
 have x19:=f19.ext
 refine ⟨_,_,_,rfl,ag (.refl _) x19,blt ex 10,_,_,_,(hb.ext m15.ext).fld 10 rfl,(c89 (r2.m.ext m15.ext) (by omega)).mono ?_⟩
 rintro _ h20 ⟨a9,c10009,rfl,f20⟩
 have m16:=m15.add (t:=⟨1,a9,v.m.n,c10009,C.coms.map Value.string⟩) f20
 have x20:=x19.trans f20.ext
 obtain ⟨rows0,hr0,hrs0,hrl0⟩:=r2.j.ex
 refine ⟨_,_,_,rfl,ag x19 f20.ext,blt ex 6,_,_,_,(hb.ext m16.ext).fld 6 rfl,(c90 (hr0.ext m16.ext) (by omega)).mono ?_⟩
 rintro _ h21 ⟨a10,c10010,rfl,f21⟩
 have m17:=m16.add (t:=⟨1,a10,v.j.n,c10010,rows0.map Rw.v⟩) f21
 refine ⟨_,_,_,rfl,ag x20 f21.ext,?_⟩
 refine (m17.get 10 rfl).cellAt 9 (by omega) rfl fun h22 u f=>?_
 have m18:=m17.setAt 10 (t':=⟨1,some ⟨h2.size,0,none⟩,11,11,_⟩) rfl f u (.inl rfl)
 refine (m18.get 10 rfl).cellAt 10 (by omega) rfl fun h23 u f=>?_
 have m19:=m18.setAt 10 (t':=⟨1,some ⟨h2.size,0,none⟩,11,11,_⟩) rfl f u (.inl rfl)
 refine (m19.get 10 rfl).cellAt 6 (by omega) rfl fun h24 u f=>?_
 have m20:=m19.setAt 10 (t':=⟨1,some ⟨h2.size,0,none⟩,11,11,_⟩) rfl f u (.inl rfl)
 let v':CV:=⟨v.mx,⟨a1,v.i.n,c1⟩,⟨a2,v.l.n,c2⟩,⟨a3,v.o.n,c10003⟩,⟨a4,v.b.n,c10004⟩,⟨a5,v.c.n,c10005⟩,⟨a10,v.j.n,c10010⟩,⟨a6,v.f.n,c10006⟩,⟨a7,v.g.n,c10007⟩,⟨a8,v.s.n,c10008⟩,⟨a9,v.m.n,c10009⟩⟩
 let base:List Itm:=[⟨1,a9,v.m.n,c10009,C.coms.map Value.string⟩,⟨3,a8,v.s.n,c10008,C.syms.flatMap Sy.cs⟩,⟨3,a7,v.g.n,c10007,C.ands.flatMap L3.cs⟩,⟨1,a6,v.f.n,c10006,ints C.fair⟩,⟨1,a5,v.c.n,c10005,ints C.cons⟩,⟨1,a4,v.b.n,c10004,ints C.bads⟩,⟨1,a3,v.o.n,c10003,ints C.outs⟩,
  ⟨3,a2,v.l.n,c2,C.lats.flatMap L3.cs⟩,⟨1,a1,v.i.n,c1,ints C.ins⟩,⟨1,some ⟨h2.size,0,none⟩,11,11,v'.cs⟩]
 have m21:Mem h2 h24 (⟨1,a10,v.j.n,c10010,rows0.map Rw.v⟩::base):=m20
 have hrl:rows0.length=v.j.n:=by rw [<- q6,<- hrl0];simp
 have RI:List Rw->List Itm:=fun rows=>rows.map fun s=>⟨1,s.a,s.n,s.c,ints s.l⟩
 refine ⟨_,_,_,(hb.ext m21.ext).fld 6 rfl,LoopT.to (n:=v.j.n) (by omega) (fun i h'=>∃ rows:List Rw,rows.length=i/\rows.map Rw.l=C.just.take i/\Mem h2 h' ((rows.map fun s=>⟨1,s.a,s.n,s.c,ints s.l⟩)++⟨1,a10,v.j.n,c10010,(rows++rows0.drop i).map Rw.v⟩::base)) ⟨[],rfl,rfl,m21⟩ ?_⟩
 rintro i h25 K hi ⟨rows,hrl2,hrs,m⟩ hK
 have hbx:Fr h2 1 h25 (some ⟨h2.size,0,none⟩) 11 11 v'.cs:=m.fr ⟨1,some ⟨h2.size,0,none⟩,11,11,v'.cs⟩ (by simp [base])
 refine ⟨fun hlt=>?_,fun hlt=>?_⟩
 ·have hi2:i<C.just.length:=by omega
  have hi0:i<rows0.length:=by omega
  refine ⟨by omega,hlt,(hr0.ext m.ext).getn (by omega) fun ad hl1 hc=>⟨_,_,_,hc,?_⟩⟩
  have hs:=hrs0 rows0[i] (List.getElem_mem hi0)
  have hsl:rows0[i].l=C.just[i]:=by
   have:(rows0.map Rw.l)[i]?=C.just[i]?:=by rw [hrl0]
   rw [List.getElem?_map,List.getElem?_eq_getElem hi0,List.getElem?_eq_getElem hi2] at this
   exact Option.some.inj this
  refine ⟨by rw [add_block];exact hbx.own.lt,_,_,_,hbx.rd.fld 6 rfl,(c85 (hs.1.ext m.ext) ?_).mono ?_⟩
  ·have h1:=hs.1.ilen
   have h2:=hnb.2.2.2.2.2.2.2.2.2.2 C.just[i] (List.getElem_mem hi2)
   rw [<- hsl] at h2
   show rows0[i].n≤_
   omega
  rintro _ h26 ⟨a',c',rfl,f26⟩
  have m26:=m.add (t:=⟨1,a',rows0[i].n,c',ints rows0[i].l⟩) f26
  refine ⟨_,_,_,rfl,ag (.refl _) f26.ext,by omega,hlt,?_⟩
  have fj:Fr h2 1 h26 a10 v.j.n c10010 ((rows++rows0.drop i).map Rw.v):=m26.fr ⟨1,a10,v.j.n,c10010,(rows++rows0.drop i).map Rw.v⟩ (by simp)
  refine fj.set1 (by omega) hlt rfl fun h27 u27 f27=>hK _ (by omega) ⟨rows++[⟨a',rows0[i].n,c',rows0[i].l⟩],by simp [hrl2],by rw [List.map_append,hrs,List.take_succ_eq_append_getElem hi2,<- hsl];rfl,?_⟩
  have m27:=Mem.put (A:=⟨1,a',rows0[i].n,c',ints rows0[i].l⟩::rows.map fun s=>⟨1,s.a,s.n,s.c,ints s.l⟩) (t:=⟨1,a10,v.j.n,c10010,(rows++rows0.drop i).map Rw.v⟩) (B:=base) (t':=⟨1,a10,v.j.n,c10010,((rows++rows0.drop i).map Rw.v).set (Int.toNat i) (Value.slice a' rows0[i].n c')⟩) m26 f27 u27 (.inl rfl)
  have e:((rows++rows0.drop i).map Rw.v).set (Int.toNat i) (Value.slice a' rows0[i].n c')=((rows++[(⟨a',rows0[i].n,c',rows0[i].l⟩:Rw)])++rows0.drop (i+1)).map Rw.v:=by
   show ((rows++rows0.drop i).map Rw.v).set i (Value.slice a' rows0[i].n c')=_
   rw [List.drop_eq_getElem_cons hi0,List.map_append,List.map_append,List.map_append,List.map_cons,List.set_append_right _ _ (by simp;omega)]
   simp [hrl2,Rw.v]
  rw [e] at m27
  refine m27.perm ?_
  have e3:(rows++[(⟨a',rows0[i].n,c',rows0[i].l⟩:Rw)]).map (fun s=>(⟨1,s.a,s.n,s.c,ints s.l⟩:Itm))=rows.map (fun s=>(⟨1,s.a,s.n,s.c,ints s.l⟩:Itm))++[⟨1,a',rows0[i].n,c',ints rows0[i].l⟩]:=by rw [List.map_append];rfl
  rw [e3]
  exact List.Perm.append_right _ (List.perm_append_comm (l₁:=[_]))
 ·have:i=v.j.n:=by omega
  subst this
  rw [List.drop_of_length_le (by omega),List.append_nil] at m
  refine ldC hbx.rd ?_
  refine (fb.upd m.ext).put (ws:=v'.cs) rfl (CV.one v') fun h28 f28 u28=>?_
  refine ldC f28.rd ⟨v',rfl,r.mx,rows,by rw [hrs,List.take_of_length_le (by omega)],?_⟩
  have mo:=m.over e2 u28 fun b ⟨ad,ha,e⟩=>by cases ha;simp only at e;omega
  have p2:((⟨1,a10,v.j.n,c10010,rows.map Rw.v⟩:Itm)::base).Perm ((itemsC v' C rows).take 10++[(⟨1,some ⟨h2.size,0,none⟩,11,11,v'.cs⟩:Itm)]):=perm_idx ((itemsC v' C rows).take 10++[(⟨1,some ⟨h2.size,0,none⟩,11,11,v'.cs⟩:Itm)]) [5,9,8,7,6,4,3,2,1,0,10] 11 rfl (by decide)
  have p3:=(List.Perm.append_left (rows.map fun s=>(⟨1,s.a,s.n,s.c,ints s.l⟩:Itm)) p2).trans List.perm_append_comm
  have m28:=mo.perm p3
  refine m28.sub ?_
  show List.Sublist ((itemsC v' C rows).take 10++rows.map fun s=>(⟨1,s.a,s.n,s.c,ints s.l⟩:Itm)) _
  exact List.Sublist.append_right (List.sublist_append_left _ _) _
end Go.Proofs.Ytdpbdjdgdmheiaa
namespace Go.Proofs.Ytdpbdjdgdmheiaa
open Go.Hx
def gate1 (C:Circ) (x y:Int):Circ:={ C with mx:=C.mx+1,ands:=C.ands++[⟨2*(C.mx+1),max x y,min x y⟩] }
def foldCons:List Int->Circ->Int->Circ×Int
 | [],C,good=>(C,good)
 | l::r,C,good=>foldCons r (gate1 C good l) (2*(C.mx+1))
def foldBads (good:Int):List Int->Nat->Circ->Circ
 | [],_,C=>C
 | l::r,i,C=>foldBads good r (i+1) { gate1 C l good with bads:=C.bads.set i (2*(C.mx+1)) }
def foldC (C:Circ):Circ:=
 let X:=foldCons C.cons { C with mx:=C.mx+1 } (2*(C.mx+1))
 let Y:=foldBads X.2 C.bads 0 X.1
 { Y with lats:=C.lats++[⟨2*(C.mx+1),X.2,1⟩],fair:=C.fair++[X.2],cons:=[],syms:=C.syms.filter fun s=>decide (s.k≠99) }
def FLong (C:Circ):Prop:=16384<C.mx+1+(C.cons.length+C.bads.length)∨16384≤C.lats.length∨16384≤C.fair.length∨16384<C.ands.length+(C.cons.length+C.bads.length)
open Classical in
noncomputable def foldR (C:Circ):Circ×Int:=if (chk C).2≠0 then (Circ.zero,(chk C).2) else if FLong C then (Circ.zero,2) else (foldC C,0)
structure Bx (h0 h:Heap) (k:Addr) (v:CV) (C:Circ) (rows:List Rw):Prop where
 mx:v.mx=C.mx
 just:rows.map Rw.l=C.just
 mem:Mem h0 h (⟨1,some k,11,11,v.cs⟩::itemsC v C rows)
theorem Bx.box {h0 h:Heap} {k:Addr} {v:CV} {C:Circ} {rows:List Rw} (b:Bx h0 h k v C rows):Fr h0 1 h (some k) 11 11 v.cs:=b.mem.get 0 rfl
theorem Bx.ext {h0 h h':Heap} {k:Addr} {v:CV} {C:Circ} {rows:List Rw} (b:Bx h0 h k v C rows) (u:Ext h h'):Bx h0 h' k v C rows:=⟨b.mx,b.just,b.mem.ext' u⟩
theorem Bx.cnew {h0 h:Heap} {k:Addr} {v:CV} {C:Circ} {rows:List Rw} (b:Bx h0 h k v C rows):CNew h0 h v C:=⟨b.mx,rows,b.just,b.mem.sub (List.sublist_cons_self ..)⟩
theorem Bx.fld {h0 h:Heap} {k:Addr} {v:CV} {C:Circ} {rows:List Rw} (b:Bx h0 h k v C rows) (i:Nat) {x:Value} (hx:v.cs[i]?=some x):cellH h ((k.add 0).add i)=some x:=by rw [add0_add];exact b.box.rd.fld i hx
theorem Bx.st {h0 h:Heap} {k:Addr} {v:CV} {C:Circ} {rows:List Rw} (b:Bx h0 h k v C rows) (i:Nat) (hi:i<11) {x:Value} (h1:x.oneCell'=true) {K:Heap->Prop} (hK:∀ h',Mem h0 h' (⟨1,some k,11,11,v.cs.set i x⟩::itemsC v C rows)->Upd (fun b=>b=k.block) h h'->K h') :
  StoreH h ((k.add 0).add i) [x] K:=by
 rw [add0_add]
 exact b.box.cellAt i hi h1 fun h' u f=>hK h' (b.mem.setAt 0 (t':=⟨1,some k,11,11,_⟩) rfl f u (.inl rfl)) (u.mono fun b _ ⟨ad,ha,e⟩=>by cases ha;exact e)
theorem Mem.stP {h0 h:Heap} {k:Addr} {vs:List Value} {l:List Itm} (m:Mem h0 h (⟨1,some k,11,11,vs⟩::l)) (i:Nat) (hi:i<11) {x:Value} (h1:x.oneCell'=true) {K:Heap->Prop} (hK:∀ h',Mem h0 h' (⟨1,some k,11,11,vs.set i x⟩::l)->Upd (fun b=>b=k.block) h h'->K h') :
  AtP (some k) fun ad=>StoreH h ((ad.add 0).add i) [x] K:=by
 refine AtP.mk rfl ?_
 rw [add0_add]
 exact (m.get 0 rfl).cellAt i hi h1 fun h' u f=>hK h' (m.setAt 0 (t':=⟨1,some k,11,11,_⟩) rfl f u (.inl rfl)) (u.mono fun b _ ⟨ad,ha,e⟩=>by cases ha;exact e)
theorem Mem.fldP {h0 h:Heap} {k:Addr} {vs:List Value} {l:List Itm} (m:Mem h0 h (⟨1,some k,11,11,vs⟩::l)) (i:Nat) {x:Value} (hx:vs[i]?=some x):cellH h ((k.add 0).add i)=some x:=by rw [add0_add];exact (m.get 0 rfl).rd.fld i hx
theorem c30 {h:Heap} {v:CV} {C:Circ} (r:CIs h v C) (ok:C.Ok):CallsH Try.prog 30 #[v.v] h fun w h'=>∃ k v' rows,w=.pointer (some k)/\Bx h h' k v' C rows:=by
 obtain ⟨q1,q2,q3,q4,q5,q6,q7,q8,q9,q10⟩:=r.len
 have hnb:=ok.nb
 refine run30 v _ h ?_
 unfold VC30
 intro h1
 have e1:Ext h h1:=Ext.box h _
 have hb:Rd h1 (some ⟨h.size,0,none⟩) 11 v.cs:=boxC v 29
 refine ldC hb ((c55 (r.ext e1) ok).mono ?_)
 rintro _ h2 ⟨v1,rfl,cn⟩
 obtain ⟨rows,hrows,m0⟩:=cn.ex
 have p4:=cn.cis.len.b
 refine ⟨_,_,_,_,_,_,_,_,_,_,_,_,_,_,_,_,_,_,_,_,_,_,_,_,_,_,_,_,_,_,_,rfl,?_⟩
 intro h3
 have m1:Mem h1 h3 (⟨1,some ⟨h2.size,0,none⟩,11,11,v1.cs⟩::itemsC v1 C rows):=m0.add (t:=⟨1,some ⟨h2.size,0,none⟩,11,11,v1.cs⟩) (Fr.lit (.refl h2) v1.cs 67 11 rfl)
 refine ⟨_,_,_,(hb.ext m1.ext).fld 4 rfl,by omega,by omega,by omega,?_⟩
 intro h4
 have f4:Fr h3 1 h4 (some ⟨h3.size,0,none⟩) v.b.n v.b.n (List.replicate v.b.n (.int .i64 0)):=Fr.zeros (.int .i64 0) 3 v.b.n
 have m2:=m1.add (t:=⟨1,some ⟨h3.size,0,none⟩,v.b.n,v.b.n,List.replicate v.b.n (.int .i64 0)⟩) f4
 rw [add0_add]
 refine (m2.get 1 rfl).cellAt 4 (by omega) rfl fun h5 u f=>?_
 have m3:=m2.setAt 1 (t':=⟨1,some ⟨h2.size,0,none⟩,11,11,_⟩) rfl f u (.inl rfl)
 refine ⟨_,_,_,(m3.get 1 rfl).rd.fld 4 rfl,_,_,_,(hb.ext m3.ext).fld 4 rfl,ints C.bads,((r.ext e1).b.ext m3.ext).read,by rw [((r.ext e1).b.ext m3.ext).len,Int.toNat_natCast,Nat.min_self,Nat.mul_one],?_⟩
 refine CpyH.some ((m3.get 0 rfl).put (ws:=ints C.bads) (by simp;omega) ints_one fun h6 f6 u6=>?_)
 have m4:=m3.setAt 0 (t':=⟨1,some ⟨h3.size,0,none⟩,v.b.n,v.b.n,ints C.bads⟩) rfl f6 u6 (.inl rfl)
 let v':CV:={ v1 with b:=⟨some ⟨h3.size,0,none⟩,v.b.n,v.b.n⟩ }
 refine ⟨⟨h2.size,0,none⟩,v',rows,rfl,cn.mx,hrows,?_⟩
 have m5:=m4.base e1
 have p:(⟨1,some ⟨h3.size,0,none⟩,v.b.n,v.b.n,ints C.bads⟩::⟨1,some ⟨h2.size,0,none⟩,11,11,v'.cs⟩::itemsC v1 C rows).Perm
   ([⟨1,v1.b.a,v1.b.n,v1.b.c,ints C.bads⟩]++(⟨1,some ⟨h2.size,0,none⟩,11,11,v'.cs⟩::itemsC v' C rows)):=by
  have:=List.Perm.append_right (rows.map fun s=>(⟨1,s.a,s.n,s.c,ints s.l⟩:Itm)) (perm_idx ((⟨1,v1.b.a,v1.b.n,v1.b.c,ints C.bads⟩:Itm)::⟨1,some ⟨h2.size,0,none⟩,11,11,v'.cs⟩::(itemsC v' C rows).take 10) [5,1,2,3,4,0,6,7,8,9,10,11] 12 rfl (by decide))
  exact this
 exact (m5.perm p).sub (List.sublist_append_right _ _)
theorem c31 {h0 h:Heap} {k:Addr} {v:CV} {C:Circ} {rows:List Rw} (b:Bx h0 h k v C rows) (hm0:0≤C.mx) (hm1:C.mx≤1000000) (hg:C.ands.length≤1000000) (x y:Int) :
  CallsH Try.prog 31 #[.pointer (some k),.int .i64 x,.int .i64 y] h fun w h'=>w=.int .i64 (2*(C.mx+1))/\∃ v',v'.b=v.b/\Bx h0 h' k v' (gate1 C x y) rows/\cellH h' (k.add 4)=cellH h (k.add 4):=by
 have hmx:=b.mx
 have q8:=b.cnew.cis.len.g
 have hnew:=b.box.new k rfl
 refine run31 (some k) x y _ h ⟨v.mx,b.fld 0 rfl,AtP.mk rfl (b.st 0 (by omega) rfl fun h1 m1 u1=>?_)⟩
 have hw:IntKind.wrap .i64 (v.mx+1)=C.mx+1:=by rw [hmx,w64 (by omega) (by omega)]
 have hw2:IntKind.wrap .i64 (2*(C.mx+1))=2*(C.mx+1):=w64 (by omega) (by omega)
 rw [hw] at m1
 let v1:CV:={ v with mx:=C.mx+1 }
 have b1:Bx h0 h1 k v1 { C with mx:=C.mx+1 } rows:=⟨rfl,b.just,m1⟩
 have hk1:k.block<h1.size:=b1.box.own.lt
 refine ⟨by rw [add_block,add_block];exact hk1,_,_,_,b1.fld 8 rfl,by rw [add_block,add_block];exact hk1,_,b1.fld 0 rfl,?_⟩
 dsimp only
 rw [hw2]
 have e2:=Ext.push h1 (.cells #[.int .i64 (2*(C.mx+1)),.int .i64 (max x y),.int .i64 (min x y)] 120)
 obtain ⟨h2,hh2⟩:∃ h2,h2=h1.push (.cells #[.int .i64 (2*(C.mx+1)),.int .i64 (max x y),.int .i64 (min x y)] 120):=⟨_,rfl⟩
 have r2:Rd h2 (some ⟨h1.size,0,none⟩) 3 (L3.cs ⟨2*(C.mx+1),max x y,min x y⟩):=by rw [hh2];exact (Fr.lit (.refl h1) (L3.cs ⟨2*(C.mx+1),max x y,min x y⟩) 120 3 rfl).rd
 rw [<- hh2] at e2 ⊢
 have b2:=b1.ext e2
 refine ⟨fun b hb=>e2.2 b hb fun x=>x,_,r2.read,rfl,?_⟩
 refine (b2.mem.get 8 rfl).app rfl (by simp [L3.cs,Value.oneCell']) (by show (v.g.n+1)*24≤_;omega) fun a' c' h3 f u hor=>?_
 have m3:=b2.mem.setAt 8 (t':=⟨3,a',v.g.n+1,c',C.ands.flatMap L3.cs++L3.cs ⟨2*(C.mx+1),max x y,min x y⟩⟩) rfl f u hor
 refine Mem.stP m3 8 (by omega) rfl fun h4 m4 u4=>?_
 refine ⟨_,Mem.fldP m4 0 rfl,by rw [hw2],{ v1 with g:=⟨a',v.g.n+1,c'⟩ },rfl,⟨rfl,b.just,?_⟩,?_⟩
 ·have e:C.ands.flatMap L3.cs++L3.cs ⟨2*(C.mx+1),max x y,min x y⟩=(C.ands++[(⟨2*(C.mx+1),max x y,min x y⟩:L3)]).flatMap L3.cs:=by rw [List.flatMap_append];simp
  rw [e] at m4
  exact m4
 ·have g1:=(m4.get 0 rfl).rd.fld 4 (v:=Value.slice v.b.a v.b.n v.b.c) rfl
  have g2:=b.box.rd.fld 4 (v:=Value.slice v.b.a v.b.n v.b.c) rfl
  rw [g1,g2]
def isC (s:Sy):Bool:=decide (s.k=99)
theorem c33 (s:Sy) (h:Heap):CallsH Try.prog 33 #[.agg #[.int .u8 s.k,.int .i64 s.i,.string s.s]] h (Xt (.bool (isC s)) h):=by
 refine run33 s.k s.i s.s _ h ?_
 unfold VC33
 intro h1
 have hb:Rd h1 (some ⟨h.size,0,none⟩) 3 s.cs:=(Fr.lit (.refl h) s.cs 71 3 rfl).rd
 exact ⟨_,hb.fld 0 rfl,fun e=>⟨by rw [isC,decide_eq_true e],Ext.box h _⟩,fun e=>⟨by rw [isC,decide_eq_false e],Ext.box h _⟩⟩
theorem ok33:callOk Try.prog 33=true:=by kernel_rfl
theorem c56 {h:Heap} {a:Option Addr} {n c:Nat} {S:List Sy} (r:Rd h a (n*3) (S.flatMap Sy.cs)) (hn:n<9223372036854775807) :
  CallsH Try.prog 56 #[.slice a n c,.func (.func 33) #[] #[]] h fun w h'=>Ext h h'/\((w=.int .i64 (-1)/\∀ j (hj:j<S.length),isC S[j]=false)∨∃ i:Nat,∃ hi:i<S.length,w=.int .i64 i/\isC S[i]=true/\∀ j (hj:j<S.length),j<i->isC S[j]=false):=by
 have hl:=r.elen Sy.csl (by omega)
 refine run56 a n c _ _ h (LoopT.to (n:=n) hn (fun i h'=>Ext h h'/\∀ j (hj:j<S.length),j<i->isC S[j]=false) ⟨.refl _,fun j _ hj=>by omega⟩ ?_)
 rintro i h1 K hi ⟨u1,hno⟩ hK
 refine ⟨fun hlt=>?_,fun hlt=>⟨u1,.inl ⟨rfl,fun j hj=>hno j hj (by omega)⟩⟩⟩
 refine ⟨by omega,hlt,(r.ext u1).elem Sy.csl (by omega) (i:=i) (by omega) fun ad hl1 re=>⟨_,_,_,re.cells,CallV.func ok33 (useX (c33 S[i] h1) fun h2 u2=>⟨_,rfl,?_⟩)⟩⟩
 cases hc:isC S[i] with
 | true=>exact BIf.t ⟨u1.trans u2,.inr ⟨i,hl1,rfl,hc,hno⟩⟩
 | false=>exact BIf.f (hK _ (by omega) ⟨u1.trans u2,fun j hj hji=>by
   by_cases h:j=i
   ·subst h;exact hc
   ·exact hno j hj (by omega)⟩)
end Go.Proofs.Ytdpbdjdgdmheiaa
namespace Go.Proofs.Ytdpbdjdgdmheiaa
open Go.Hx
theorem zrow_len (z:Array Value) (n:Nat):(zeroRow z n).length=n:=by simp [zeroRow]
theorem zrow_one {z:Array Value} (hz:∀ v∈z.toList,v.oneCell'=true) (h0:0<z.size) (n:Nat):∀ y∈zeroRow z n,y.oneCell'=true:=by
 intro y hy
 unfold zeroRow at hy
 obtain ⟨i,_,rfl⟩:=List.mem_map.1 hy
 have hl:i % z.size<z.toList.length:=by rw [Array.length_toList];exact Nat.mod_lt _ h0
 rw [List.getD_eq_getElem?_getD,List.getElem?_eq_getElem hl]
 exact hz _ (List.getElem_mem hl)
theorem Sy.one1 (s:Sy):∀ v∈s.cs,v.oneCell'=true:=by simp [Sy.cs,Value.oneCell']
theorem c32 {h0 h:Heap} {a:Option Addr} {n c:Nat} {S:List Sy} (f:Fr h0 3 h a n c (S.flatMap Sy.cs)) (hn:n<9223372036854775806) :
  CallsH Try.prog 32 #[.slice a n c,.func (.func 33) #[] #[]] h fun w h'=>∃ k,w=.slice a k c/\Fr h0 3 h' a k c ((S.filter fun s=>!isC s).flatMap Sy.cs)/\Upd (atb a) h h':=by
 have hl:=f.own.rd.elen Sy.csl (by omega)
 refine run32 a n c _ _ h ((c56 (c:=c) f.own.rd (by omega)).mono ?_)
 rintro _ h1 ⟨u1,⟨rfl,hno⟩ | ⟨t,ht,rfl,hct,hno⟩⟩
 ·refine ⟨_,rfl,fun _=>⟨n,rfl,?_,Upd.wide u1⟩,fun e=>absurd rfl e⟩
  rw [List.filter_eq_self.2 fun s hs=>by obtain ⟨j,hj,rfl⟩:=List.getElem_of_mem hs;rw [hno j hj];rfl]
  exact f.upd u1
 refine ⟨_,rfl,fun e=>by omega,fun _=>?_⟩
 have hw:IntKind.wrap .i64 ((t:Int)+1)=((t+1:Nat):Int):=by rw [w64 (by omega) (by omega)];rfl
 have f1:=f.upd u1
 obtain ⟨p,hp⟩:∃ p:Sy->Bool,p=fun s=>!isC s:=⟨_,rfl⟩
 rw [<- hp]
 have htk:∀ j≤t,(S.take j).filter p=S.take j:=fun j hj=>List.filter_eq_self.2 fun s hs=>by
  obtain ⟨i,hi,rfl⟩:=List.getElem_of_mem hs
  rw [List.length_take] at hi
  rw [List.getElem_take,hp]
  simp only
  rw [hno i (by omega) (by omega)];rfl
 refine ⟨fun (st:Int×Int) h' m=>∃ (i j:Nat) (X:List Sy),st=((i:Int),(j:Int))/\i≤j/\j≤n/\m=n-j/\X.length=n/\X.take i=(S.take j).filter p/\X.drop j=S.drop j/\i=((S.take j).filter p).length/\Fr h0 3 h' a n c (X.flatMap Sy.cs)/\Upd (atb a) h h',⟨n-(t+1),t,t+1,S,by rw [hw],by omega,by omega,rfl,hl,?_,rfl,?_,f1,Upd.wide u1⟩,?_⟩
 ·rw [List.take_succ_eq_append_getElem ht,List.filter_append,htk t (Nat.le_refl _),hp]
  simp [hct]
 ·rw [List.take_succ_eq_append_getElem ht,List.filter_append,htk t (Nat.le_refl _),hp]
  simp [hct];omega
 rintro _ h2 _ ⟨i,j,X,rfl,hij,hjn,rfl,hXl,hXt,hXd,hi,f2,u2⟩
 dsimp only
 refine ⟨fun hlt=>?_,fun hlt=>?_⟩
 ·have hjX:j<X.length:=by omega
  have hjS:j<S.length:=by omega
  have hXj:X[j]=S[j]:=by
   have:=congrArg (·[0]?) hXd
   simp only [List.getElem?_drop,Nat.add_zero] at this
   rw [List.getElem?_eq_getElem hjX,List.getElem?_eq_getElem hjS] at this
   exact Option.some.inj this
  have hjw:IntKind.wrap .i64 ((j:Int)+1)=((j+1:Nat):Int):=by rw [w64 (by omega) (by omega)];rfl
  have hiw:IntKind.wrap .i64 ((i:Int)+1)=((i+1:Nat):Int):=by rw [w64 (by omega) (by omega)];rfl
  have hd1:X.drop (j+1)=S.drop (j+1):=by
   have:=congrArg (List.drop 1) hXd
   rwa [List.drop_drop,List.drop_drop] at this
  refine ⟨by omega,by omega,f2.own.rd.elem Sy.csl (by omega) (i:=j) (by omega) fun ad hl1 re=>?_⟩
  rw [hXj] at re
  refine ⟨_,_,_,re.cells,?_⟩
  intro h3
  refine boxN (zs:=[.int .u8 0,.int .i64 0,.string (ByteArray.mk #[])]) (ws:=Sy.cs S[j]) rfl (Sy.one1 _) fun h4 u4 r4=>?_
  refine ⟨_,_,_,r4.cells,CallV.func ok33 (useX (c33 S[j] h4) fun h5 u5=>⟨_,rfl,?_⟩)⟩
  have f5:=f2.upd (u4.trans u5)
  have u25:Upd (atb a) h h5:=u2.trans (Upd.wide (u4.trans u5))
  cases hc:isC S[j] with
  | true=>
   refine BIf.f ?_
   refine ⟨n-(j+1),by omega,i,j+1,X,by rw [hjw],by omega,by omega,rfl,hXl,?_,hd1,?_,f5,u25⟩
   ·rw [List.take_succ_eq_append_getElem hjS,List.filter_append,hXt,hp];simp [hc]
   ·rw [List.take_succ_eq_append_getElem hjS,List.filter_append,hp];simp [hc];rw [hi,hp]
  | false=>
   refine BIf.t ⟨_,_,_,(r4.ext u5).cells,by omega,by omega,?_⟩
   obtain ⟨ad2,rfl⟩:=f5.own.rd.some (by omega)
   refine AtP.mk rfl (f5.setE Sy.csl (by omega) Sy.one1 (j:=i) (by omega) S[j] fun h6 u6 f6=>?_)
   refine ⟨n-(j+1),by omega,i+1,j+1,X.set i S[j],by rw [hiw,hjw],by omega,by omega,rfl,by rw [List.length_set];exact hXl,?_,?_,?_,f6,u25.trans (u6.mono fun b _ e=>⟨ad2,rfl,e⟩)⟩
   ·have hiX:i<X.length:=by omega
    rw [List.take_succ_eq_append_getElem (by rw [List.length_set];exact hiX),List.getElem_set_self,List.take_set_of_le (Nat.le_refl _),hXt,List.take_succ_eq_append_getElem hjS,List.filter_append,hp]
    simp [hc]
   ·rw [List.drop_set_of_lt (by omega),hd1]
   ·rw [List.take_succ_eq_append_getElem hjS,List.filter_append,hp];simp [hc];rw [hi,hp]
 ·have:j=n:=by omega
  subst this
  have hS:S.take j=S:=List.take_of_length_le (by omega)
  rw [hS] at hXt hi
  have hcap:=f2.own.cap
  refine ⟨by omega,by omega,by omega,?_⟩
  have hlen:=f2.own.rd.len
  have key:∀ h3,Fr h0 3 h3 a i c ((S.filter p).flatMap Sy.cs)->Upd (atb a) h h3->∃ k,Value.slice (cutA 3 a c (Int.toNat 0)) (Int.toNat (i:Nat)-Int.toNat 0) (c-Int.toNat 0)=.slice a k c/\Fr h0 3 h3 a k c ((S.filter p).flatMap Sy.cs)/\Upd (atb a) h h3:=fun h3 f3 u3=>⟨i,by rw [cutA0] <;> rfl,f3,u3⟩
  have take:(X.flatMap Sy.cs).take (i*3)=(S.filter p).flatMap Sy.cs:=by
   have e:X.flatMap Sy.cs=(X.take i).flatMap Sy.cs++(X.drop i).flatMap Sy.cs:=by rw [<- List.flatMap_append,List.take_append_drop]
   have e2:((X.take i).flatMap Sy.cs).length=i*3:=by rw [flat_len Sy.csl,List.length_take];congr 1;omega
   rw [e,List.take_append_of_le_length (by omega),List.take_of_length_le (by omega),hXt]
  have f3:Fr h0 3 h2 a i c ((S.filter p).flatMap Sy.cs):=⟨by have:=f2.own.take (m:=i) (by omega);rwa [take] at this,f2.new,f2.ext⟩
  have fin:∀ h3,Fr h0 3 h3 a i c ((S.filter p).flatMap Sy.cs)->Upd (atb a) h h3->(0:Int)≤0/\(0:Int)≤(i:Nat)/\((i:Nat):Int)≤(c:Nat)/\∃ k,Value.slice (cutA 3 a c (Int.toNat 0)) (Int.toNat (i:Nat)-Int.toNat 0) (c-Int.toNat 0)=.slice a k c/\Fr h0 3 h3 a k c ((S.filter p).flatMap Sy.cs)/\Upd (atb a) h h3:=
   fun h3 f3 u3=>⟨by omega,by omega,by omega,key h3 f3 u3⟩
  cases a with
  | none=>
   have:cutA 3 none c (Int.toNat (i:Nat))=none:=by unfold cutA;split <;> rfl
   rw [this]
   exact fin h2 f3 u2
  | some ad=>
   by_cases hic:i=c
   ·have:cutA 3 (some ad) c (Int.toNat (i:Nat))=some ad:=by unfold cutA;rw [if_pos (by simpa using hic.symm)]
    rw [this]
    have hz:zeroRow #[.int .u8 0,.int .i64 0,.string (ByteArray.mk #[])] ((Int.toNat (j:Nat)-Int.toNat (i:Nat))*3)=[]:=by
     have:(Int.toNat (j:Nat)-Int.toNat (i:Nat))*3=0:=by simp only [Int.toNat_natCast];omega
     rw [this];rfl
    rw [hz]
    exact fin h2 f3 u2
   ·have:cutA 3 (some ad) c (Int.toNat (i:Nat))=some (ad.add (i*3)):=by unfold cutA;rw [if_neg (by simpa using fun e=>hic e.symm)];rfl
    rw [this]
    refine CpyH.some (f2.own.write (i*3) _ (by rw [zrow_len];simp only [Int.toNat_natCast];omega) (zrow_one (by simp [Value.oneCell']) (by simp) _) fun h3 u3 w3=>?_)
    refine fin h3 ⟨w3 i _ (by rw [<- take,List.length_take,hlen];omega) (by omega) fun q hq=>?_,f2.new,Fr.ext_of f2.ext f2.new (u3.mono fun b _ e=>⟨ad,rfl,e⟩)⟩ (u2.trans (u3.mono fun b _ e=>⟨ad,rfl,e⟩))
    rw [if_neg (by omega),<- take,List.getElem?_take_of_lt hq]
end Go.Proofs.Ytdpbdjdgdmheiaa
namespace Go.Proofs.Ytdpbdjdgdmheiaa
open Go.Hx
section
variable {hb0 h h0:Heap} {v:CV} {C:Circ} {k:Addr} {rows:List Rw}
def FPost (C:Circ) (h:Heap) (w:Value) (h':Heap):Prop:=∃ v':CV,w=.tuple #[v'.v,.int .i64 (foldR C).2]/\CNew h h' v' (foldR C).1
theorem fold5 {h_ hB hC:Heap} {good:Int} (hh_:h_.size=h.size+1) (e0:Ext h hB) (hs:h.size+1<hB.size) {G:List L3} {Bd:List Int} {m:Int} (b:Bx hB hC k v { C with mx:=m,ands:=G,bads:=Bd } rows) (fb:∃ vs,Fr h 1 hC (some ⟨h_.size,0,none⟩) 11 11 vs)
  (hm0:0≤C.mx) (hm1:C.mx≤16384) (hl:C.lats.length≤16384) (hf:C.fair.length≤16384) (hsy:C.syms.length≤16384)
  (hR:foldR C=({ C with mx:=m,ands:=G,bads:=Bd,lats:=C.lats++[⟨2*(C.mx+1),good,1⟩],fair:=C.fair++[good],cons:=[],syms:=C.syms.filter fun s=>decide (s.k≠99) },0)) :
  J11_5 Try.prog (FPost C h) h_ (some k) (C.mx+1) good hC:=by
 obtain ⟨q1,q2,q3,q4,q5,q6,q7,q8,q9,q10⟩:=b.cnew.cis.len
 simp only at q2 q7 q9
 obtain ⟨vs0,fb⟩:=fb
 refine ⟨_,_,_,b.fld 2 rfl,?_⟩
 have hw:IntKind.wrap .i64 (2*(C.mx+1))=2*(C.mx+1):=w64 (by omega) (by omega)
 rw [hw]
 intro h1
 have e1:Ext hC h1:=Ext.push _ _
 have r1:Rd h1 (some ⟨hC.size,0,none⟩) 3 (L3.cs ⟨2*(C.mx+1),good,1⟩):=(Fr.lit (.refl hC) (L3.cs ⟨2*(C.mx+1),good,1⟩) 63 3 rfl).rd
 have m1:=b.mem.ext' e1
 refine ⟨_,r1.read,rfl,(m1.get 2 rfl).app rfl (by simp [L3.cs,Value.oneCell']) (by omega) fun a2 c2 h2 f2 u2 hor2=>?_⟩
 have m2:=m1.setAt 2 (t':=⟨3,a2,v.l.n+1,c2,C.lats.flatMap L3.cs++L3.cs ⟨2*(C.mx+1),good,1⟩⟩) rfl f2 u2 hor2
 refine Mem.stP m2 2 (by omega) rfl fun h3 m3 u3=>?_
 refine ⟨_,_,_,Mem.fldP m3 7 rfl,?_⟩
 intro h4
 have e4:Ext h3 h4:=Ext.push _ _
 have r4:Rd h4 (some ⟨h3.size,0,none⟩) 1 [.int .i64 good]:=(Fr.lit (.refl h3) [.int .i64 good] 3 1 rfl).rd
 have m4:=m3.ext' e4
 refine ⟨_,r4.read,rfl,(m4.get 7 rfl).app rfl (by simp [Value.oneCell']) (by omega) fun a7 c10007 h5 f5 u5 hor5=>?_⟩
 have m5:=m4.setAt 7 (t':=⟨1,a7,v.f.n+1,c10007,ints C.fair++[.int .i64 good]⟩) rfl f5 u5 hor5
 refine Mem.stP m5 7 (by omega) rfl fun h6 m6 u6=>?_
 refine Mem.stP m6 5 (by omega) rfl fun h7 m7 u7=>?_
 have m8:=m7.unset 5 rfl 1
 refine ⟨_,_,_,Mem.fldP m8 9 rfl,(c32 (m8.get 9 rfl) (by omega)).mono ?_⟩
 rintro _ h9 ⟨k9,rfl,f9,u9⟩
 have m9:=m8.setAt 9 (t':=⟨3,v.s.a,k9,v.s.c,(C.syms.filter fun s=>!isC s).flatMap Sy.cs⟩) rfl f9 u9 (.inl rfl)
 refine ⟨_,_,_,rfl,Mem.stP m9 9 (by omega) rfl fun h10 m10 u10=>?_⟩
 let v':CV:={ v with l:=⟨a2,v.l.n+1,c2⟩,f:=⟨a7,v.f.n+1,c10007⟩,c:=⟨none,0,0⟩,s:=⟨v.s.a,k9,v.s.c⟩ }
 have rk:Rd h10 (some (k.add 0)) 11 v'.cs:=by rw [addr_add0];exact (m10.get 0 rfl).rd
 refine AtP.mk rfl (ldC rk ?_)
 have hkeep:Ext h h10:=e0.trans m10.ext
 have hres:Fr h 1 h10 (some ⟨h_.size,0,none⟩) 11 11 vs0:=by
  have hBC:∀ b,b<hB.size->h10[b]?=hC[b]?:=fun i hi=>by rw [m10.ext.2 i hi fun x=>x,b.mem.ext.2 i hi fun x=>x]
  have hlt:h_.size<hB.size:=by omega
  refine ⟨⟨⟨fun i x hx=>?_,fb.own.rd.len⟩,fb.own.cap,?_⟩,fb.new,hkeep⟩
  ·have:=fb.own.rd.read i x hx
   exact (cellH_congr (h:=hC) (h':=h10) (by rw [add_block];exact hBC _ hlt)).trans this
  ·obtain ⟨hsp,cs,e,hb,hle⟩:=fb.own.mem
   exact ⟨hsp,cs,e,by rw [hBC _ hlt];exact hb,hle⟩
 refine hres.put (ws:=v'.cs) rfl (CV.one v') fun h11 f11 u11=>?_
 have mo:=m10.over e0 u11 fun b ⟨ad,ha,e⟩=>by cases ha;simp only at e;omega
 have hf2:(C.syms.filter fun s=>!isC s)=C.syms.filter fun s=>decide (s.k≠99):=List.filter_congr fun s _=>by simp [isC]
 refine ldC f11.rd ⟨v',by rw [hR] <;> rfl,?_⟩
 rw [hR]
 refine ⟨b.mx,rows,b.just,?_⟩
 have mo2:=mo.sub (List.sublist_cons_self ..)
 have ee:C.lats.flatMap L3.cs++L3.cs ⟨2*(C.mx+1),good,1⟩=(C.lats++[(⟨2*(C.mx+1),good,1⟩:L3)]).flatMap L3.cs:=by rw [List.flatMap_append];simp
 have ef:ints C.fair++[Value.int .i64 good]=ints (C.fair++[good]):=by rw [ints,ints,List.map_append];rfl
 rw [ee,ef,hf2] at mo2
 exact mo2
theorem J31_loop2 {h_ hB hC:Heap} {good:Int} {a76:Option Addr} {n76:Nat} (hh_:h_.size=h.size+1) (e0:Ext h hB) (hs:h.size+1<hB.size) (rb:Rd hB a76 n76 (ints C.bads)) {G:List L3} {m:Int} (b:Bx hB hC k v { C with mx:=m,ands:=G } rows)
  (fb:Fr h 1 hB (some ⟨h_.size,0,none⟩) 11 11 CV.zero.cs) (hm0:0≤C.mx) (hm1:C.mx≤16384) (hl:C.lats.length≤16384) (hf:C.fair.length≤16384) (hsy:C.syms.length≤16384) (hbl:C.bads.length≤16384) (hm:m=C.mx+1+C.cons.length) (hcl:C.cons.length≤16384) (hG:G.length≤65536)
  (hR:foldR C=({ foldBads good C.bads 0 { C with mx:=m,ands:=G } with lats:=C.lats++[⟨2*(C.mx+1),good,1⟩],fair:=C.fair++[good],cons:=[],syms:=C.syms.filter fun s=>decide (s.k≠99) },0)) :
  LoopT (σ:=Int) (fun st_ h_st nx_st=>B11_8 Try.prog (FPost C h) h_ (some k) (C.mx+1) good a76 n76 (st_) h_st nx_st) (0) hC:=by
 have hbn:=rb.ilen
 refine LoopT.to (n:=n76) (by omega) (fun i h'=>∃ (v':CV) (G' Bd:_),Bx hB h' k v' { C with mx:=m+i,ands:=G',bads:=Bd } rows/\G'.length=G.length+i/\Bd.length=C.bads.length/\foldBads good (C.bads.drop i) i { C with mx:=m+i,ands:=G',bads:=Bd }=foldBads good C.bads 0 { C with mx:=m,ands:=G }) ⟨v,G,C.bads,by simpa using b,by simp,rfl,by simp⟩ ?_
 rintro i h1 K hi ⟨v',G',Bd,b1,hg1,hb1,hF⟩ hK
 have u1:=b1.mem.ext
 have q4:=b1.cnew.cis.len.b
 simp only at q4
 refine ⟨fun hlt=>?_,fun hlt=>?_⟩
 ·have hib:i<C.bads.length:=by omega
  refine ⟨by omega,hlt,(rb.ext u1).getn (by omega) fun ad hl1 hc=>⟨_,hc,⟨fun a c=>cellH c (k.add 4)=cellH a (k.add 4),fun _=>rfl,fun h=>h.symm,fun h k=>k.trans h⟩,AtP.mk rfl ?_⟩⟩
  refine ⟨fun h'' hz=>by rw [add0_add];exact hz,_,_,_,b1.fld 4 rfl,(c31 b1 (by simp only;omega) (by simp only;omega) (by simp only;omega) _ _).mono ?_⟩
  rintro _ h2 ⟨rfl,v2,hv2,b2,hz2⟩
  refine ⟨_,rfl,hz2,by omega,by omega,?_⟩
  have fB:Fr hB 1 h2 v'.b.a v'.b.n v'.b.c (ints Bd):=by have:=b2.mem.get 4 rfl;rw [hv2] at this;exact this
  refine fB.set1 (by omega) (by omega) rfl fun h3 u3 f3=>hK _ (by omega) ⟨v2,G'++[⟨2*(m+i+1),max C.bads[i] good,min C.bads[i] good⟩],Bd.set i (2*(m+i+1)),⟨?_,b2.just,?_⟩,by simp [hg1];omega,by simpa using hb1,?_⟩
  ·have:=b2.mx;simp only [gate1] at this ⊢;rw [this];omega
  ·have:=b2.mem.setAt 4 (t':=⟨1,v2.b.a,v2.b.n,v2.b.c,(ints Bd).set (Int.toNat i) (.int .i64 (2*(m+i+1)))⟩) rfl (by rw [hv2];exact f3) (by rw [hv2];exact u3) (.inl rfl)
   have e:(ints Bd).set (Int.toNat i) (.int .i64 (2*(m+i+1)))=ints (Bd.set i (2*(m+i+1))):=by rw [ints,ints,List.map_set];rfl
   rw [e] at this
   exact this
  ·rw [<- hF,List.drop_eq_getElem_cons hib,foldBads]
   congr 1
   simp only [gate1,Circ.mk.injEq,and_true,true_and]
   omega
 ·have hin:i=n76:=by omega
  subst hin
  have hd:C.bads.drop i=[]:=List.drop_of_length_le (by omega)
  rw [hd,foldBads] at hF
  rw [<- hF] at hR
  exact fold5 hh_ e0 hs b1 ⟨_,fb.upd u1⟩ hm0 hm1 hl hf hsy hR
theorem c11 (r:CIs h v C) (ok:C.Ok):CallsH Try.prog 11 #[v.v] h (FPost C h):=by
 obtain ⟨q1,q2,q3,q4,q5,q6,q7,q8,q9,q10⟩:=r.len
 have hmx:=r.mx
 refine run11 v _ h ?_
 unfold VC11
 intro h1 h2
 have e2:Ext h h2:=(Ext.box h _).trans (Ext.box h1 _)
 have hs1:h1.size=h.size+1:=by simp [h1]
 have hs2:h2.size=h.size+2:=by simp [h2,hs1]
 have hb:Rd h2 (some ⟨h.size,0,none⟩) 11 v.cs:=(boxC v 29).ext (Ext.box h1 _)
 have fb:Fr h 1 h2 (some ⟨h1.size,0,none⟩) 11 11 CV.zero.cs:=Fr.lit (Ext.box h _) CV.zero.cs 29 11 rfl
 refine ldC hb (useX (c27 (r.ext e2) ok) fun h3 e3=>⟨_,_,rfl,fun hc=>?_,fun hc=>?_⟩)
 have e03:=e2.trans e3
 have bad:∀ (e:Int),foldR C=(Circ.zero,e)->StoreH h3 (Addr.mk (h1).size 0 none) CV.zero.cs fun h_5=>LdC h_5 (Addr.mk (h1).size 0 none) fun t5=>
   FPost C h (.tuple #[t5.v,.int .i64 e]) h_5:=by
  intro e he
  refine (fb.upd e3).put (ws:=CV.zero.cs) rfl (CV.one _) fun h4 f4 u4=>ldC f4.rd ⟨CV.zero,by rw [he] <;> rfl,?_⟩
  rw [he]
  exact CNew.zero f4.ext
 have bad2:FLong C->foldR C=(Circ.zero,2):=fun hl=>by unfold foldR;rw [if_neg (by rw [hc];simp),if_pos hl]
 ·obtain ⟨⟨b0,b1⟩,b2,b3,b4,b5,b6,b7,b8,b9,b10,b11,b12⟩:=chk_bounds hc
  have hb3:=hb.ext e3
  have w1:IntKind.wrap .i64 (((v.c.n:Nat):Int)+(v.b.n:Nat))=(v.c.n:Nat)+(v.b.n:Nat):=w64 (by omega) (by omega)
  have w2:IntKind.wrap .i64 (v.mx+1)=v.mx+1:=w64 (by omega) (by omega)
  have w3:IntKind.wrap .i64 (v.mx+1+((v.c.n:Nat)+(v.b.n:Nat)))=v.mx+1+((v.c.n:Nat)+(v.b.n:Nat)):=w64 (by omega) (by omega)
  have w4:IntKind.wrap .i64 ((v.g.n:Nat)+(((v.c.n:Nat):Int)+(v.b.n:Nat)))=(v.g.n:Nat)+((v.c.n:Nat)+(v.b.n:Nat)):=w64 (by omega) (by omega)
  refine ⟨_,_,_,hb3.fld 5 rfl,_,_,_,hb3.fld 4 rfl,_,hb3.fld 0 rfl,?_⟩
  rw [w1,w2,w3]
  refine ⟨fun hl=>bad 2 (bad2 (.inl (by omega))),fun n1=>⟨_,_,_,hb3.fld 2 rfl,fun hl=>bad 2 (bad2 (.inr (.inl (by omega)))),fun n2=>⟨_,_,_,hb3.fld 7 rfl,fun hl=>bad 2 (bad2 (.inr (.inr (.inl (by omega))))),fun n3=>⟨_,_,_,hb3.fld 8 rfl,?_⟩⟩⟩⟩
  rw [w4]
  refine ⟨fun hl=>bad 2 (bad2 (.inr (.inr (.inr (by omega))))),fun n4=>?_⟩
  have hnl:¬ FLong C:=by unfold FLong;omega
  refine ldC hb3 ((c30 (r.ext e03) ok).mono ?_)
  rintro _ h4 ⟨k,v1,rows,rfl,bx⟩
  have hmx1:=bx.mx
  refine ⟨_,rfl,v1.mx,bx.fld 0 rfl,AtP.mk rfl (bx.st 0 (by omega) rfl fun h5 m5 u5=>?_)⟩
  have w5:IntKind.wrap .i64 (v1.mx+1)=C.mx+1:=by rw [hmx1,w64 (by omega) (by omega)]
  have w6:IntKind.wrap .i64 (2*(C.mx+1))=2*(C.mx+1):=w64 (by omega) (by omega)
  rw [w5] at m5
  let v2:CV:={ v1 with mx:=C.mx+1 }
  have bx5:Bx h3 h5 k v2 { C with mx:=C.mx+1 } rows:=⟨rfl,bx.just,m5⟩
  refine ⟨C.mx+1,bx5.fld 0 rfl,_,_,_,(hb3.ext m5.ext).fld 5 rfl,?_⟩
  rw [w6]
  have r3:=r.ext e03
  obtain ⟨X,hX⟩:∃ X,X=foldCons C.cons { C with mx:=C.mx+1 } (2*(C.mx+1)):=⟨_,rfl⟩
  refine LoopT.to2 (n:=v.c.n) (by omega) (fun i good h'=>∃ (v':CV) (G:List L3),Bx h3 h' k v' { C with mx:=C.mx+1+i,ands:=G } rows/\G.length=C.ands.length+i/\foldCons (C.cons.drop i) { C with mx:=C.mx+1+i,ands:=G } good=X) ⟨v2,C.ands,by simpa using bx5,by simp,by rw [hX];simp⟩ ?_
  rintro i good h6 K hi ⟨v',G,b6',hg,hF⟩ hK
  have u6:=b6'.mem.ext
  refine ⟨fun hlt=>?_,fun hlt=>?_⟩
  ·have hic:i<C.cons.length:=by omega
   refine ⟨by omega,hlt,(r3.c.ext u6).getn (by omega) fun ad hl1 hcc=>⟨_,hcc,(c31 b6' (by simp only;omega) (by simp only;omega) (by simp only;omega) _ _).mono ?_⟩⟩
   rintro _ h7 ⟨rfl,v3,_,b7,_⟩
   refine ⟨_,rfl,hK _ _ (by omega) ⟨v3,G++[(⟨2*(C.mx+1+i+1),max good C.cons[i],min good C.cons[i]⟩:L3)],⟨?_,b7.just,b7.mem⟩,by simp [hg];omega,?_⟩⟩
   ·have:=b7.mx;simp only [gate1] at this ⊢;rw [this];omega
   ·rw [<- hF,List.drop_eq_getElem_cons hic,foldCons]
    congr 1
    simp only [gate1,Circ.mk.injEq,and_true,true_and]
    omega
  ·have hin:i=v.c.n:=by omega
   subst hin
   have hd:C.cons.drop v.c.n=[]:=List.drop_of_length_le (by omega)
   rw [hd,foldCons] at hF
   refine ⟨_,_,_,(hb3.ext u6).fld 4 rfl,?_⟩
   have hR:foldR C=({ foldBads good C.bads 0 { C with mx:=C.mx+1+(v.c.n:Nat),ands:=G } with lats:=C.lats++[⟨2*(C.mx+1),good,1⟩],fair:=C.fair++[good],cons:=[],syms:=C.syms.filter fun s=>decide (s.k≠99) },0):=by
    unfold foldR
    rw [if_neg (by rw [hc];simp),if_neg hnl]
    unfold foldC
    rw [<- hX,<- hF]
   exact J31_loop2 hs1 e03 (by have:=e3.1;omega) r3.b b6' (fb.upd e3) b0 b1 b3 b8 b10 b5 (by rw [q5]) b6 (by omega) hR
 ·have he:foldR C=(Circ.zero,(chk C).2):=by unfold foldR;rw [if_pos hc]
  refine (fb.upd e3).put (ws:=CV.zero.cs) rfl (CV.one _) fun h4 f4 u4=>ldC f4.rd ⟨CV.zero,by rw [he] <;> rfl,?_⟩
  rw [he]
  exact CNew.zero f4.ext
end
end Go.Proofs.Ytdpbdjdgdmheiaa
