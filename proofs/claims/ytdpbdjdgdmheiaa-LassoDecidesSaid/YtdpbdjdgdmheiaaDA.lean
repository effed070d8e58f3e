/- Words and facts that the claim's proof leans on. No condition. -/
import Derived.Test.YtdpbdjdgdmheiaaCR
set_option linter.unusedVariables false
set_option linter.unusedSimpArgs false
namespace Go.Hx
theorem range_get {α:Type}:∀ L:List α,(List.range L.length).filterMap (fun i=>L[i]?)=L
 | []=>rfl
 | x::L=>by
  rw [List.length_cons,List.range_succ_eq_map,List.filterMap_cons]
  simp only [List.getElem?_cons_zero,List.filterMap_map]
  congr 1
  exact range_get L
theorem perm_idx {α:Type} (L:List α) (p:List Nat) (n:Nat) (hn:L.length=n) (hp:p.Perm (List.range n)):(p.filterMap fun i=>L[i]?).Perm L:=by
 subst hn
 have:=List.Perm.filterMap (fun i=>L[i]?) hp
 rwa [range_get] at this
end Go.Hx
namespace Go.Proofs.Ytdpbdjdgdmheiaa
open Go.Hx
theorem c85 {h:Heap} {a:Option Addr} {n c:Nat} {l:List Int} (r:Rd h a n (ints l)) (hn:n≤17592186044416):CallsH Try.prog 85 #[.slice a n c] h fun w h'=>∃ a' c',w=.slice a' n c'/\Fr h 1 h' a' n c' (ints l):=
 run85 a n c _ h (by unfold VC85;exact clone (sz:=1) (K:=fun a' n' c' h'=>∃ a1 c1,Value.slice a' n' c'=.slice a1 n c1/\Fr h 1 h' a1 n c1 (ints l)) (by rwa [Nat.mul_one]) (by omega) ints_one (by omega) fun a' c' h' f=>⟨a',c',rfl,f⟩)
theorem c86 {h:Heap} {a:Option Addr} {n c:Nat} {l:List L3} (r:Rd h a (n*3) (l.flatMap L3.cs)) (hn:n≤5864062014805):CallsH Try.prog 86 #[.slice a n c] h fun w h'=>∃ a' c',w=.slice a' n c'/\Fr h 3 h' a' n c' (l.flatMap L3.cs):=
 run86 a n c _ h (by unfold VC86;exact clone (sz:=3) (K:=fun a' n' c' h'=>∃ a1 c1,Value.slice a' n' c'=.slice a1 n c1/\Fr h 3 h' a1 n c1 (l.flatMap L3.cs)) r (by omega) L3.one (by omega) fun a' c' h' f=>⟨a',c',rfl,f⟩)
theorem c87 {h:Heap} {a:Option Addr} {n c:Nat} {l:List L3} (r:Rd h a (n*3) (l.flatMap L3.cs)) (hn:n≤5864062014805):CallsH Try.prog 87 #[.slice a n c] h fun w h'=>∃ a' c',w=.slice a' n c'/\Fr h 3 h' a' n c' (l.flatMap L3.cs):=
 run87 a n c _ h (by unfold VC87;exact clone (sz:=3) (K:=fun a' n' c' h'=>∃ a1 c1,Value.slice a' n' c'=.slice a1 n c1/\Fr h 3 h' a1 n c1 (l.flatMap L3.cs)) r (by omega) L3.one (by omega) fun a' c' h' f=>⟨a',c',rfl,f⟩)
theorem c88 {h:Heap} {a:Option Addr} {n c:Nat} {l:List Sy} (r:Rd h a (n*3) (l.flatMap Sy.cs)) (hn:n≤4398046511104):CallsH Try.prog 88 #[.slice a n c] h fun w h'=>∃ a' c',w=.slice a' n c'/\Fr h 3 h' a' n c' (l.flatMap Sy.cs):=
 run88 a n c _ h (by unfold VC88;exact clone (sz:=3) (K:=fun a' n' c' h'=>∃ a1 c1,Value.slice a' n' c'=.slice a1 n c1/\Fr h 3 h' a1 n c1 (l.flatMap Sy.cs)) r (by omega) Sy.one (by omega) fun a' c' h' f=>⟨a',c',rfl,f⟩)
theorem c89 {h:Heap} {a:Option Addr} {n c:Nat} {l:List ByteArray} (r:Rd h a n (l.map Value.string)) (hn:n≤8796093022208):CallsH Try.prog 89 #[.slice a n c] h fun w h'=>∃ a' c',w=.slice a' n c'/\Fr h 1 h' a' n c' (l.map Value.string):=
 run89 a n c _ h (by unfold VC89;exact clone (sz:=1) (K:=fun a' n' c' h'=>∃ a1 c1,Value.slice a' n' c'=.slice a1 n c1/\Fr h 1 h' a1 n c1 (l.map Value.string)) (by rwa [Nat.mul_one]) (by omega) str_one (by omega) fun a' c' h' f=>⟨a',c',rfl,f⟩)
theorem c90 {h:Heap} {a:Option Addr} {n c:Nat} {l:List Rw} (r:Rd h a n (l.map Rw.v)) (hn:n≤5864062014805):CallsH Try.prog 90 #[.slice a n c] h fun w h'=>∃ a' c',w=.slice a' n c'/\Fr h 1 h' a' n c' (l.map Rw.v):=
 run90 a n c _ h (by unfold VC90;exact clone (sz:=1) (K:=fun a' n' c' h'=>∃ a1 c1,Value.slice a' n' c'=.slice a1 n c1/\Fr h 1 h' a1 n c1 (l.map Rw.v)) (by rwa [Nat.mul_one]) (by omega) Rw.one (by omega) fun a' c' h' f=>⟨a',c',rfl,f⟩)
theorem c55 {h:Heap} {v:CV} {C:Circ} (r:CIs h v C) (ok:C.Ok):CallsH Try.prog 55 #[v.v] h fun w h'=>∃ v',w=CV.v v'/\CNew h h' v' C:=by
 obtain ⟨q1,q2,q3,q4,q5,q6,q7,q8,q9,q10⟩:=r.len
 have hn:=ok.n
 have hnb:=ok.nb
 refine run55 v _ h ?_
 unfold VC55
 intro h1 h2
 have e2:Ext h h2:=(Ext.box h _).trans (Ext.box h1 _)
 have hs1:h1.size=h.size+1:=by simp [h1]
 have hs2:h2.size=h.size+2:=by simp [h2,hs1]
 have hb:Rd h2 (some ⟨h.size,0,none⟩) 11 v.cs:=(boxC v 29).ext (Ext.box h1 _)
 have fb:Fr h 1 h2 (some ⟨h1.size,0,none⟩) 11 11 CV.zero.cs:=Fr.lit (Ext.box h _) CV.zero.cs 29 11 rfl
 have r2:=r.ext e2
 refine ldC hb ?_
 intro h3
 have f3:Fr h2 1 h3 (some ⟨h2.size,0,none⟩) 11 11 CV.zero.cs:=Fr.lit (.refl h2) CV.zero.cs 29 11 rfl
 refine f3.put (ws:=v.cs) rfl (CV.one v) fun h4 f4 u4=>?_
 have m0:Mem h2 h4 [⟨1,some ⟨h2.size,0,none⟩,11,11,v.cs⟩]:=(Mem.nil (.refl h2)).add (t:=⟨1,some ⟨h2.size,0,none⟩,11,11,v.cs⟩) f4
 have blt:∀ {h':Heap} (e:Ext h2 h') k,(Addr.add ⟨h.size,0,none⟩ k).block<h'.size:=fun e k=>by rw [add_block];have:=e.1;simp only;omega
 have ag:∀ {a b c:Heap},Ext a b->Ext b c->AgreeH a.size b c:=fun {a b c} h k i hi=>k.2 i (Nat.lt_of_lt_of_le hi h.1) fun x=>x
 have ex:=m0.ext
 refine ⟨blt ex 1,_,_,_,(hb.ext ex).fld 1 rfl,(c85 (r2.i.ext ex) (by omega)).mono ?_⟩
 rintro _ h5 ⟨a1,c1,rfl,f5⟩
 have m1:=m0.add (t:=⟨1,a1,v.i.n,c1,ints C.ins⟩) f5
 have x5:=f5.ext
 refine ⟨_,_,_,rfl,ag (.refl _) f5.ext,blt ex 2,_,_,_,(hb.ext m1.ext).fld 2 rfl,(c86 (r2.l.ext m1.ext) (by omega)).mono ?_⟩
 rintro _ h6 ⟨a2,c2,rfl,f6⟩
 have m2:=m1.add (t:=⟨3,a2,v.l.n,c2,C.lats.flatMap L3.cs⟩) f6
 have x6:=x5.trans f6.ext
 refine ⟨_,_,_,rfl,ag x5 f6.ext,blt ex 3,_,_,_,(hb.ext m2.ext).fld 3 rfl,(c85 (r2.o.ext m2.ext) (by omega)).mono ?_⟩
 rintro _ h7 ⟨a3,c10003,rfl,f7⟩
 have m3:=m2.add (t:=⟨1,a3,v.o.n,c10003,ints C.outs⟩) f7
 have x7:=x6.trans f7.ext
 refine ⟨_,_,_,rfl,ag x6 f7.ext,blt ex 4,_,_,_,(hb.ext m3.ext).fld 4 rfl,(c85 (r2.b.ext m3.ext) (by omega)).mono ?_⟩
 rintro _ h8 ⟨a4,c10004,rfl,f8⟩
 have m4:=m3.add (t:=⟨1,a4,v.b.n,c10004,ints C.bads⟩) f8
 refine ⟨_,_,_,rfl,ag x7 f8.ext,?_⟩
 refine (m4.get 4 rfl).cellAt 1 (by omega) rfl fun h9 u f=>?_
 have m5:=m4.setAt 4 (t':=⟨1,some ⟨h2.size,0,none⟩,11,11,_⟩) rfl f u (.inl rfl)
 refine (m5.get 4 rfl).cellAt 2 (by omega) rfl fun h10 u f=>?_
 have m6:=m5.setAt 4 (t':=⟨1,some ⟨h2.size,0,none⟩,11,11,_⟩) rfl f u (.inl rfl)
 refine (m6.get 4 rfl).cellAt 3 (by omega) rfl fun h11 u f=>?_
 have m7:=m6.setAt 4 (t':=⟨1,some ⟨h2.size,0,none⟩,11,11,_⟩) rfl f u (.inl rfl)
 refine (m7.get 4 rfl).cellAt 4 (by omega) rfl fun h12 u f=>?_
 have m8:=m7.setAt 4 (t':=⟨1,some ⟨h2.size,0,none⟩,11,11,_⟩) rfl f u (.inl rfl)
 have ex:=m8.ext
 refine ⟨blt ex 5,_,_,_,(hb.ext ex).fld 5 rfl,(c85 (r2.c.ext ex) (by omega)).mono ?_⟩
 rintro _ h13 ⟨a5,c10005,rfl,f13⟩
 have m9:=m8.add (t:=⟨1,a5,v.c.n,c10005,ints C.cons⟩) f13
 have x13:=f13.ext
 refine ⟨_,_,_,rfl,ag (.refl _) x13,blt ex 7,_,_,_,(hb.ext m9.ext).fld 7 rfl,(c85 (r2.f.ext m9.ext) (by omega)).mono ?_⟩
 rintro _ h14 ⟨a6,c10006,rfl,f14⟩
 have m10:=m9.add (t:=⟨1,a6,v.f.n,c10006,ints C.fair⟩) f14
 have x14:=x13.trans f14.ext
 refine ⟨_,_,_,rfl,ag x13 f14.ext,blt ex 8,_,_,_,(hb.ext m10.ext).fld 8 rfl,(c87 (r2.g.ext m10.ext) (by omega)).mono ?_⟩
 rintro _ h15 ⟨a7,c10007,rfl,f15⟩
 have m11:=m10.add (t:=⟨3,a7,v.g.n,c10007,C.ands.flatMap L3.cs⟩) f15
 refine ⟨_,_,_,rfl,ag x14 f15.ext,?_⟩
 refine (m11.get 7 rfl).cellAt 5 (by omega) rfl fun h16 u f=>?_
 have m12:=m11.setAt 7 (t':=⟨1,some ⟨h2.size,0,none⟩,11,11,_⟩) rfl f u (.inl rfl)
 refine (m12.get 7 rfl).cellAt 7 (by omega) rfl fun h17 u f=>?_
 have m13:=m12.setAt 7 (t':=⟨1,some ⟨h2.size,0,none⟩,11,11,_⟩) rfl f u (.inl rfl)
 refine (m13.get 7 rfl).cellAt 8 (by omega) rfl fun h18 u f=>?_
 have m14:=m13.setAt 7 (t':=⟨1,some ⟨h2.size,0,none⟩,11,11,_⟩) rfl f u (.inl rfl)
 have ex:=m14.ext
 refine ⟨blt ex 9,_,_,_,(hb.ext ex).fld 9 rfl,(c88 (r2.s.ext ex) (by omega)).mono ?_⟩
 rintro _ h19 ⟨a8,c10008,rfl,f19⟩
 have m15:=m14.add (t:=⟨3,a8,v.s.n,c10008,C.syms.flatMap Sy.cs⟩) f19
 have x19:=f19.ext
 refine ⟨_,_,_,rfl,ag (.refl _) x19,blt ex 10,_,_,_,(hb.ext m15.ext).fld 10 rfl,(c89 (r2.m.ext m15.ext) (by omega)).mono ?_⟩
 rintro _ h20 ⟨a9,c10009,rfl,f20⟩
 have m16:=m15.add (t:=⟨1,a9,v.m.n,c10009,C.coms.map Value.string⟩) f20
 have x20:=x19.trans f20.ext
 obtain ⟨rows0,hr0,hrs0,hrl0⟩:=r2.j.ex
 refine ⟨_,_,_,rfl,ag x19 f20.ext,blt ex 6,_,_,_,(hb.ext m16.ext).fld 6 rfl,(c90 (hr0.ext m16.ext) (by omega)).mono ?_⟩
 rintro _ h21 ⟨a10,c10010,rfl,f21⟩
 have m17:=m16.add (t:=⟨1,a10,v.j.n,c10010,rows0.map Rw.v⟩) f21
 refine ⟨_,_,_,rfl,ag x20 f21.ext,?_⟩
 refine (m17.get 10 rfl).cellAt 9 (by omega) rfl fun h22 u f=>?_
 have m18:=m17.setAt 10 (t':=⟨1,some ⟨h2.size,0,none⟩,11,11,_⟩) rfl f u (.inl rfl)
 refine (m18.get 10 rfl).cellAt 10 (by omega) rfl fun h23 u f=>?_
 have m19:=m18.setAt 10 (t':=⟨1,some ⟨h2.size,0,none⟩,11,11,_⟩) rfl f u (.inl rfl)
 refine (m19.get 10 rfl).cellAt 6 (by omega) rfl fun h24 u f=>?_
 have m20:=m19.setAt 10 (t':=⟨1,some ⟨h2.size,0,none⟩,11,11,_⟩) rfl f u (.inl rfl)
 let v':CV:=⟨v.mx,⟨a1,v.i.n,c1⟩,⟨a2,v.l.n,c2⟩,⟨a3,v.o.n,c10003⟩,⟨a4,v.b.n,c10004⟩,⟨a5,v.c.n,c10005⟩,⟨a10,v.j.n,c10010⟩,⟨a6,v.f.n,c10006⟩,⟨a7,v.g.n,c10007⟩,⟨a8,v.s.n,c10008⟩,⟨a9,v.m.n,c10009⟩⟩
 let base:List Itm:=[⟨1,a9,v.m.n,c10009,C.coms.map Value.string⟩,⟨3,a8,v.s.n,c10008,C.syms.flatMap Sy.cs⟩,⟨3,a7,v.g.n,c10007,C.ands.flatMap L3.cs⟩,⟨1,a6,v.f.n,c10006,ints C.fair⟩,⟨1,a5,v.c.n,c10005,ints C.cons⟩,⟨1,a4,v.b.n,c10004,ints C.bads⟩,⟨1,a3,v.o.n,c10003,ints C.outs⟩,
  ⟨3,a2,v.l.n,c2,C.lats.flatMap L3.cs⟩,⟨1,a1,v.i.n,c1,ints C.ins⟩,⟨1,some ⟨h2.size,0,none⟩,11,11,v'.cs⟩]
 have m21:Mem h2 h24 (⟨1,a10,v.j.n,c10010,rows0.map Rw.v⟩::base):=m20
 have hrl:rows0.length=v.j.n:=by rw [<- q6,<- hrl0];simp
 have RI:List Rw->List Itm:=fun rows=>rows.map fun s=>⟨1,s.a,s.n,s.c,ints s.l⟩
 refine ⟨_,_,_,(hb.ext m21.ext).fld 6 rfl,LoopT.to (n:=v.j.n) (by omega) (fun i h'=>∃ rows:List Rw,rows.length=i/\rows.map Rw.l=C.just.take i/\Mem h2 h' ((rows.map fun s=>⟨1,s.a,s.n,s.c,ints s.l⟩)++⟨1,a10,v.j.n,c10010,(rows++rows0.drop i).map Rw.v⟩::base)) ⟨[],rfl,rfl,m21⟩ ?_⟩
 rintro i h25 K hi ⟨rows,hrl2,hrs,m⟩ hK
 have hbx:Fr h2 1 h25 (some ⟨h2.size,0,none⟩) 11 11 v'.cs:=m.fr ⟨1,some ⟨h2.size,0,none⟩,11,11,v'.cs⟩ (by simp [base])
 refine ⟨fun hlt=>?_,fun hlt=>?_⟩
 ·have hi2:i<C.just.length:=by omega
  have hi0:i<rows0.length:=by omega
  refine ⟨by omega,hlt,(hr0.ext m.ext).getn (by omega) fun ad hl1 hc=>⟨_,_,_,hc,?_⟩⟩
  have hs:=hrs0 rows0[i] (List.getElem_mem hi0)
  have hsl:rows0[i].l=C.just[i]:=by
   have:(rows0.map Rw.l)[i]?=C.just[i]?:=by rw [hrl0]
   rw [List.getElem?_map,List.getElem?_eq_getElem hi0,List.getElem?_eq_getElem hi2] at this
   exact Option.some.inj this
  refine ⟨by rw [add_block];exact hbx.own.lt,_,_,_,hbx.rd.fld 6 rfl,(c85 (hs.1.ext m.ext) ?_).mono ?_⟩
  ·have h1:=hs.1.ilen
   have h2:=hnb.2.2.2.2.2.2.2.2.2.2 C.just[i] (List.getElem_mem hi2)
   rw [<- hsl] at h2
   show rows0[i].n≤_
   omega
  rintro _ h26 ⟨a',c',rfl,f26⟩
  have m26:=m.add (t:=⟨1,a',rows0[i].n,c',ints rows0[i].l⟩) f26
  refine ⟨_,_,_,rfl,ag (.refl _) f26.ext,by omega,hlt,?_⟩
  have fj:Fr h2 1 h26 a10 v.j.n c10010 ((rows++rows0.drop i).map Rw.v):=m26.fr ⟨1,a10,v.j.n,c10010,(rows++rows0.drop i).map Rw.v⟩ (by simp)
  refine fj.set1 (by omega) hlt rfl fun h27 u27 f27=>hK _ (by omega) ⟨rows++[⟨a',rows0[i].n,c',rows0[i].l⟩],by simp [hrl2],by rw [List.map_append,hrs,List.take_succ_eq_append_getElem hi2,<- hsl];rfl,?_⟩
  have m27:=Mem.put (A:=⟨1,a',rows0[i].n,c',ints rows0[i].l⟩::rows.map fun s=>⟨1,s.a,s.n,s.c,ints s.l⟩) (t:=⟨1,a10,v.j.n,c10010,(rows++rows0.drop i).map Rw.v⟩) (B:=base) (t':=⟨1,a10,v.j.n,c10010,((rows++rows0.drop i).map Rw.v).set (Int.toNat i) (Value.slice a' rows0[i].n c')⟩) m26 f27 u27 (.inl rfl)
  have e:((rows++rows0.drop i).map Rw.v).set (Int.toNat i) (Value.slice a' rows0[i].n c')=((rows++[(⟨a',rows0[i].n,c',rows0[i].l⟩:Rw)])++rows0.drop (i+1)).map Rw.v:=by
   show ((rows++rows0.drop i).map Rw.v).set i (Value.slice a' rows0[i].n c')=_
   rw [List.drop_eq_getElem_cons hi0,List.map_append,List.map_append,List.map_append,List.map_cons,List.set_append_right _ _ (by simp;omega)]
   simp [hrl2,Rw.v]
  rw [e] at m27
  refine m27.perm ?_
  have e3:(rows++[(⟨a',rows0[i].n,c',rows0[i].l⟩:Rw)]).map (fun s=>(⟨1,s.a,s.n,s.c,ints s.l⟩:Itm))=rows.map (fun s=>(⟨1,s.a,s.n,s.c,ints s.l⟩:Itm))++[⟨1,a',rows0[i].n,c',ints rows0[i].l⟩]:=by rw [List.map_append];rfl
  rw [e3]
  exact List.Perm.append_right _ (List.perm_append_comm (l₁:=[_]))
 ·have:i=v.j.n:=by omega
  subst this
  rw [List.drop_of_length_le (by omega),List.append_nil] at m
  refine ldC hbx.rd ?_
  refine (fb.upd m.ext).put (ws:=v'.cs) rfl (CV.one v') fun h28 f28 u28=>?_
  refine ldC f28.rd ⟨v',rfl,r.mx,rows,by rw [hrs,List.take_of_length_le (by omega)],?_⟩
  have mo:=m.over e2 u28 fun b ⟨ad,ha,e⟩=>by cases ha;simp only at e;omega
  have p2:((⟨1,a10,v.j.n,c10010,rows.map Rw.v⟩:Itm)::base).Perm ((itemsC v' C rows).take 10++[(⟨1,some ⟨h2.size,0,none⟩,11,11,v'.cs⟩:Itm)]):=perm_idx ((itemsC v' C rows).take 10++[(⟨1,some ⟨h2.size,0,none⟩,11,11,v'.cs⟩:Itm)]) [5,9,8,7,6,4,3,2,1,0,10] 11 rfl (by decide)
  have p3:=(List.Perm.append_left (rows.map fun s=>(⟨1,s.a,s.n,s.c,ints s.l⟩:Itm)) p2).trans List.perm_append_comm
  have m28:=mo.perm p3
  refine m28.sub ?_
  show List.Sublist ((itemsC v' C rows).take 10++rows.map fun s=>(⟨1,s.a,s.n,s.c,ints s.l⟩:Itm)) _
  exact List.Sublist.append_right (List.sublist_append_left _ _) _
end Go.Proofs.Ytdpbdjdgdmheiaa
namespace Go.Proofs.Ytdpbdjdgdmheiaa
open Go.Hx
def gate1 (C:Circ) (x y:Int):Circ:={ C with mx:=C.mx+1,ands:=C.ands++[⟨2*(C.mx+1),max x y,min x y⟩] }
structure Bx (h0 h:Heap) (k:Addr) (v:CV) (C:Circ) (rows:List Rw):Prop where
 mx:v.mx=C.mx
 just:rows.map Rw.l=C.just
 mem:Mem h0 h (⟨1,some k,11,11,v.cs⟩::itemsC v C rows)
theorem Bx.box {h0 h:Heap} {k:Addr} {v:CV} {C:Circ} {rows:List Rw} (b:Bx h0 h k v C rows):Fr h0 1 h (some k) 11 11 v.cs:=b.mem.get 0 rfl
theorem Bx.ext {h0 h h':Heap} {k:Addr} {v:CV} {C:Circ} {rows:List Rw} (b:Bx h0 h k v C rows) (u:Ext h h'):Bx h0 h' k v C rows:=⟨b.mx,b.just,b.mem.ext' u⟩
theorem Bx.fld {h0 h:Heap} {k:Addr} {v:CV} {C:Circ} {rows:List Rw} (b:Bx h0 h k v C rows) (i:Nat) {x:Value} (hx:v.cs[i]?=some x):cellH h ((k.add 0).add i)=some x:=by rw [add0_add];exact b.box.rd.fld i hx
theorem Bx.st {h0 h:Heap} {k:Addr} {v:CV} {C:Circ} {rows:List Rw} (b:Bx h0 h k v C rows) (i:Nat) (hi:i<11) {x:Value} (h1:x.oneCell'=true) {K:Heap->Prop} (hK:∀ h',Mem h0 h' (⟨1,some k,11,11,v.cs.set i x⟩::itemsC v C rows)->Upd (fun b=>b=k.block) h h'->K h') :
  StoreH h ((k.add 0).add i) [x] K:=by
 rw [add0_add]
 exact b.box.cellAt i hi h1 fun h' u f=>hK h' (b.mem.setAt 0 (t':=⟨1,some k,11,11,_⟩) rfl f u (.inl rfl)) (u.mono fun b _ ⟨ad,ha,e⟩=>by cases ha;exact e)
end Go.Proofs.Ytdpbdjdgdmheiaa
namespace Go.Proofs.Ytdpbdjdgdmheiaa
open Go.Hx
theorem Sy.one1 (s:Sy):∀ v∈s.cs,v.oneCell'=true:=by simp [Sy.cs,Value.oneCell']
end Go.Proofs.Ytdpbdjdgdmheiaa
