/- Words and facts that the claim's proof leans on. No condition. -/
import Derived.Test.YtdpbdjdgdmheiaaGreatSI
import Derived.Test.YtdpbdjdgdmheiaaGreatCAh
import Derived.Test.YtdpbdjdgdmheiaaGreatSM
import Derived.Test.YtdpbdjdgdmheiaaGreatDE
import Derived.Test.YtdpbdjdgdmheiaaGreatEA
set_option linter.unusedVariables false
set_option linter.unusedSimpArgs false
namespace Go.Proofs.YtdpbdjdgdmheiaaGreat
open Go.Hx Go.Deep
section
variable {h h0:Heap} {v:CV} {C:Circ} {V:List Bool} {a:Option Addr} {n c:Nat}
theorem c58 (r:Rd h a n (bools V)) {l:Int} (h0:0≤l) (h1:l≤1000000) (hl:(l / 2).toNat<n):CallsH Tryz.prog 58 #[.slice a n c,.int .i64 l] h (Ret (.bool (lit V l)) h):=by
 refine run58 a n c l _ h ?_
 unfold VC58
 have hd:Int.tdiv l 2=l / 2:=Int.tdiv_eq_ediv_of_nonneg h0
 have hm:Int.tmod l 2=l % 2:=Int.tmod_eq_emod_of_nonneg h0
 have wd:IntKind.wrap .i64 (Int.tdiv l 2)=l / 2:=by rw [hd];exact w64 (by omega) (by omega)
 rw [wd,hm]
 refine ⟨by omega,by omega,r.geti (j:=l / 2) (by omega) (by omega) fun ad hl2 hc=>⟨_,hc,?_⟩⟩
 have e:lit V l=(V[(l / 2).toNat] != decide (l % 2=1)):=by unfold lit;rw [List.getD_eq_getElem?_getD,List.getElem?_eq_getElem hl2];rfl
 rw [e]
 exact ⟨fun h1=>⟨fun h2=>⟨lt1 h1 h2,rfl⟩,fun h2=>⟨lt2 h1 h2,rfl⟩⟩,fun h1=>⟨fun h2=>⟨lt3 h1 h2,rfl⟩,fun h2=>⟨lt4 h1 h2,rfl⟩⟩⟩
theorem c95 (r:Rd h a n (bools V)) {la:Option Addr} {ln lc:Nat} {l:List Int} (rl:Rd h la ln (ints l)) (hln:ln<9223372036854775807) (hl:∀ x∈l,0≤x/\x≤1000000/\(x / 2).toNat<n):CallsH Tryz.prog 95 #[.slice a n c,.slice la ln lc] h (Ret (.bool (l.all (lit V))) h):=by
 have hll:=rl.ilen
 refine run95 a n c la ln lc _ h (LoopT.to (n:=ln) hln (fun i h'=>h'=h/\∀ x∈l.take i,lit V x=true) ⟨rfl,by simp⟩ ?_)
 rintro i _ K hi ⟨rfl,hI⟩ hK
 refine ⟨fun hlt=>⟨by omega,hlt,rl.getn (i:=i) (by omega) fun ad2 hl1 hc=>⟨_,hc,?_⟩⟩,fun hlt=>⟨?_,rfl⟩⟩
 ·obtain ⟨k1,k2,k3⟩:=hl _ (List.getElem_mem hl1)
  refine use (c58 r k1 k2 k3) ⟨_,rfl,?_⟩
  cases hx:lit V l[i] with
  | true=>exact BIf.f (hK _ (by omega) ⟨rfl,fun x hx'=>by
    rw [List.take_succ_eq_append_getElem hl1,List.mem_append,List.mem_singleton] at hx'
    rcases hx' with hx' | rfl
    ·exact hI x hx'
    ·exact hx⟩)
  | false=>
   refine BIf.t ⟨?_,rfl⟩
   have:l.all (lit V)=false:=by
    rw [List.all_eq_false]
    exact ⟨_,List.getElem_mem hl1,by rw [hx];simp⟩
   rw [this]
 ·rw [List.take_of_length_le (by omega)] at hI
  rw [List.all_eq_true.2 hI]
theorem c97 (r:CIs h v C) (hc:(chk C).2=0) (rv:Rd h a n (bools V)) (hn:n=(C.mx+1).toNat):CallsH Tryz.prog 97 #[v.v,.slice a n c] h fun w h'=>∃ a' c',w=.slice a' v.l.n c'/\Fr h 1 h' a' v.l.n c' (bools (nextL C V)):=by
 obtain ⟨⟨b0,b1⟩,b2,b3,b4,b5,b6,b7,b8,b9,b10,b11,b12⟩:=chk_bounds hc
 obtain ⟨l1,_⟩:=good_lits hc
 have q2:=r.len.l
 refine run97 v a n c _ h ?_
 unfold VC97
 intro h1
 have e1:Ext h h1:=Ext.box h _
 have hb:Rd h1 (some ⟨h.size,0,none⟩) 11 v.cs:=boxC v 29
 refine ⟨_,_,_,hb.fld 2 rfl,by omega,Int.le_refl _,by omega,?_⟩
 intro h2
 have fz:Fr h1 1 h2 (some ⟨h1.size,0,none⟩) v.l.n v.l.n (bools (List.replicate v.l.n false)):=by rw [<- boolsD];exact Fr.zeros _ _ _
 have bset:∀ (V:List Bool) (j:Nat) (b:Bool),(bools V).set j (.bool b)=bools (V.set j b):=fun V j b=>by rw [bools,bools,List.map_set]
 refine LoopT.to (n:=v.l.n) (by omega) (fun i h'=>∃ L:List Bool,L.length=v.l.n/\L.take i=(nextL C V).take i/\Fr h1 1 h' (some ⟨h1.size,0,none⟩) v.l.n v.l.n (bools L)) ⟨_,by simp,by simp,fz⟩ ?_
 rintro i h3 K hi ⟨L,hLl,hLt,f2⟩ hK
 have hb3:=hb.ext f2.ext
 have e3:=e1.trans f2.ext
 refine ⟨_,_,_,hb3.fld 2 rfl,fun hlt=>?_,fun hlt=>?_⟩
 ·refine ⟨_,_,_,hb3.fld 2 rfl,by omega,hlt,(r.l.ext e3).elem L3.csl (by omega) (i:=i) (by omega) fun ad hl1 re=>⟨_,re.fld 1 rfl,?_⟩⟩
  have hx:=l1 _ (List.getElem_mem hl1)
  refine use (c58 (rv.ext e3) hx.1 (by omega) (by omega)) ⟨_,rfl,by omega,by simp only [Int.toNat_natCast];omega,?_⟩
  refine f2.at1 (j:=(i:Int)) (by omega) (by omega) rfl fun h4 u4 f4=>hK _ (by omega) ⟨L.set i (lit V C.lats[i].b),by simpa using hLl,?_,by rw [bset] at f4;exact f4⟩
  have hnl:i<(nextL C V).length:=by simpa [nextL] using hl1
  rw [List.take_succ_eq_append_getElem (by simp;omega),List.take_succ_eq_append_getElem hnl,List.getElem_set_self,List.take_set_of_le (Nat.le_refl _),hLt]
  congr 1
  simp [nextL]
 ·have e:L=nextL C V:=by
   rw [List.take_of_length_le (by omega),List.take_of_length_le (by simp [nextL];omega)] at hLt
   exact hLt
  subst e
  exact ⟨_,_,rfl,f2.base e1⟩
set_option maxRecDepth 4000 in
theorem c83 {out:List Nat} {st row:List Bool} (r:CIs h v C) (g:GoodC C out) {oa sa ra:Option Addr} {oc sn sc rn rc:Nat} (ro:Rd h oa out.length (ints (nI out))) (rs:Rd h sa sn (bools st)) (rw':Rd h ra rn (bools row)) (hs:sn=C.lats.length) (hr:rn=C.ins.length) :
  CallsH Tryz.prog 83 #[v.v,.slice oa out.length oc,.slice sa sn sc,.slice ra rn rc] h fun w h'=>∃ a c,w=.slice a (C.mx+1).toNat c/\Fr h 1 h' a (C.mx+1).toNat c (bools (valsOf C st row)):=by
 obtain ⟨q1,q2,q3,q4,q5,q6,q7,q8,q9,q10⟩:=r.len
 have hmx:=r.mx
 obtain ⟨⟨b0,b1⟩,b2,b3,b4,b5,b6,b7,b8,b9,b10,b11,b12⟩:=chk_bounds g.chk
 have d:=dn g.chk
 have gk:=gok g.chk
 have hsl:st.length=sn:=rs.ilen
 have hrl:row.length=rn:=rw'.ilen
 refine run83 v oa out.length oc sa sn sc ra rn rc _ h ?_
 unfold VC83
 intro h1
 have e1:Ext h h1:=Ext.box h _
 have hb:Rd h1 (some ⟨h.size,0,none⟩) 11 v.cs:=boxC v 29
 refine ⟨_,hb.fld 0 rfl,?_⟩
 have w1:IntKind.wrap .i64 (v.mx+1)=C.mx+1:=by rw [hmx];exact w64 (by omega) (by omega)
 rw [w1]
 refine ⟨by omega,Int.le_refl _,by omega,?_⟩
 intro h2
 have fz:Fr h1 1 h2 (some ⟨h1.size,0,none⟩) (C.mx+1).toNat (C.mx+1).toNat (bools (List.replicate (C.mx+1).toNat false)):=by rw [<- boolsD];exact Fr.zeros _ _ _
 have bset:∀ (V:List Bool) (j:Nat) (b:Bool),(bools V).set j (.bool b)=bools (V.set j b):=fun V j b=>by rw [bools,bools,List.map_set]
 have wd:∀ l:Int,0≤l->l≤1000000->IntKind.wrap .i64 (Int.tdiv l 2)=l / 2:=fun l h0 h1=>by rw [Int.tdiv_eq_ediv_of_nonneg h0];exact w64 (by omega) (by omega)
 refine LoopT.to (n:=v.i.n) (by omega) (fun i h'=>∃ V,V1 C (defs C).2.2 st row V i/\Fr h1 1 h' (some ⟨h1.size,0,none⟩) (C.mx+1).toNat (C.mx+1).toNat (bools V)) ⟨_,V1.start d,fz⟩ ?_
 rintro i h4 K hi ⟨V,s1,f4⟩ hK
 have e4:=e1.trans f4.ext
 have hb4:=hb.ext f4.ext
 refine ⟨_,_,_,hb4.fld 1 rfl,fun hlt=>?_,fun hlt=>?_⟩
 ·refine ⟨_,_,_,hb4.fld 1 rfl,by omega,hlt,(r.i.ext e4).getn (i:=i) (by omega) fun ad hl1 hc=>⟨_,hc,by omega,by omega,(rw'.ext e4).getn (i:=i) (by omega) fun ad2 hl2 hc2=>⟨_,hc2,?_⟩⟩⟩
  obtain ⟨k1,k2,k3,k4⟩:=d.i i _ (List.getElem?_eq_getElem hl1)
  rw [wd _ (by omega) (by omega)]
  refine ⟨by omega,by omega,f4.at1 (j:=C.ins[i] / 2) (by omega) (by omega) rfl fun h5 u5 f5=>hK _ (by omega) ⟨_,s1.step d (List.getElem?_eq_getElem hl1) (List.getElem?_eq_getElem hl2),?_⟩⟩
  rw [bset] at f5;exact f5
 have hin:i=C.ins.length:=by omega
 subst hin
 refine LoopT.to (n:=v.l.n) (by omega) (fun i h'=>∃ V,V2 C (defs C).2.2 st row V i/\Fr h1 1 h' (some ⟨h1.size,0,none⟩) (C.mx+1).toNat (C.mx+1).toNat (bools V)) ⟨_,s1.done d,f4⟩ ?_
 clear s1 f4 hK K V hlt e4 hb4
 rintro i h4 K hi ⟨V,s1,f4⟩ hK
 have e4:=e1.trans f4.ext
 have hb4:=hb.ext f4.ext
 refine ⟨_,_,_,hb4.fld 2 rfl,fun hlt=>?_,fun hlt=>?_⟩
 ·refine ⟨_,_,_,hb4.fld 2 rfl,by omega,hlt,(r.l.ext e4).elem L3.csl (by omega) (i:=i) (by omega) fun ad hl1 re=>⟨_,re.fld 0 rfl,by omega,by omega,(rs.ext e4).getn (i:=i) (by omega) fun ad2 hl2 hc2=>⟨_,hc2,?_⟩⟩⟩
  obtain ⟨k1,k2,k3,k4⟩:=d.l i _ (List.getElem?_eq_getElem hl1)
  rw [wd _ (by omega) (by omega)]
  refine ⟨by omega,by omega,f4.at1 (j:=C.lats[i].a / 2) (by omega) (by omega) rfl fun h5 u5 f5=>hK _ (by omega) ⟨_,s1.step d (List.getElem?_eq_getElem hl1) (List.getElem?_eq_getElem hl2),?_⟩⟩
  rw [bset] at f5;exact f5
 have hin:i=C.lats.length:=by omega
 subst hin
 have hol:out.length≤C.ands.length:=nodup_len _ _ g.topo.nd g.topo.lt
 refine LoopT.to (n:=out.length) (by omega) (fun i h'=>∃ V,V3 C (defs C).2.2 st row V out i/\Fr h1 1 h' (some ⟨h1.size,0,none⟩) (C.mx+1).toNat (C.mx+1).toNat (bools V)) ⟨_,s1.done d out,f4⟩ ?_
 clear s1 f4 hK K V hlt e4 hb4
 rintro i h4 K hi ⟨V,s1,f4⟩ hK
 have e4:=e1.trans f4.ext
 have hb4:=hb.ext f4.ext
 refine ⟨fun hlt=>?_,fun hlt=>?_⟩
 ·have hio:i<out.length:=by omega
  have hog:out[i]<C.ands.length:=g.topo.lt _ (List.getElem_mem hio)
  have blt:∀ k,(Addr.add ⟨h.size,0,none⟩ k).block<h4.size:=fun k=>by rw [add_block];have:=f4.ext.1;have:=e1.1;simp only;have:h1.size=h.size+1:=(by simp [h1]);omega
  unfold J83_5
  rw [w1]
  refine ⟨blt 8,_,_,_,hb4.fld 8 rfl,by omega,hlt,(ro.ext e4).getn (i:=i) (by omega) fun ad hl1 hc=>⟨cellH_lt hc,_,hc,?_⟩⟩
  rw [nI_at hio]
  refine ⟨by omega,by omega,(r.g.ext e4).elem L3.csl (by omega) (i:=out[i]) (by omega) fun ad2 hl2 re=>⟨?_,_,_,_,re.cells,?_⟩⟩
  ·have:=cellH_lt (re.fld 0 rfl)
   rwa [add_block] at this
  have hux:=gk.lits _ (List.getElem_mem hl2)
  have hx:C.ands[out[i]]?=some C.ands[out[i]]:=List.getElem?_eq_getElem hl2
  obtain ⟨k1,k2,k3,k4⟩:=d.g _ _ hx
  generalize C.ands[out[i]]=x at *
  intro h12
  refine ⟨fun b hb=>(Ext.push h4 _).2 b hb fun x=>x,?_⟩
  refine boxN (zs:=[.int .i64 0,.int .i64 0,.int .i64 0]) (ws:=L3.cs x) rfl (by simp [Value.oneCell']) fun h5 e5 b5=>?_
  have f5:=f4.upd e5
  have z5:h4.size<h5.size:=cellH_lt (b5.fld 0 rfl) |> fun h=>by rw [add_block] at h;exact h
  have rV:Rd h5 (some ⟨h1.size,0,none⟩) (C.mx+1).toNat (bools V):=Rd.one f5.own.rd
  have fin:∀ b:Bool,b=(lit V x.b && lit V x.c)->0≤IntKind.wrap .i64 (Int.tdiv x.a 2)/\IntKind.wrap .i64 (Int.tdiv x.a 2)<((C.mx+1).toNat:Nat)/\StoreH h5 (Addr.add ⟨h1.size,0,none⟩ (Int.toNat (IntKind.wrap .i64 (Int.tdiv x.a 2))*1)) [.bool b] fun h17=>K (IntKind.wrap .i64 (i+1)) h17:=fun b hb=>by
   rw [wd _ (by omega) (by omega)]
   refine ⟨by omega,by omega,f5.at1 (j:=x.a / 2) (by omega) (by omega) rfl fun h6 u6 f6=>hK _ (by omega) ⟨_,s1.step d g.topo hio hx,?_⟩⟩
   rw [bset,hb] at f6;exact f6
  refine ⟨by rw [add_block];exact z5,_,b5.fld 0 rfl,by rw [add_block];exact z5,_,b5.fld 1 rfl,use (c58 rV hux.1.1 (by omega) (by omega)) ⟨_,rfl,fun b hb=>rfl,?_⟩⟩
  cases hb1:lit V x.b with
  | true=>exact ⟨by rw [add_block];exact z5,_,b5.fld 2 rfl,use (c58 rV hux.2.1 (by omega) (by omega)) ⟨_,rfl,fun b hb=>rfl,fin _ (by rw [hb1] <;> rfl)⟩⟩
  | false=>exact fin _ (by rw [hb1] <;> rfl)
 ·have hin:i=out.length:=by omega
  subst hin
  have hV:=s1.done d (g.all gk)
  rw [valsOf_eq g (by omega) (by omega) hV]
  unfold J83_4
  rw [w1]
  exact ⟨_,_,rfl,f4.base e1⟩
end
end Go.Proofs.YtdpbdjdgdmheiaaGreat
namespace Go.Proofs.YtdpbdjdgdmheiaaGreat
open Go.Hx Go.Deep
theorem MB.spot {h0 h:Heap} {b:Addr} {m:MV} {M:Mo} (mb:MB h0 h b m M) (hl:M.fair.length≤1000000) (p q:Int) {K:Heap->Prop} (hK:∀ h' m',MB h0 h' b m' { M with fair:=M.fair++[(p,q)] }->K h') :
  ∃ (A:Option Addr),∃ (N:Nat),∃ (C:Nat),cellH h (b.add 3)=some (.slice A N C)/\let h3:Heap:=h.push (.cells #[.int .i64 p,.int .i64 q] 201);∃ ys:List Value,ReadL h3 (some (Addr.mk h.size 0 none)) ys/\ys.length=1*2 /\
   AppS h3 A N C 201 16 2 #[.int .i64 0,.int .i64 0] ys 1 fun apA apN apC h4=>StoreH h4 (b.add 3) [.slice apA apN apC] K:=by
 refine ⟨_,_,_,mb.fld 3 rfl,?_⟩
 intro h3
 have e3:Ext h h3:=Ext.push h _
 have r3:=(Fr.lit (.refl h) (cs2 (p,q)) 201 2 rfl).rd
 have m3:=mb.mem.ext' e3
 have fn:=(m3.get 3 rfl).own.rd.elen cs2l (by omega)
 refine ⟨cs2 (p,q),r3.read,rfl,(m3.get 3 rfl).app rfl (by simp [Value.oneCell']) (by omega) fun a' c' h4 f4 u4 hor=>?_⟩
 have m4:=m3.setAt 3 (t':=⟨2,a',m.f.n+1,c',_⟩) rfl f4 u4 hor
 refine (m4.get 0 rfl).cellAt 3 (by omega) rfl fun h5 u5 f5=>hK _ { m with f:=⟨a',m.f.n+1,c'⟩ } ⟨mb.ok,?_⟩
 have m5:=m4.setAt 0 (t':=⟨1,some b,4,4,_⟩) rfl f5 u5 (.inl rfl)
 simp only [List.set_cons_succ,List.set_cons_zero] at m5
 have e:M.fair.flatMap cs2++cs2 (p,q)=(M.fair++[(p,q)]).flatMap cs2:=by simp [List.flatMap_append]
 rw [e] at m5
 exact m5
theorem MB.bad {h0 h:Heap} {b:Addr} {m:MV} {M:Mo} (mb:MB h0 h b m M) (hl:M.bads.length≤1000000) (p:Int) {K:Heap->Prop} (hK:∀ h' m',MB h0 h' b m' { M with bads:=M.bads++[p] }->K h') :
  ∃ (A:Option Addr),∃ (N:Nat),∃ (C:Nat),cellH h (b.add 2)=some (.slice A N C)/\let h3:Heap:=h.push (.cells #[.int .i64 p] 3);∃ ys:List Value,ReadL h3 (some (Addr.mk h.size 0 none)) ys/\ys.length=1*1 /\
   AppS h3 A N C 3 8 1 #[.int .i64 0] ys 1 fun apA apN apC h4=>StoreH h4 (b.add 2) [.slice apA apN apC] K:=by
 refine ⟨_,_,_,mb.fld 2 rfl,?_⟩
 intro h3
 have e3:Ext h h3:=Ext.push h _
 have r3:=(Fr.lit (.refl h) [Value.int .i64 p] 3 1 rfl).rd
 have m3:=mb.mem.ext' e3
 have fn:=(m3.get 2 rfl).rd.ilen (f:=Value.int .i64)
 refine ⟨[Value.int .i64 p],r3.read,rfl,(m3.get 2 rfl).app rfl (by simp [Value.oneCell']) (by omega) fun a' c' h4 f4 u4 hor=>?_⟩
 have m4:=m3.setAt 2 (t':=⟨1,a',m.b.n+1,c',_⟩) rfl f4 u4 hor
 refine (m4.get 0 rfl).cellAt 2 (by omega) rfl fun h5 u5 f5=>hK _ { m with b:=⟨a',m.b.n+1,c'⟩ } ⟨mb.ok,?_⟩
 have m5:=m4.setAt 0 (t':=⟨1,some b,4,4,_⟩) rfl f5 u5 (.inl rfl)
 simp only [List.set_cons_succ,List.set_cons_zero] at m5
 have e:ints M.bads++[Value.int .i64 p]=ints (M.bads++[p]):=by rw [ints,ints,List.map_append];rfl
 rw [e] at m5
 exact m5
section
variable {h h0:Heap} {v:CV} {C:Circ} {V:List Bool} {a:Option Addr} {n c:Nat}
end
end Go.Proofs.YtdpbdjdgdmheiaaGreat
namespace Go.Proofs.YtdpbdjdgdmheiaaGreat
open Go.Hx Go.Deep
section
variable {h:Heap} {v:CV} {C:Circ} {w:TV} {T:Tr}
def hasP (C:Circ) (kd i:Int):Prop:=(kd=98/\0≤i/\i<C.bads.length)∨(kd=106/\0≤i/\i<C.just.length)
instance (C:Circ) (kd i:Int):Decidable (hasP C kd i):=by unfold hasP;infer_instance
end
end Go.Proofs.YtdpbdjdgdmheiaaGreat
namespace Go.Hx
structure PV where
 k:Int
 i:Int
def PV.cs (p:PV):List Value:=[.int .u8 p.k,.int .i64 p.i]
end Go.Hx
namespace Go.Proofs.YtdpbdjdgdmheiaaGreat
open Go.Hx Go.Deep
section
variable {H:Type} {enc:TypeId×Value->H} {W:World} {base:Nat} {held:Bool}
end
section
variable {h:Heap} {v:CV} {C:Circ} {w:TV} {T:Tr}
end
end Go.Proofs.YtdpbdjdgdmheiaaGreat
