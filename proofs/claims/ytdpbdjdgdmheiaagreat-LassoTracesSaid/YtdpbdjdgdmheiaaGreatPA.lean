/- Words and facts that the claim's proof leans on. No condition. -/
import Derived.Test.YtdpbdjdgdmheiaaGreatSI
import Derived.Test.YtdpbdjdgdmheiaaGreatCAh
import Derived.Test.YtdpbdjdgdmheiaaGreatSM
import Derived.Test.YtdpbdjdgdmheiaaGreatDE
import Derived.Test.YtdpbdjdgdmheiaaGreatEA
set_option linter.unusedVariables false
set_option linter.unusedSimpArgs false
namespace Go.Proofs.YtdpbdjdgdmheiaaGreat
open Go.Hx Go.Deep
section
variable {h h0:Heap} {v:CV} {C:Circ} {V:List Bool} {a:Option Addr} {n c:Nat}
theorem c58 (r:Rd h a n (bools V)) {l:Int} (h0:0≤l) (h1:l≤1000000) (hl:(l / 2).toNat<n):CallsH Tryz.prog 58 #[.slice a n c,.int .i64 l] h (Ret (.bool (lit V l)) h):=by
 refine run58 a n c l _ h ?_
 unfold VC58
 have hd:Int.tdiv l 2=l / 2:=Int.tdiv_eq_ediv_of_nonneg h0
 have hm:Int.tmod l 2=l % 2:=Int.tmod_eq_emod_of_nonneg h0
 have wd:IntKind.wrap .i64 (Int.tdiv l 2)=l / 2:=by rw [hd];exact w64 (by omega) (by omega)
 rw [wd,hm]
 refine ⟨by omega,by omega,r.geti (j:=l / 2) (by omega) (by omega) fun ad hl2 hc=>⟨_,hc,?_⟩⟩
 have e:lit V l=(V[(l / 2).toNat] != decide (l % 2=1)):=by unfold lit;rw [List.getD_eq_getElem?_getD,List.getElem?_eq_getElem hl2];rfl
 rw [e]
 exact ⟨fun h1=>⟨fun h2=>⟨lt1 h1 h2,rfl⟩,fun h2=>⟨lt2 h1 h2,rfl⟩⟩,fun h1=>⟨fun h2=>⟨lt3 h1 h2,rfl⟩,fun h2=>⟨lt4 h1 h2,rfl⟩⟩⟩
theorem c95 (r:Rd h a n (bools V)) {la:Option Addr} {ln lc:Nat} {l:List Int} (rl:Rd h la ln (ints l)) (hln:ln<9223372036854775807) (hl:∀ x∈l,0≤x/\x≤1000000/\(x / 2).toNat<n):CallsH Tryz.prog 95 #[.slice a n c,.slice la ln lc] h (Ret (.bool (l.all (lit V))) h):=by
 have hll:=rl.ilen
 refine run95 a n c la ln lc _ h (LoopT.to (n:=ln) hln (fun i h'=>h'=h/\∀ x∈l.take i,lit V x=true) ⟨rfl,by simp⟩ ?_)
 rintro i _ K hi ⟨rfl,hI⟩ hK
 refine ⟨fun hlt=>⟨by omega,hlt,rl.getn (i:=i) (by omega) fun ad2 hl1 hc=>⟨_,hc,?_⟩⟩,fun hlt=>⟨?_,rfl⟩⟩
 ·obtain ⟨k1,k2,k3⟩:=hl _ (List.getElem_mem hl1)
  refine use (c58 r k1 k2 k3) ⟨_,rfl,?_⟩
  cases hx:lit V l[i] with
  | true=>exact BIf.f (hK _ (by omega) ⟨rfl,fun x hx'=>by
    rw [List.take_succ_eq_append_getElem hl1,List.mem_append,List.mem_singleton] at hx'
    rcases hx' with hx' | rfl
    ·exact hI x hx'
    ·exact hx⟩)
  | false=>
   refine BIf.t ⟨?_,rfl⟩
   have:l.all (lit V)=false:=by
    rw [List.all_eq_false]
    exact ⟨_,List.getElem_mem hl1,by rw [hx];simp⟩
   rw [this]
 ·rw [List.take_of_length_le (by omega)] at hI
  rw [List.all_eq_true.2 hI]
theorem c97 (r:CIs h v C) (hc:(chk C).2=0) (rv:Rd h a n (bools V)) (hn:n=(C.mx+1).toNat):CallsH Tryz.prog 97 #[v.v,.slice a n c] h fun w h'=>∃ a' c',w=.slice a' v.l.n c'/\Fr h 1 h' a' v.l.n c' (bools (nextL C V)):=by
 obtain ⟨⟨b0,b1⟩,b2,b3,b4,b5,b6,b7,b8,b9,b10,b11,b12⟩:=chk_bounds hc
 obtain ⟨l1,_⟩:=good_lits hc
 have q2:=r.len.l
 refine run97 v a n c _ h ?_
 unfold VC97
 intro h1
 have e1:Ext h h1:=Ext.box h _
 have hb:Rd h1 (some ⟨h.size,0,none⟩) 11 v.cs:=boxC v 29
 refine ⟨_,_,_,hb.fld 2 rfl,by omega,Int.le_refl _,by omega,?_⟩
 intro h2
 have fz:Fr h1 1 h2 (some ⟨h1.size,0,none⟩) v.l.n v.l.n (bools (List.replicate v.l.n false)):=by rw [<- boolsD];exact Fr.zeros _ _ _
 have bset:∀ (V:List Bool) (j:Nat) (b:Bool),(bools V).set j (.bool b)=bools (V.set j b):=fun V j b=>by rw [bools,bools,List.map_set]
 refine LoopT.to (n:=v.l.n) (by omega) (fun i h'=>∃ L:List Bool,L.length=v.l.n/\L.take i=(nextL C V).take i/\Fr h1 1 h' (some ⟨h1.size,0,none⟩) v.l.n v.l.n (bools L)) ⟨_,by simp,by simp,fz⟩ ?_
 rintro i h3 K hi ⟨L,hLl,hLt,f2⟩ hK
 have hb3:=hb.ext f2.ext
 have e3:=e1.trans f2.ext
 refine ⟨_,_,_,hb3.fld 2 rfl,fun hlt=>?_,fun hlt=>?_⟩
 ·refine ⟨_,_,_,hb3.fld 2 rfl,by omega,hlt,(r.l.ext e3).elem L3.csl (by omega) (i:=i) (by omega) fun ad hl1 re=>⟨_,re.fld 1 rfl,?_⟩⟩
  have hx:=l1 _ (List.getElem_mem hl1)
  refine use (c58 (rv.ext e3) hx.1 (by omega) (by omega)) ⟨_,rfl,by omega,by simp only [Int.toNat_natCast];omega,?_⟩
  refine f2.at1 (j:=(i:Int)) (by omega) (by omega) rfl fun h4 u4 f4=>hK _ (by omega) ⟨L.set i (lit V C.lats[i].b),by simpa using hLl,?_,by rw [bset] at f4;exact f4⟩
  have hnl:i<(nextL C V).length:=by simpa [nextL] using hl1
  rw [List.take_succ_eq_append_getElem (by simp;omega),List.take_succ_eq_append_getElem hnl,List.getElem_set_self,List.take_set_of_le (Nat.le_refl _),hLt]
  congr 1
  simp [nextL]
 ·have e:L=nextL C V:=by
   rw [List.take_of_length_le (by omega),List.take_of_length_le (by simp [nextL];omega)] at hLt
   exact hLt
  subst e
  exact ⟨_,_,rfl,f2.base e1⟩
set_option maxRecDepth 4000 in
theorem c83 {out:List Nat} {st row:List Bool} (r:CIs h v C) (g:GoodC C out) {oa sa ra:Option Addr} {oc sn sc rn rc:Nat} (ro:Rd h oa out.length (ints (nI out))) (rs:Rd h sa sn (bools st)) (rw':Rd h ra rn (bools row)) (hs:sn=C.lats.length) (hr:rn=C.ins.length) :
  CallsH Tryz.prog 83 #[v.v,.slice oa out.length oc,.slice sa sn sc,.slice ra rn rc] h fun w h'=>∃ a c,w=.slice a (C.mx+1).toNat c/\Fr h 1 h' a (C.mx+1).toNat c (bools (valsOf C st row)):=by
 obtain ⟨q1,q2,q3,q4,q5,q6,q7,q8,q9,q10⟩:=r.len
 have hmx:=r.mx
 obtain ⟨⟨b0,b1⟩,b2,b3,b4,b5,b6,b7,b8,b9,b10,b11,b12⟩:=chk_bounds g.chk
 have d:=dn g.chk
 have gk:=gok g.chk
 have hsl:st.length=sn:=rs.ilen
 have hrl:row.length=rn:=rw'.ilen
 refine run83 v oa out.length oc sa sn sc ra rn rc _ h ?_
 unfold VC83
 intro h1
 have e1:Ext h h1:=Ext.box h _
 have hb:Rd h1 (some ⟨h.size,0,none⟩) 11 v.cs:=boxC v 29
 refine ⟨_,hb.fld 0 rfl,?_⟩
 have w1:IntKind.wrap .i64 (v.mx+1)=C.mx+1:=by rw [hmx];exact w64 (by omega) (by omega)
 rw [w1]
 refine ⟨by omega,Int.le_refl _,by omega,?_⟩
 intro h2
 have fz:Fr h1 1 h2 (some ⟨h1.size,0,none⟩) (C.mx+1).toNat (C.mx+1).toNat (bools (List.replicate (C.mx+1).toNat false)):=by rw [<- boolsD];exact Fr.zeros _ _ _
 have bset:∀ (V:List Bool) (j:Nat) (b:Bool),(bools V).set j (.bool b)=bools (V.set j b):=fun V j b=>by rw [bools,bools,List.map_set]
 have wd:∀ l:Int,0≤l->l≤1000000->IntKind.wrap .i64 (Int.tdiv l 2)=l / 2:=fun l h0 h1=>by rw [Int.tdiv_eq_ediv_of_nonneg h0];exact w64 (by omega) (by omega)
 refine LoopT.to (n:=v.i.n) (by omega) (fun i h'=>∃ V,V1 C (defs C).2.2 st row V i/\Fr h1 1 h' (some ⟨h1.size,0,none⟩) (C.mx+1).toNat (C.mx+1).toNat (bools V)) ⟨_,V1.start d,fz⟩ ?_
 rintro i h4 K hi ⟨V,s1,f4⟩ hK
 have e4:=e1.trans f4.ext
 have hb4:=hb.ext f4.ext
 refine ⟨_,_,_,hb4.fld 1 rfl,fun hlt=>?_,fun hlt=>?_⟩
 ·refine ⟨_,_,_,hb4.fld 1 rfl,by omega,hlt,(r.i.ext e4).getn (i:=i) (by omega) fun ad hl1 hc=>⟨_,hc,by omega,by omega,(rw'.ext e4).getn (i:=i) (by omega) fun ad2 hl2 hc2=>⟨_,hc2,?_⟩⟩⟩
  obtain ⟨k1,k2,k3,k4⟩:=d.i i _ (List.getElem?_eq_getElem hl1)
  rw [wd _ (by omega) (by omega)]
  refine ⟨by omega,by omega,f4.at1 (j:=C.ins[i] / 2) (by omega) (by omega) rfl fun h5 u5 f5=>hK _ (by omega) ⟨_,s1.step d (List.getElem?_eq_getElem hl1) (List.getElem?_eq_getElem hl2),?_⟩⟩
  rw [bset] at f5;exact f5
 have hin:i=C.ins.length:=by omega
 subst hin
 refine LoopT.to (n:=v.l.n) (by omega) (fun i h'=>∃ V,V2 C (defs C).2.2 st row V i/\Fr h1 1 h' (some ⟨h1.size,0,none⟩) (C.mx+1).toNat (C.mx+1).toNat (bools V)) ⟨_,s1.done d,f4⟩ ?_
 clear s1 f4 hK K V hlt e4 hb4
 rintro i h4 K hi ⟨V,s1,f4⟩ hK
 have e4:=e1.trans f4.ext
 have hb4:=hb.ext f4.ext
 refine ⟨_,_,_,hb4.fld 2 rfl,fun hlt=>?_,fun hlt=>?_⟩
 ·refine ⟨_,_,_,hb4.fld 2 rfl,by omega,hlt,(r.l.ext e4).elem L3.csl (by omega) (i:=i) (by omega) fun ad hl1 re=>⟨_,re.fld 0 rfl,by omega,by omega,(rs.ext e4).getn (i:=i) (by omega) fun ad2 hl2 hc2=>⟨_,hc2,?_⟩⟩⟩
  obtain ⟨k1,k2,k3,k4⟩:=d.l i _ (List.getElem?_eq_getElem hl1)
  rw [wd _ (by omega) (by omega)]
  refine ⟨by omega,by omega,f4.at1 (j:=C.lats[i].a / 2) (by omega) (by omega) rfl fun h5 u5 f5=>hK _ (by omega) ⟨_,s1.step d (List.getElem?_eq_getElem hl1) (List.getElem?_eq_getElem hl2),?_⟩⟩
  rw [bset] at f5;exact f5
 have hin:i=C.lats.length:=by omega
 subst hin
 have hol:out.length≤C.ands.length:=nodup_len _ _ g.topo.nd g.topo.lt
 refine LoopT.to (n:=out.length) (by omega) (fun i h'=>∃ V,V3 C (defs C).2.2 st row V out i/\Fr h1 1 h' (some ⟨h1.size,0,none⟩) (C.mx+1).toNat (C.mx+1).toNat (bools V)) ⟨_,s1.done d out,f4⟩ ?_
 clear s1 f4 hK K V hlt e4 hb4
 rintro i h4 K hi ⟨V,s1,f4⟩ hK
 have e4:=e1.trans f4.ext
 have hb4:=hb.ext f4.ext
 refine ⟨fun hlt=>?_,fun hlt=>?_⟩
 ·have hio:i<out.length:=by omega
  have hog:out[i]<C.ands.length:=g.topo.lt _ (List.getElem_mem hio)
  have blt:∀ k,(Addr.add ⟨h.size,0,none⟩ k).block<h4.size:=fun k=>by rw [add_block];have:=f4.ext.1;have:=e1.1;simp only;have:h1.size=h.size+1:=(by simp [h1]);omega
  unfold J83_5
  rw [w1]
  refine ⟨blt 8,_,_,_,hb4.fld 8 rfl,by omega,hlt,(ro.ext e4).getn (i:=i) (by omega) fun ad hl1 hc=>⟨cellH_lt hc,_,hc,?_⟩⟩
  rw [nI_at hio]
  refine ⟨by omega,by omega,(r.g.ext e4).elem L3.csl (by omega) (i:=out[i]) (by omega) fun ad2 hl2 re=>⟨?_,_,_,_,re.cells,?_⟩⟩
  ·have:=cellH_lt (re.fld 0 rfl)
   rwa [add_block] at this
  have hux:=gk.lits _ (List.getElem_mem hl2)
  have hx:C.ands[out[i]]?=some C.ands[out[i]]:=List.getElem?_eq_getElem hl2
  obtain ⟨k1,k2,k3,k4⟩:=d.g _ _ hx
  generalize C.ands[out[i]]=x at *
  intro h12
  refine ⟨fun b hb=>(Ext.push h4 _).2 b hb fun x=>x,?_⟩
  refine boxN (zs:=[.int .i64 0,.int .i64 0,.int .i64 0]) (ws:=L3.cs x) rfl (by simp [Value.oneCell']) fun h5 e5 b5=>?_
  have f5:=f4.upd e5
  have z5:h4.size<h5.size:=cellH_lt (b5.fld 0 rfl) |> fun h=>by rw [add_block] at h;exact h
  have rV:Rd h5 (some ⟨h1.size,0,none⟩) (C.mx+1).toNat (bools V):=Rd.one f5.own.rd
  have fin:∀ b:Bool,b=(lit V x.b && lit V x.c)->0≤IntKind.wrap .i64 (Int.tdiv x.a 2)/\IntKind.wrap .i64 (Int.tdiv x.a 2)<((C.mx+1).toNat:Nat)/\StoreH h5 (Addr.add ⟨h1.size,0,none⟩ (Int.toNat (IntKind.wrap .i64 (Int.tdiv x.a 2))*1)) [.bool b] fun h17=>K (IntKind.wrap .i64 (i+1)) h17:=fun b hb=>by
   rw [wd _ (by omega) (by omega)]
   refine ⟨by omega,by omega,f5.at1 (j:=x.a / 2) (by omega) (by omega) rfl fun h6 u6 f6=>hK _ (by omega) ⟨_,s1.step d g.topo hio hx,?_⟩⟩
   rw [bset,hb] at f6;exact f6
  refine ⟨by rw [add_block];exact z5,_,b5.fld 0 rfl,by rw [add_block];exact z5,_,b5.fld 1 rfl,use (c58 rV hux.1.1 (by omega) (by omega)) ⟨_,rfl,fun b hb=>rfl,?_⟩⟩
  cases hb1:lit V x.b with
  | true=>exact ⟨by rw [add_block];exact z5,_,b5.fld 2 rfl,use (c58 rV hux.2.1 (by omega) (by omega)) ⟨_,rfl,fun b hb=>rfl,fin _ (by rw [hb1] <;> rfl)⟩⟩
  | false=>exact fin _ (by rw [hb1] <;> rfl)
 ·have hin:i=out.length:=by omega
  subst hin
  have hV:=s1.done d (g.all gk)
  rw [valsOf_eq g (by omega) (by omega) hV]
  unfold J83_4
  rw [w1]
  exact ⟨_,_,rfl,f4.base e1⟩
end
end Go.Proofs.YtdpbdjdgdmheiaaGreat
namespace Go.Proofs.YtdpbdjdgdmheiaaGreat
open Go.Hx Go.Deep
theorem MB.spot {h0 h:Heap} {b:Addr} {m:MV} {M:Mo} (mb:MB h0 h b m M) (hl:M.fair.length≤1000000) (p q:Int) {K:Heap->Prop} (hK:∀ h' m',MB h0 h' b m' { M with fair:=M.fair++[(p,q)] }->K h') :
  ∃ (A:Option Addr),∃ (N:Nat),∃ (C:Nat),cellH h (b.add 3)=some (.slice A N C)/\let h3:Heap:=h.push (.cells #[.int .i64 p,.int .i64 q] 201);∃ ys:List Value,ReadL h3 (some (Addr.mk h.size 0 none)) ys/\ys.length=1*2 /\
   AppS h3 A N C 201 16 2 #[.int .i64 0,.int .i64 0] ys 1 fun apA apN apC h4=>StoreH h4 (b.add 3) [.slice apA apN apC] K:=by
 refine ⟨_,_,_,mb.fld 3 rfl,?_⟩
 intro h3
 have e3:Ext h h3:=Ext.push h _
 have r3:=(Fr.lit (.refl h) (cs2 (p,q)) 201 2 rfl).rd
 have m3:=mb.mem.ext' e3
 have fn:=(m3.get 3 rfl).own.rd.elen cs2l (by omega)
 refine ⟨cs2 (p,q),r3.read,rfl,(m3.get 3 rfl).app rfl (by simp [Value.oneCell']) (by omega) fun a' c' h4 f4 u4 hor=>?_⟩
 have m4:=m3.setAt 3 (t':=⟨2,a',m.f.n+1,c',_⟩) rfl f4 u4 hor
 refine (m4.get 0 rfl).cellAt 3 (by omega) rfl fun h5 u5 f5=>hK _ { m with f:=⟨a',m.f.n+1,c'⟩ } ⟨mb.ok,?_⟩
 have m5:=m4.setAt 0 (t':=⟨1,some b,4,4,_⟩) rfl f5 u5 (.inl rfl)
 simp only [List.set_cons_succ,List.set_cons_zero] at m5
 have e:M.fair.flatMap cs2++cs2 (p,q)=(M.fair++[(p,q)]).flatMap cs2:=by simp [List.flatMap_append]
 rw [e] at m5
 exact m5
theorem MB.bad {h0 h:Heap} {b:Addr} {m:MV} {M:Mo} (mb:MB h0 h b m M) (hl:M.bads.length≤1000000) (p:Int) {K:Heap->Prop} (hK:∀ h' m',MB h0 h' b m' { M with bads:=M.bads++[p] }->K h') :
  ∃ (A:Option Addr),∃ (N:Nat),∃ (C:Nat),cellH h (b.add 2)=some (.slice A N C)/\let h3:Heap:=h.push (.cells #[.int .i64 p] 3);∃ ys:List Value,ReadL h3 (some (Addr.mk h.size 0 none)) ys/\ys.length=1*1 /\
   AppS h3 A N C 3 8 1 #[.int .i64 0] ys 1 fun apA apN apC h4=>StoreH h4 (b.add 2) [.slice apA apN apC] K:=by
 refine ⟨_,_,_,mb.fld 2 rfl,?_⟩
 intro h3
 have e3:Ext h h3:=Ext.push h _
 have r3:=(Fr.lit (.refl h) [Value.int .i64 p] 3 1 rfl).rd
 have m3:=mb.mem.ext' e3
 have fn:=(m3.get 2 rfl).rd.ilen (f:=Value.int .i64)
 refine ⟨[Value.int .i64 p],r3.read,rfl,(m3.get 2 rfl).app rfl (by simp [Value.oneCell']) (by omega) fun a' c' h4 f4 u4 hor=>?_⟩
 have m4:=m3.setAt 2 (t':=⟨1,a',m.b.n+1,c',_⟩) rfl f4 u4 hor
 refine (m4.get 0 rfl).cellAt 2 (by omega) rfl fun h5 u5 f5=>hK _ { m with b:=⟨a',m.b.n+1,c'⟩ } ⟨mb.ok,?_⟩
 have m5:=m4.setAt 0 (t':=⟨1,some b,4,4,_⟩) rfl f5 u5 (.inl rfl)
 simp only [List.set_cons_succ,List.set_cons_zero] at m5
 have e:ints M.bads++[Value.int .i64 p]=ints (M.bads++[p]):=by rw [ints,ints,List.map_append];rfl
 rw [e] at m5
 exact m5
section
variable {h h0:Heap} {v:CV} {C:Circ} {V:List Bool} {a:Option Addr} {n c:Nat}
set_option maxRecDepth 4000 in
theorem c166 (r:CIs h v C) (hc:(chk C).2=0) {sa:Option Addr} {sn sc:Nat} {st:List Bool} (rs:Rd h sa sn (bools st)) (hsn:sn≤16384) (rv:Rd h a n (bools V)) (hn:n=(C.mx+1).toNat) :
  CallsH Tryz.prog 166 #[v.v,.slice sa sn sc,.slice a n c] h fun w h'=>∃ m,w=MV.v m/\Ext h h'/\MoN h h' m (moOf C st V):=by
 obtain ⟨⟨b0,b1⟩,b2,b3,b4,b5,b6,b7,b8,b9,b10,b11,b12⟩:=chk_bounds hc
 obtain ⟨_,_,l3,l4,l5,l6⟩:=good_lits hc
 obtain ⟨q1,q2,q3,q4,q5,q6,q7,q8,q9,q10⟩:=r.len
 refine run166 v sa sn sc a n c _ h ?_
 unfold VC166
 intro h1 h2
 have e1:Ext h h1:=Ext.box h _
 have e2:Ext h h2:=e1.trans (Ext.push h1 _)
 have hs1:h1.size=h.size+1:=by simp [h1]
 have hs2:h2.size=h.size+2:=by simp [h2,hs1]
 have hb:Rd h2 (some ⟨h.size,0,none⟩) 11 v.cs:=(boxC v 29).ext (Ext.push h1 _)
 have fb:Fr h 1 h2 (some ⟨h1.size,0,none⟩) 4 4 (MV.cs ⟨⟨none,0,0⟩,false,⟨none,0,0⟩,⟨none,0,0⟩⟩):=Fr.lit e1 (MV.cs ⟨⟨none,0,0⟩,false,⟨none,0,0⟩,⟨none,0,0⟩⟩) 131 4 rfl
 have rs2:=rs.ext e2
 have r2:=r.ext e2
 have rv2:=rv.ext e2
 have m:=MemU.start (Mem.nil (.refl h2))
 intro U h3 b g hU ho U1 h4 g1
 have m2:=(flt0 (m.grow g) rfl hU ho 1).grow g1
 refine ⟨bools st,(rs2.ext m2.mem.ext).read,by rw [rs2.len];omega,app0 (m2.mem.at' 0 rfl) (by rw [rs2.len];show sn=sn*1;omega) bools_one (by omega) fun a1 c1 h5 f u hor=>?_⟩
 obtain ⟨kk,m3⟩:=m2.setAt 0 (t':=⟨1,a1,sn,c1,bools st⟩) rfl f u hor
 refine ⟨kk,by rw [add_block];simp only;omega,_,_,_,(hb.ext m3.mem.ext).fld 5 rfl,fun U2 h6 g2=>?_⟩
 have m4:=m3.grow g2
 refine use (c95 (rv2.ext m4.mem.ext) (r2.c.ext m4.mem.ext) (by omega) fun x hx=>by have:=l4 x hx;omega) ?_
 refine ⟨_,rfl,(m4.ext (.refl h6)).1,fun U3 h7 bx g7 hU3 ho3 U4 h8 g8=>?_⟩
 have m5:=m4.grow g7
 have hb5:=m5.lt bx hU3
 have m6:=(m5.take hU3 hb5.1 (t:=⟨1,some ⟨bx,0,none⟩,4,4,MV.cs ⟨⟨none,0,0⟩,false,⟨none,0,0⟩,⟨none,0,0⟩⟩⟩) ⟨Own.row ho3 rfl,(fun ad ha=>by cases ha;exact hb5.1),m5.mem.ext⟩ fun ad ha=>by cases ha;rfl).grow g8
 let mv0:MV:=⟨⟨a1,sn,c1⟩,C.cons.all (lit V),⟨none,0,0⟩,⟨none,0,0⟩⟩
 let M0:Mo:=⟨st,C.cons.all (lit V),[],[]⟩
 refine (m6.mem.get 0 rfl).put (ws:=mv0.cs) rfl (MV.one _) fun h9 f9 u9=>⟨u9.1,?_⟩
 have m7:=m6.mem.setAt 0 (t':=⟨1,some ⟨bx,0,none⟩,4,4,mv0.cs⟩) rfl f9 u9 (.inl rfl)
 have mb0:MB h2 h9 ⟨bx,0,none⟩ mv0 M0:=⟨rfl,by
  have:=(m7.add (t:=⟨1,none,0,0,[]⟩) (.nil (.refl h9))).add (t:=⟨2,none,0,0,[]⟩) (.nil (.refl h9))
  refine this.perm ?_
  have p:∀ (x y u w:Itm),[x,y,u,w].Perm [u,w,y,x]:=fun x y u w=>by
   have h1:([x,y]++[u,w]).Perm ([u,w]++[x,y]):=List.perm_append_comm
   exact h1.trans (.cons _ (.cons _ (.swap _ _ _)))
  exact p _ _ _ _⟩
 clear m m2 m3 m4 m5 m6 m7 f9 u9
 refine LoopT.to (n:=v.b.n) (by omega) (fun i h'=>∃ m' F,MB h2 h' ⟨bx,0,none⟩ m' { M0 with bads:=F }/\F.length≤i/\F++badF V (C.bads.drop i) i=badF V C.bads 0) ⟨mv0,[],mb0,Nat.le_refl _,rfl⟩ ?_
 rintro i h10 K hi ⟨m1,F,mb1,hFl,hF⟩ hK
 have hb10:=hb.ext mb1.mem.ext
 refine ⟨_,_,_,hb10.fld 4 rfl,fun hlt=>?_,fun hlt=>?_⟩
 ·refine ⟨_,_,_,hb10.fld 4 rfl,by omega,hlt,(r2.b.ext mb1.mem.ext).getn (i:=i) (by omega) fun ad2 hl1 hc=>⟨_,hc,?_⟩⟩
  have k1:=l3 _ (List.getElem_mem hl1)
  refine use (c58 (rv2.ext mb1.mem.ext) k1.1 (by omega) (by omega)) ⟨_,rfl,?_⟩
  rw [badF_drop hl1] at hF
  cases hx:lit V C.bads[i] with
  | false=>
   rw [hx] at hF
   exact BIf.f (hK _ (by omega) ⟨m1,F,mb1,by omega,by simpa using hF⟩)
  | true=>
   rw [hx] at hF
   exact BIf.t (MB.bad mb1 (by simp only;omega) _ fun h5 m' mb'=>hK _ (by omega) ⟨m',F++[(i:Int)],mb',by simp;omega,by simpa using hF⟩)
 have hd:C.bads.drop i=[]:=List.drop_of_length_le (by omega)
 rw [hd,badF,List.append_nil] at hF
 subst hF
 clear hK hd hlt hFl
 let M1:Mo:={ M0 with bads:=badF V C.bads 0 }
 refine LoopT.to (n:=v.j.n) (by omega) (fun i h'=>∃ m' F,MB h2 h' ⟨bx,0,none⟩ m' { M1 with fair:=F }/\F.length≤(C.just.map List.length).sum/\F++justF V (C.just.drop i) i=justF V C.just 0) ⟨m1,[],mb1,Nat.zero_le _,rfl⟩ ?_
 clear K mb1 hb10
 rintro i h11 K hi ⟨m1,F,mb1,hFl,hF⟩ hK
 have hb11:=hb.ext mb1.mem.ext
 refine ⟨_,_,_,hb11.fld 6 rfl,fun hlt=>?_,fun hlt=>?_⟩
 ·have hij:i<C.just.length:=by omega
  have hxs:=le_sumS (List.getElem_mem hij)
  rw [justF_drop hij,<- List.append_assoc] at hF
  refine LoopT.to (n:=C.just[i].length) (by omega) (fun k h'=>∃ m' G,MB h2 h' ⟨bx,0,none⟩ m' { M1 with fair:=F++G }/\G.length≤k/\G++fairF i V (C.just[i].drop k) k=fairF i V C.just[i] 0) ⟨m1,[],by simpa using mb1,Nat.le_refl _,rfl⟩ ?_
  rintro k h12 K2 hk ⟨m2,G,mb2,hGl,hG⟩ hK2
  have hb12:=hb.ext mb2.mem.ext
  refine ⟨_,_,_,hb12.fld 6 rfl,by omega,by omega,(r2.j).get (i:=i) (by omega) fun ad2 hl1 x hc hr _ hx1 hxn=>⟨_,_,_,Ext.cell mb2.mem.ext hc,fun hlt2=>?_,fun hlt2=>?_⟩⟩
  ·refine ⟨_,_,_,hb12.fld 6 rfl,by omega,by omega,(r2.j).get (i:=i) (by omega) fun ad3 hl3 x2 hc2 hr2 _ hx21 hx2n=>⟨_,_,_,Ext.cell mb2.mem.ext hc2,by omega,by omega,?_⟩⟩
   rw [hx21] at hr2
   refine (hr2.ext mb2.mem.ext).getn (i:=k) (by omega) fun ad4 hl4 hc4=>⟨_,hc4,?_⟩
   have k1:=l5 _ (List.getElem_mem hij) _ (List.getElem_mem hl4)
   refine use (c58 (rv2.ext mb2.mem.ext) k1.1 (by omega) (by omega)) ⟨_,rfl,?_⟩
   rw [fairF_drop hl4] at hG
   cases hx:lit V C.just[i][k] with
   | false=>
    rw [hx] at hG
    exact BIf.f (hK2 _ (by omega) ⟨m2,G,mb2,by omega,by simpa using hG⟩)
   | true=>
    rw [hx] at hG
    refine BIf.t (MB.spot mb2 (by simp only [List.length_append];omega) _ _ fun h5 m' mb'=>hK2 _ (by omega) ⟨m',G++[((i:Int),(k:Int))],?_,by simp;omega,by simpa using hG⟩)
    simp only [List.append_assoc] at mb'
    exact mb'
  ·have hd:C.just[i].drop k=[]:=List.drop_of_length_le (by omega)
   rw [hd,fairF,List.append_nil] at hG
   subst hG
   refine hK _ (by omega) ⟨m2,F++fairF i V C.just[i] 0,mb2,?_,hF⟩
   have hlen:=congrArg List.length hF
   rw [List.length_append] at hlen
   have:=justF_len (V:=V) (l:=C.just) (i:=0)
   omega
 have hd:C.just.drop i=[]:=List.drop_of_length_le (by omega)
 rw [hd,justF,List.append_nil] at hF
 subst hF
 have hjl:=justF_len (V:=V) (l:=C.just) (i:=0)
 clear hK hlt hd
 refine LoopT.to (n:=v.f.n) (by omega) (fun k h'=>∃ m' G,MB h2 h' ⟨bx,0,none⟩ m' { M1 with fair:=justF V C.just 0++G }/\G.length≤k/\G++fairF (-1) V (C.fair.drop k) k=fairF (-1) V C.fair 0) ⟨m1,[],by simpa using mb1,Nat.le_refl _,rfl⟩ ?_
 clear K mb1 hb11
 rintro k h12 K hk ⟨m2,G,mb2,hGl,hG⟩ hK
 have hb12:=hb.ext mb2.mem.ext
 refine ⟨_,_,_,hb12.fld 7 rfl,fun hlt=>?_,fun hlt=>?_⟩
 ·refine ⟨_,_,_,hb12.fld 7 rfl,by omega,hlt,(r2.f.ext mb2.mem.ext).getn (i:=k) (by omega) fun ad4 hl4 hc4=>⟨_,hc4,?_⟩⟩
  have k1:=l6 _ (List.getElem_mem hl4)
  refine use (c58 (rv2.ext mb2.mem.ext) k1.1 (by omega) (by omega)) ⟨_,rfl,?_⟩
  rw [fairF_drop hl4] at hG
  cases hx:lit V C.fair[k] with
  | false=>
   rw [hx] at hG
   exact BIf.f (hK _ (by omega) ⟨m2,G,mb2,by omega,by simpa using hG⟩)
  | true=>
   rw [hx] at hG
   refine BIf.t (MB.spot mb2 (by simp only [List.length_append];omega) _ _ fun h5 m' mb'=>hK _ (by omega) ⟨m',G++[(-1,(k:Int))],?_,by simp;omega,by simpa using hG⟩)
   simp only [List.append_assoc] at mb'
   exact mb'
 ·have hd:C.fair.drop k=[]:=List.drop_of_length_le (by omega)
  rw [hd,fairF,List.append_nil] at hG
  subst hG
  refine ⟨_,_,_,_,_,_,_,_,_,_,(mb2.mem.get 0 rfl).rd.cells,?_⟩
  refine (fb.upd mb2.mem.ext).put (ws:=m2.cs) rfl (MV.one _) fun h21 f21 u21=>?_
  refine ⟨_,_,_,_,_,_,_,_,_,_,f21.rd.cells,m2,rfl,f21.ext,?_⟩
  have mo:=mb2.mem.over e2 u21 fun b ⟨ad,ha,e⟩=>by cases ha;simp only at e;omega
  intro S h' u hS
  exact ⟨Rd.one (mo.farAt u hS 1 rfl),mb2.ok,Rd.one (mo.farAt u hS 2 rfl),mo.farAt u hS 3 rfl⟩
end
end Go.Proofs.YtdpbdjdgdmheiaaGreat
namespace Go.Hx
theorem defG_g {α:Type} {mx k:Int} {f g:α->Int} {K:List Mk->DR}:∀ {L:List α} {i:Int} {B:List Mk},(defG mx k f g L i B K).2.1=0->(∃ B',(K B').2.1=0)/\∀ x∈L,g x=0
 | [],i,B,h=>⟨⟨B,h⟩,fun x hx=>by cases hx⟩
 | x::r,i,B,h=>by
  rw [defG] at h
  split at h
  ·split at h
   ·rename_i hg
    obtain ⟨h2,h3⟩:=defG_g h
    refine ⟨h2,fun y hy=>?_⟩
    rcases List.mem_cons.1 hy with rfl | hy
    ·exact hg
    ·exact h3 y hy
   ·rename_i h2;exact absurd h h2
  ·rename_i h1;exact absurd h h1
theorem lats_rst {C:Circ} (h:(defs C).2.1=0):∀ x∈C.lats,x.c=0∨x.c=1∨x.c=x.a:=by
 intro x hx
 unfold defs at h
 obtain ⟨⟨B1,h1⟩,_⟩:=defG_g h
 obtain ⟨_,h2⟩:=defG_g h1
 have:=h2 x hx
 unfold rst at this
 split at this
 ·assumption
 ·simp at this
end Go.Hx
namespace Go.Proofs.YtdpbdjdgdmheiaaGreat
open Go.Hx Go.Deep
section
variable {h:Heap} {v:CV} {C:Circ} {w:TV} {T:Tr} {a:Option Addr} {n c:Nat}
theorem c82 (r:CIs h v C) (ok:C.Ok):CallsH Tryz.prog 82 #[v.v] h (OrdP C h):=by
 refine run82 v _ h ?_
 unfold VC82
 intro h1
 have e1:Ext h h1:=Ext.box h _
 have hb:Rd h1 (some ⟨h.size,0,none⟩) 11 v.cs:=boxC v 29
 refine ldC hb (useX (c93 (r.ext e1) ok) fun h2 e2=>⟨_,_,rfl,fun hz=>?_,fun hz=>⟨e1.trans e2,.inr ⟨hz,rfl⟩⟩⟩)
 refine ldC (hb.ext e2) ((c128 (r.ext (e1.trans e2)) ok (gd_of (chk_bounds hz).1.1 (chk_ok hz).2.1) (gok hz)).mono ?_)
 rintro _ h3 ⟨out,a,c,t,rfl,f⟩
 exact ⟨_,_,_,rfl,(e1.trans e2).trans f.ext,.inl ⟨hz,out,a,c,rfl,⟨hz,t⟩,Rd.one f.own.rd⟩⟩
theorem c145 {l:List Int} (r:Rd h a n (ints l)) (hn:n<9223372036854775807) (x:Int):CallsH Tryz.prog 145 #[.slice a n c,.int .i64 x] h (Ret (.bool (decide (x∈l))) h):=by
 have hl:=r.ilen
 refine run145 a n c x _ h (LoopT.to (n:=n) hn (fun i h'=>h'=h/\x∉l.take i) ⟨rfl,by simp⟩ ?_)
 rintro i _ K hi ⟨rfl,hI⟩ hK
 refine ⟨fun hlt=>⟨by omega,hlt,r.getn (i:=i) (by omega) fun ad hl1 hc=>⟨_,hc,fun e=>⟨by rw [decide_eq_true (e▸List.getElem_mem hl1)],rfl⟩,fun e=>hK _ (by omega) ⟨rfl,?_⟩⟩⟩,fun hlt=>⟨?_,rfl⟩⟩
 ·rw [List.take_succ_eq_append_getElem hl1,List.mem_append,List.mem_singleton]
  exact fun h=>h.elim hI fun h=>e h.symm
 ·rw [List.take_of_length_le (by omega)] at hI
  rw [decide_eq_false hI]
set_option maxRecDepth 4000 in
theorem c127 {out:List Nat} (r:CIs h v C) (g:GoodC C out) {oa:Option Addr} {oc:Nat} (ro:Rd h oa out.length (ints (nI out))) (q:TIs h w T) (hf:Fit C T) :
  CallsH Tryz.prog 127 #[v.v,.slice oa out.length oc,w.v] h fun u h'=>Ext h h'/\∃ a n c sa sn sc,u=.tuple #[.slice a n c,.slice sa sn sc]/\MosIs h' a n c (movs C T.init T.ins)/\Rd h' sa sn (bools (endS C T.init T.ins)):=by
 have ql:=q.i.ilen
 have qs:=q.s.len
 have q2:=r.len.l
 have bnd:=chk_bounds g.chk
 have hf1:=hf.1
 have hf3:=hf.2.2.1
 refine run127 v oa out.length oc w _ h ?_
 unfold VC127
 intro h1 h2 h3
 have e1:Ext h h1:=Ext.box h _
 have e2:Ext h h2:=e1.trans (Ext.push h1 _)
 have hb:Rd h2 (some ⟨h.size,0,none⟩) 11 v.cs:=(boxC v 29).ext (Ext.push h1 _)
 have hw:Rd h2 (some ⟨h1.size,0,none⟩) 3 w.cs:=boxT w 49
 have e3:Ext h2 h3:=Ext.push h2 _
 have qi:=q.i.ext (e2.trans e3)
 refine ⟨_,_,_,(hw.ext e3).fld 0 rfl,bools T.init,qi.read,by rw [qi.len];omega,app0n (h:=h2) (by rw [qi.len];omega) bools_one (by omega) fun a1 c1 h4 f4=>?_⟩
 have e4:Ext h h4:=e2.trans f4.ext
 have hb4:=hb.ext f4.ext
 have hw4:=hw.ext f4.ext
 have r4:=r.ext e4
 have q4:=q.ext e4
 have ro4:=ro.ext e4
 refine LoopT.to3 (n:=w.s.n) (by omega) (fun i z s h'=>∃ (ms:List MV) (L:List Mo) (st:List Bool),L++movs C st (T.ins.drop i)=movs C T.init T.ins/\endS C st (T.ins.drop i)=endS C T.init T.ins/\ms.length=i/\L.length=i/\s.2.1=i/\st.length=C.lats.length/\z.2.1=v.l.n/\Fr h4 4 h' s.1 i s.2.2 (ms.flatMap MV.cs)/\Rd h' z.1 z.2.1 (bools st) /\
  ∀ (k:Nat) m M,ms[k]?=some m->L[k]?=some M->∃ p q,Far h' p q (fun h''=>MoIs h'' m M)/\q≤h'.size/\∀ ad,s.1=some ad->¬ (p≤ad.block/\ad.block<q)) ⟨[],[],T.init,rfl,rfl,rfl,rfl,rfl,hf1,by simp only;omega,.nil (.refl h4),Rd.one f4.own.rd,fun k m M hm=>by simp at hm⟩ ?_
 rintro i ⟨za,zn,zc⟩ ⟨oa',on,oc'⟩ h10 K hi ⟨ms,L,st,hL,hE,hms,hLl,hon,hst,hzn,f,rz,hfar⟩ hK
 dsimp only at hon hzn f rz hfar ⊢
 subst hon
 have e10:=f.ext
 have hs10:=e10.1
 refine ⟨_,_,_,(hw4.ext e10).fld 1 rfl,fun hlt=>?_,fun hlt=>?_⟩
 ·refine ldC (hb4.ext e10) ⟨_,_,_,(hw4.ext e10).fld 1 rfl,by omega,hlt,(q4.s.ext e10).get (i:=on) (by omega) fun ad hl1 x hc hr hxc hx1 hxn=>⟨_,_,_,hc,?_⟩⟩
  have hxl:T.ins[on].length=C.ins.length:=hf.2.2.2.2.2 _ (List.getElem_mem hl1)
  have q1:=r.len.i
  refine (c83 (r4.ext e10) g (ro4.ext e10) rz hr (by omega) (by omega)).mono ?_
  rintro _ h11 ⟨va,vc,rfl,f11⟩
  rw [hx1] at f11
  refine ⟨_,_,_,rfl,ldC (hb4.ext (e10.trans f11.ext)) ((c166 (r4.ext (e10.trans f11.ext)) g.chk (rz.ext f11.ext) (by omega) (Rd.one f11.own.rd) rfl).mono ?_)⟩
  rintro _ h12 ⟨m,rfl,e12,mn⟩
  refine ⟨_,_,_,_,_,_,_,_,_,_,rfl,?_⟩
  intro h13
  have e13:Ext h12 h13:=Ext.push h12 _
  have r13:=(Fr.lit (.refl h12) m.cs 131 4 rfl).rd
  have e10_13:=(f11.ext.trans e12).trans e13
  have z1:=f11.ext.1
  have z2:=e12.1
  have z3:=e13.1
  have olt:∀ ad,oa'=some ad->ad.block<h10.size:=fun ad ha=>by have:=f.own;rw [ha] at this;exact this.lt
  refine ⟨m.cs,r13.read,rfl,(f.upd e10_13).app rfl (MV.one m) (by omega) fun a' c' h14 f14 u14 hor=>?_⟩
  have rv14:Rd h14 va (C.mx+1).toNat (bools (valsOf C st T.ins[on])):=((Rd.one f11.own.rd).ext (e12.trans e13)).upd u14 fun ad ha ⟨ad',ha',e⟩=>by
   have:=f11.new ad ha
   have:=olt ad' ha'
   omega
  have e14:Ext h4 h14:=f14.ext
  refine ldC (hb4.ext e14) ((c97 (r4.ext e14) g.chk rv14 rfl).mono ?_)
  rintro _ h15 ⟨na,nc,rfl,f15⟩
  refine ⟨_,_,_,rfl,hK _ _ _ (by omega) ⟨ms++[m],L++[moOf C st (valsOf C st T.ins[on])],nextL C (valsOf C st T.ins[on]),?_,?_,by simp [hms],by simp [hLl],rfl,by simp [nextL],rfl,?_,Rd.one f15.own.rd,?_⟩⟩
  ·rw [<- hL,List.drop_eq_getElem_cons hl1,movs,List.append_assoc];rfl
  ·rw [<- hE,List.drop_eq_getElem_cons hl1,endS]
  ·have:(ms++[m]).flatMap MV.cs=ms.flatMap MV.cs++m.cs:=by simp [List.flatMap_append]
   rw [this]
   exact f14.upd f15.ext
  ·intro k m' M' hm hM
   have z4:=u14.1
   rcases Nat.lt_or_ge k on with hk | hk
   ·rw [List.getElem?_append_left (by omega)] at hm hM
    obtain ⟨p,q,hf,hq,hno⟩:=hfar k m' M' hm hM
    refine ⟨p,q,((hf.ext e10_13 hq).upd u14 (fun b h1 h2 ⟨ad,ha,e⟩=>hno ad ha (by omega)) (by omega)).ext f15.ext (by omega),by have:=f15.ext.1;omega,fun ad ha hh=>?_⟩
    replace ha:a'=some ad:=ha
    rcases hor with rfl | ⟨ad',ha',hge⟩
    ·exact hno ad ha hh
    ·rw [ha] at ha'
     obtain rfl:=Option.some.inj ha'
     omega
   ·have hk2:k=on:=by
     have:=(List.getElem?_eq_some_iff.1 hm).1
     simp at this;omega
    subst hk2
    rw [List.getElem?_append_right (by omega)] at hm hM
    simp [hms] at hm
    simp [hLl] at hM
    subst hm hM
    refine ⟨h11.size,h12.size,((Far.ext mn e13 (Nat.le_refl _)).upd u14 (fun b h1 h2 ⟨ad,ha,e⟩=>by have:=olt ad ha;omega) (by omega)).ext f15.ext (by omega),by have:=f15.ext.1;omega,fun ad ha hh=>?_⟩
    replace ha:a'=some ad:=ha
    rcases hor with rfl | ⟨ad',ha',hge⟩
    ·have:=olt ad ha;omega
    ·rw [ha] at ha'
     obtain rfl:=Option.some.inj ha'
     omega
 ·have hin:on=w.s.n:=by omega
  subst hin
  have hd:T.ins.drop w.s.n=[]:=List.drop_of_length_le (by omega)
  rw [hd,movs,List.append_nil] at hL
  rw [hd,endS] at hE
  refine ⟨e4.trans e10,oa',w.s.n,oc',za,zn,zc,rfl,?_,by rw [<- hE];exact rz⟩
  rw [<- hL]
  exact ⟨hLl,f.own.cap,ms,f.own.rd,hms,fun k m M hm hM=>(hfar k m M hm hM).choose_spec.choose_spec.1.now⟩
def BegP (C:Circ) (T:Tr) (h:Heap) (u:Value) (h':Heap):Prop:=Ext h h'/\(((runQ C T).2.2=0/\∃ a n c sa sn sc,u=.tuple #[.slice a n c,.slice sa sn sc,.int .i64 0,.int .i64 0]/\MosIs h' a n c (runQ C T).1/\Rd h' sa sn (bools (endS C T.init T.ins))) ∨
 ((runQ C T).2.2≠0/\u=.tuple #[.slice none 0 0,.slice none 0 0,.int .i64 (runQ C T).2.1,.int .i64 (runQ C T).2.2]))
theorem c81 (r:CIs h v C) (ok:C.Ok) (hc:(chk C).2=0) (q:TIs h w T) (hf:Fit C T):CallsH Tryz.prog 81 #[v.v,w.v] h (BegP C T h):=by
 have ql:=q.i.ilen
 have q2:=r.len.l
 have bnd:=chk_bounds hc
 have hil:=hf.1
 refine run81 v w _ h ?_
 unfold VC81
 intro h1 h2
 have e1:Ext h h1:=Ext.box h _
 have e2:Ext h h2:=e1.trans (Ext.push h1 _)
 have hb:Rd h2 (some ⟨h.size,0,none⟩) 11 v.cs:=(boxC v 29).ext (Ext.push h1 _)
 have hw:Rd h2 (some ⟨h1.size,0,none⟩) 3 w.cs:=boxT w 49
 refine ldC hb ((c82 (r.ext e2) ok).mono ?_)
 rintro _ h3 ⟨e3,⟨_,out,oa,oc,rfl,g,ro⟩ | ⟨hz,rfl⟩⟩
 rotate_left
 ·exact absurd hc hz
 have e03:=e2.trans e3
 have hb3:=hb.ext e3
 have hw3:=hw.ext e3
 have hR:runR C T=(movs C T.init T.ins,0):=by unfold runR;rw [if_neg (by simp [hc]),if_pos hf]
 refine ⟨_,_,_,_,rfl,?_⟩
 refine LoopT.to (n:=v.l.n) (by omega) (fun i h'=>h'=h3/\iniF C.lats T.init 0=iniF (C.lats.drop i) (T.init.drop i) i) ⟨rfl,rfl⟩ ?_
 rintro i h4 K hi ⟨hh,hI⟩ hK
 replace hh:=hh.symm
 subst hh
 refine ⟨_,_,_,hb3.fld 2 rfl,fun hlt=>?_,fun hlt=>?_⟩
 ·refine ⟨_,_,_,hb3.fld 2 rfl,by omega,hlt,(r.l.ext e03).elem L3.csl (by omega) (i:=i) (by omega) fun ad hl1 re=>⟨_,re.fld 2 rfl,?_⟩⟩
  have his:i<T.init.length:=by omega
  have hrs:=lats_rst (chk_ok hc).2.1 _ (List.getElem_mem hl1)
  have hra:=(dn hc).l i _ (List.getElem?_eq_getElem hl1)
  rw [iniF_drop hl1 his] at hI
  have nx:¬ (C.lats[i].c<2/\T.init[i]≠decide (C.lats[i].c=1))->K (IntKind.wrap .i64 (i+1)) h3:=fun hn=>hK _ (by omega) ⟨rfl,by rw [if_neg hn] at hI;exact hI⟩
  have no:(C.lats[i].c<2/\T.init[i]≠decide (C.lats[i].c=1))->BegP C T h (.tuple #[.slice none 0 0,.slice none 0 0,.int .i64 (i:Int),.int .i64 134]) h3:=fun hp=>by
   have hQ:runQ C T=([],(i:Int),134):=by unfold runQ;rw [hR,if_neg (by simp),hI,if_pos hp]
   exact ⟨e03,.inr (by rw [hQ];exact ⟨by simp,rfl⟩)⟩
  have rdI:∀ {K':Addr->Prop},(∀ ad,cellH h3 (ad.add (i*1))=some (.bool T.init[i])->K' ad)->AtP w.i.a K':=fun hK'=>(q.i.ext e03).getn (i:=i) (by omega) fun ad _ hc=>hK' ad hc
  refine ⟨fun h0=>⟨_,_,_,hw3.fld 0 rfl,by omega,by omega,rdI fun ad2 hc2=>⟨_,hc2,?_⟩⟩,fun h0=>⟨fun h1=>⟨_,_,_,hw3.fld 0 rfl,by omega,by omega,rdI fun ad2 hc2=>⟨_,hc2,?_⟩⟩,fun h1=>nx fun hh=>?_⟩⟩
  ·cases hb1:T.init[i] with
   | true=>exact BIf.t (no ⟨by omega,by rw [hb1,decide_eq_false (by omega)];simp⟩)
   | false=>exact BIf.f ⟨fun h1=>absurd h1 (by omega),fun h1=>nx fun hh=>hh.2 (by rw [hb1,decide_eq_false h1])⟩
  ·cases hb1:T.init[i] with
   | true=>exact BIf.f (nx fun hh=>hh.2 (by rw [hb1,decide_eq_true h1]))
   | false=>exact BIf.t (no ⟨by omega,by rw [hb1,decide_eq_true h1];simp⟩)
  ·omega
 ·rw [iniF_end (by omega)] at hI
  refine ldC hb3 (ldT hw3 ((c127 (r.ext e03) g ro (q.ext e03) hf).mono ?_))
  rintro _ h6 ⟨e6,ma,mn,mc,sa,sn,sc,rfl,mi,rs⟩
  have ml:=mi.len
  have mnl:mn≤512:=by have:=hf.2.2.1;rw [movs_len] at ml;omega
  refine ⟨_,_,_,_,_,_,rfl,?_⟩
  refine LoopT.to (n:=mn) (by omega) (fun j h'=>h'=h6/\brkF (movs C T.init T.ins) 0=brkF ((movs C T.init T.ins).drop j) j) ⟨rfl,rfl⟩ ?_
  clear K hK
  rintro j h7 K hj ⟨hh,hB⟩ hK
  replace hh:=hh.symm
  subst hh
  refine ⟨fun hlt=>?_,fun hlt=>?_⟩
  ·refine ⟨by omega,by omega,mi.elem (i:=j) (by omega) fun ad m hl1 re mo=>⟨_,re.fld 1 rfl,?_⟩⟩
   rw [brkF_drop hl1] at hB
   rw [mo.ok]
   cases hok:(movs C T.init T.ins)[j].ok with
   | false=>
    refine BIf.t ?_
    have hQ:runQ C T=([],(j:Int),130):=by
     unfold runQ
     rw [hR,if_neg (by simp),hI]
     simp only
     rw [hB,if_pos hok]
    exact ⟨e03.trans e6,.inr (by rw [hQ];exact ⟨by simp,rfl⟩)⟩
   | true=>exact BIf.f (hK _ (by omega) ⟨rfl,by rw [if_neg (by simp [hok])] at hB;exact hB⟩)
  ·have hd:(movs C T.init T.ins).drop j=[]:=List.drop_of_length_le (by omega)
   rw [hd,brkF] at hB
   have hQ:runQ C T=(movs C T.init T.ins,0,0):=by
    unfold runQ
    rw [hR,if_neg (by simp),hI]
    simp only
    rw [hB]
   exact ⟨e03.trans e6,.inl (by rw [hQ];exact ⟨rfl,ma,mn,mc,sa,sn,sc,rfl,mi,rs⟩)⟩
end
end Go.Proofs.YtdpbdjdgdmheiaaGreat
namespace Go.Hx
theorem LoopT.from2 {τ:Type} {B:τ×Int->Heap->(τ×Int->Heap->Prop)->Prop} {n lo:Nat} {h:Heap} {s0:τ} (hlo:lo≤n) (hn:n<9223372036854775807) (I:Nat->τ->Heap->Prop) (h0:I lo s0 h)
  (hs:∀ (i:Nat) (s:τ) (h':Heap) (K:τ×Int->Heap->Prop),i≤n->I i s h'->(∀ s' h'',i<n->I (i+1) s' h''->K (s',IntKind.wrap .i64 ((i:Int)+1)) h'')->B (s,i) h' K):LoopT B (s0,(lo:Int)) h:=by
 refine ⟨fun st h' m=>∃ i:Nat,st.2=i/\i≤n/\m=n-i/\I i st.1 h',⟨n-lo,lo,rfl,hlo,rfl,h0⟩,?_⟩
 rintro ⟨s,t⟩ h' m ⟨i,rfl,hi,rfl,hI⟩
 refine hs i s h' _ hi hI fun s' h'' hlt hI'=>?_
 exact ⟨n-(i+1),by omega,i+1,by show IntKind.wrap .i64 ((i:Int)+1)=_;rw [w64 (by omega) (by omega)];rfl,by omega,rfl,hI'⟩
end Go.Hx
namespace Go.Proofs.YtdpbdjdgdmheiaaGreat
open Go.Hx Go.Deep
section
variable {h:Heap} {v:CV} {C:Circ} {w:TV} {T:Tr}
theorem runQ_nofit {C:Circ} {T:Tr} (hc:(chk C).2=0) (hf:¬ Fit C T):runQ C T=([],0,4):=by
 have hR:runR C T=([],4):=by unfold runR;rw [if_neg (by simp [hc]),if_neg hf]
 unfold runQ
 rw [hR,if_pos (by simp)]
theorem c112 (r:CIs h v C) (ok:C.Ok) (hc:(chk C).2=0) (q:TIs h w T) (i:Int):CallsH Tryz.prog 112 #[v.v,.int .i64 i,w.v] h (Xt (.tuple #[.int .i64 (badQ C i T).1,.int .i64 (badQ C i T).2]) h):=by
 have qs:=q.s.len
 refine run112 v i w _ h ?_
 unfold VC112
 intro h1 h2
 have e1:Ext h h1:=Ext.box h _
 have e2:Ext h h2:=e1.trans (Ext.push h1 _)
 have hb:Rd h2 (some ⟨h.size,0,none⟩) 11 v.cs:=(boxC v 29).ext (Ext.push h1 _)
 have hw:Rd h2 (some ⟨h1.size,0,none⟩) 3 w.cs:=boxT w 49
 refine ldC hb (ldT hw (useX (c144 (r.ext e2) (q.ext e2)) fun h3 e3=>⟨_,rfl,?_⟩))
 by_cases hf:Fit C T
 rotate_left
 ·rw [decide_eq_false hf]
  refine BIf.t ⟨?_,e2.trans e3⟩
  unfold badQ
  rw [runQ_nofit hc hf,if_pos (by simp)]
 rw [decide_eq_true hf]
 have e03:=e2.trans e3
 refine BIf.f (ldC (hb.ext e3) (ldT (hw.ext e3) ((c81 (r.ext e03) ok hc (q.ext e03) hf).mono ?_)))
 rintro _ h4 ⟨e4,⟨hz,ma,mn,mc,sa,sn,sc,rfl,mi,rs⟩ | ⟨hz,rfl⟩⟩
 rotate_left
 ·exact ⟨_,_,_,_,_,_,_,_,rfl,fun h=>absurd h hz,fun _=>⟨by unfold badQ;rw [if_pos hz],e03.trans e4⟩⟩
 obtain ⟨_,_,hQ,_⟩:=runQ_ok hz
 have ml:=mi.len
 have hml:(runQ C T).1.length=T.ins.length:=by rw [hQ];exact movs_len
 have h1m:1≤mn:=by have:=hf.2.1;omega
 have hmx:mn≤512:=by have:=hf.2.2.1;omega
 have wl:IntKind.wrap .i64 (((mn:Nat):Int)-1)=((mn-1:Nat):Int):=by rw [w64 (by omega) (by omega)];omega
 have hB:badQ C i T=((T.ins.length:Int)-1,if i∈(lastM (runQ C T).1).bads then 0 else 131):=by unfold badQ;rw [if_neg (by simp [hz])]
 refine ⟨_,_,_,_,_,_,_,_,rfl,fun _=>?_,fun h=>absurd rfl h⟩
 unfold J112_1
 rw [wl]
 refine ⟨by omega,by omega,mi.elem (i:=mn-1) (by omega) fun ad m hl1 re mo=>⟨_,_,_,re.fld 2 rfl,?_⟩⟩
 have hmem:∀ M,M∈(runQ C T).1->M∈movs C T.init T.ins:=fun M hM=>by rw [hQ] at hM;exact hM
 have hlen:=(movs_mem hc hf.1 (hmem _ (List.getElem_mem hl1))).2.1
 have hbn:=mo.b.ilen
 have hlast:lastM (runQ C T).1=(runQ C T).1[mn-1]:=by
  unfold lastM
  rw [List.getD_eq_getElem?_getD,show (runQ C T).1.length-1=mn-1 by omega,List.getElem?_eq_getElem hl1];rfl
 have hT:((T.ins.length:Int)-1)=((mn-1:Nat):Int):=by omega
 refine use (c145 mo.b (by omega) i) ⟨_,rfl,?_⟩
 rw [hB,hlast,hT]
 by_cases hm:i∈(runQ C T).1[mn-1].bads
 ·rw [decide_eq_true hm,if_pos hm]
  exact BIf.f ⟨rfl,e03.trans e4⟩
 ·rw [decide_eq_false hm,if_neg hm]
  exact BIf.t ⟨rfl,e03.trans e4⟩
theorem want {R:Value->Heap->Prop} {h_ h9 hh:Heap} {A24:Option Addr} {n c:Nat} {L:List Mo} (mi:MosIs hh A24 n c L) (hn:n≤512) (hfl:∀ M∈L,M.fair.length≤32768) {k lp:Int} {next:Int->Heap->Prop} (hlp:cellH hh (Addr.add ⟨h_.size,0,none⟩ 2)=some (.int .i64 lp)) (h0:0≤lp) (h1:lp<n) {p q:Int}
  (hb:Rd hh (some ⟨h9.size,0,none⟩) 2 (cs2 (p,q))) (yes:cameIn L lp.toNat (p,q)->next (IntKind.wrap .i64 (k+1)) hh) (no:¬ cameIn L lp.toNat (p,q)->R (.tuple #[.int .i64 k,.int .i64 133]) hh):J113_6 R h_ A24 n k next h9 hh:=by
 have hLl:=mi.len
 obtain ⟨lo,hlo⟩:∃ lo:Nat,lp=lo:=⟨lp.toNat,by omega⟩
 subst hlo
 rw [Int.toNat_natCast] at yes no
 refine ⟨_,hlp,?_⟩
 refine LoopT.from2 (n:=n) (lo:=lo) (by omega) (by omega) (fun i came h'=>h'=hh/\(came=true↔∃ m∈(L.drop lo).take (i-lo),(p,q)∈m.fair)/\lo≤i) ⟨rfl,by simp,Nat.le_refl _⟩ ?_
 rintro i came h' K hi ⟨he,hI,hli⟩ hK
 replace he:=he.symm
 subst he
 refine ⟨fun hlt=>?_,fun hlt=>?_⟩
 ·have hil:i<L.length:=by omega
  have htk:(L.drop lo).take (i+1-lo)=(L.drop lo).take (i-lo)++[L[i]]:=by
   rw [show i+1-lo=(i-lo)+1 by omega,List.take_succ_eq_append_getElem (by simp;omega),List.getElem_drop]
   congr 2
   congr 1
   omega
  have hfi:=hfl _ (List.getElem_mem hil)
  refine LoopT.to2 (n:=L[i].fair.length) (by omega) (fun f cm h'=>h'=hh/\(cm=true↔((∃ m∈(L.drop lo).take (i-lo),(p,q)∈m.fair)∨(p,q)∈L[i].fair.take f))) ⟨rfl,by rw [hI];simp⟩ ?_
  rintro f cm h' K2 hf ⟨he,hJ⟩ hK2
  replace he:=he.symm
  subst he
  refine ⟨by omega,by omega,mi.elem (i:=i) (by omega) fun ad m hl1 re mo=>⟨_,_,_,re.fld 3 rfl,?_⟩⟩
  have mfl:=mo.f.elen cs2l (by omega)
  refine ⟨fun hlt2=>?_,fun hlt2=>?_⟩
  ·have hff:f<L[i].fair.length:=by omega
   have st:∀ b:Bool,(b=true↔(cm=true∨(p,q)=L[i].fair[f]))->K2 (b,IntKind.wrap .i64 (f+1)) hh:=fun b hb=>hK2 _ _ hff ⟨rfl,by
    rw [hb,hJ,List.take_succ_eq_append_getElem hff,List.mem_append,List.mem_singleton]
    exact or_assoc⟩
   cases cm with
   | true=>exact st true (by simp)
   | false=>
    refine ⟨by omega,by omega,mi.elem (i:=i) (by omega) fun ad2 m2 hl2 re2 mo2=>⟨_,_,_,re2.fld 3 rfl,?_⟩⟩
    have mfl2:=mo2.f.elen cs2l (by omega)
    refine ⟨by omega,by omega,mo2.f.elem cs2l (by omega) (i:=f) (by omega) fun ad3 hl3 re3=>⟨_,_,re3.cells,p,q,hb.cells,fun he=>st true ?_,fun he=>st false ?_⟩⟩
    ·have h1:=congrArg Array.toList he
     simp only [List.cons.injEq,Value.int.injEq,true_and,and_true] at h1
     refine iff_of_true rfl (.inr (Prod.ext ?_ ?_))
     ·exact h1.1.symm
     ·exact h1.2.symm
    ·refine iff_of_false (by simp) fun hor=>?_
     rcases hor with hor | hor
     ·cases hor
     ·apply he
      rw [<- hor]
  ·have hfe:f=L[i].fair.length:=by omega
   subst hfe
   rw [List.take_length] at hJ
   refine hK _ _ (by omega) ⟨rfl,?_,by omega⟩
   rw [hJ,htk]
   constructor
   ·rintro (⟨m,hm,hs⟩ | hs)
    ·exact ⟨m,List.mem_append_left _ hm,hs⟩
    ·exact ⟨_,List.mem_append_right _ (List.mem_singleton.2 rfl),hs⟩
   ·rintro ⟨m,hm,hs⟩
    rcases List.mem_append.1 hm with hm | hm
    ·exact .inl ⟨m,hm,hs⟩
    ·rw [List.mem_singleton] at hm;subst hm;exact .inr hs
 ·rw [List.take_of_length_le (by simp;omega)] at hI
  cases came with
  | true=>exact BIf.f (yes (hI.1 rfl))
  | false=>exact BIf.t (no fun hc=>by have:=hI.2 hc;cases this)
end
end Go.Proofs.YtdpbdjdgdmheiaaGreat
namespace Go.Proofs.YtdpbdjdgdmheiaaGreat
open Go.Hx Go.Deep
section
variable {h:Heap} {v:CV} {C:Circ} {w:TV} {T:Tr}
set_option maxRecDepth 4000 in
theorem c113 (r:CIs h v C) (ok:C.Ok) (hc:(chk C).2=0) (q:TIs h w T) {j:Int} (hj0:0≤j) (hj1:j<C.just.length):CallsH Tryz.prog 113 #[v.v,.int .i64 j,w.v] h (Xt (.tuple #[.int .i64 (justQ C j T).1,.int .i64 (justQ C j T).2]) h):=by
 have qs:=q.s.len
 have qlp:=q.lp
 have q6:=r.len.j
 have q7:=r.len.f
 have bnd:=chk_bounds hc
 refine run113 v j w _ h ?_
 unfold VC113
 intro h1 h2
 have e1:Ext h h1:=Ext.box h _
 have e2:Ext h h2:=e1.trans (Ext.push h1 _)
 have hb:Rd h2 (some ⟨h.size,0,none⟩) 11 v.cs:=(boxC v 29).ext (Ext.push h1 _)
 have hw:Rd h2 (some ⟨h1.size,0,none⟩) 3 w.cs:=boxT w 49
 refine ldC hb (ldT hw (useX (c144 (r.ext e2) (q.ext e2)) fun h3 e3=>⟨_,rfl,?_⟩))
 by_cases hf:Fit C T
 rotate_left
 ·rw [decide_eq_false hf]
  refine BIf.t ⟨?_,e2.trans e3⟩
  unfold justQ
  rw [runQ_nofit hc hf,if_pos (by simp)]
 rw [decide_eq_true hf]
 have e03:=e2.trans e3
 refine BIf.f (ldC (hb.ext e3) (ldT (hw.ext e3) ((c81 (r.ext e03) ok hc (q.ext e03) hf).mono ?_)))
 rintro _ h5 ⟨e5,⟨hz,ma,mn,mc,sa,sn,sc,rfl,mi,rs⟩ | ⟨hz,rfl⟩⟩
 rotate_left
 ·exact ⟨_,_,_,_,_,_,_,_,rfl,fun h=>absurd h hz,fun _=>⟨by unfold justQ;rw [if_pos hz],e03.trans e5⟩⟩
 obtain ⟨_,_,hQ,_⟩:=runQ_ok hz
 have hJ:=justQ_at (j:=j) hz
 have ml:=mi.len
 obtain ⟨M,row,hM,hr,l1,l2,l3⟩:=last_eq hf
 obtain ⟨L,hLd⟩:∃ L,L=(runQ C T).1:=⟨_,rfl⟩
 have hLm:L=movs C T.init T.ins:=by rw [hLd,hQ]
 rw [<- hLd] at hJ mi ml
 rw [hLm,l1,l2,<- l3,<- hLm] at hJ
 have hmem:∀ M∈L,M.st.length=C.lats.length/\M.bads.length≤16384/\M.fair.length≤32768:=fun M hM=>by rw [hLm] at hM;exact movs_mem hc hf.1 hM
 have hml:L.length=T.ins.length:=by rw [hLm];exact movs_len
 have h1m:1≤mn:=by have:=hf.2.1;omega
 have hmx:mn≤512:=by have:=hf.2.2.1;omega
 have hlo:T.loop<mn:=by have:=hf.2.2.2.2.1;omega
 have wl:IntKind.wrap .i64 (((mn:Nat):Int)-1)=((mn-1:Nat):Int):=by rw [w64 (by omega) (by omega)];omega
 have hT:((T.ins.length:Int)-1)=((mn-1:Nat):Int):=by omega
 rw [hT] at hJ
 have e05:=e03.trans e5
 have e25:=e3.trans e5
 have hw5:=hw.ext e25
 have hb5:=hb.ext e25
 refine ⟨_,_,_,_,_,_,_,_,rfl,fun _=>?_,fun h=>absurd rfl h⟩
 unfold J113_1
 rw [wl]
 refine ⟨_,hw5.fld 2 rfl,fun hneg=>⟨by rw [hJ,if_pos (by omega)],e05⟩,fun hnn=>?_⟩
 rw [if_neg (by omega)] at hJ
 refine ⟨_,hw5.fld 2 rfl,by omega,by omega,mi.elem (i:=w.lp.toNat) (by omega) fun ad3 m2 hl3 re2 mo2=>⟨_,_,_,re2.fld 0 rfl,?_⟩⟩
 have hlop:(L.getD T.loop.toNat ⟨[],false,[],[]⟩)=L[w.lp.toNat]:=by
  rw [List.getD_eq_getElem?_getD,<- qlp,List.getElem?_eq_getElem hl3];rfl
 rw [hlop] at hJ
 have hsn:=rs.ilen
 have hel:(endS C T.init T.ins).length=C.lats.length:=by rw [l3];simp [nextL]
 refine use (c59 rs mo2.s (by omega)) ⟨_,rfl,?_⟩
 by_cases hEq:endS C T.init T.ins=L[w.lp.toNat].st
 rotate_left
 ·rw [decide_eq_false hEq]
  exact BIf.t ⟨by rw [hJ,if_pos hEq],e05⟩
 rw [decide_eq_true hEq]
 rw [if_neg (fun h=>h hEq)] at hJ
 refine BIf.f ⟨_,_,_,hb5.fld 6 rfl,by omega,by omega,(r.j.ext e05).get (i:=j.toNat) (by omega) fun ad6 hl6 x6 hc6 hr6 hx6 hx61 hx6n=>⟨_,_,_,hc6,?_⟩⟩
 have hjD:C.just.getD j.toNat []=C.just[j.toNat]:=by rw [List.getD_eq_getElem?_getD,List.getElem?_eq_getElem hl6];rfl
 rw [hjD] at hJ
 have hxl:C.just[j.toNat].length≤16384:=by have:=le_sumS (List.getElem_mem hl6);omega
 have wn:IntKind.wrap .i64 (((x6.n:Nat):Int)+((v.f.n:Nat):Int))=((x6.n+v.f.n:Nat):Int):=by rw [w64 (by omega) (by omega)];omega
 refine LoopT.to (n:=x6.n+v.f.n) (by omega) (fun k h'=>Ext h5 h'/\missF (cameIn L T.loop.toNat) j C.just[j.toNat].length 0=missF (cameIn L T.loop.toNat) j (C.just[j.toNat].length-k) k /\
  (x6.n≤k->missF (cameIn L T.loop.toNat) (-1) C.fair.length 0=missF (cameIn L T.loop.toNat) (-1) (C.fair.length-(k-x6.n)) (k-x6.n))) ⟨.refl _,rfl,fun hk=>by rw [show 0-x6.n=0 by omega];rfl⟩ ?_
 rintro k h8 K hk ⟨e8,hI1,hI2⟩ hK
 have e08:=e05.trans e8
 refine ⟨_,_,_,(hb5.ext e8).fld 7 rfl,?_⟩
 rw [wn]
 refine ⟨fun hlt=>?_,fun hlt=>?_⟩
 ·unfold J113_4
  intro h10
  have f10:Fr h8 1 h10 (some ⟨h8.size,0,none⟩) 2 2 [.int .i64 0,.int .i64 0]:=Fr.lit (.refl h8) [.int .i64 0,.int .i64 0] 201 2 rfl
  refine f10.put (ws:=cs2 (j,(k:Int))) rfl (cs2_one _) fun h11 f11 u11=>⟨fun hge=>?_,fun hnge=>?_⟩
  ·have wk:IntKind.wrap .i64 ((k:Int)-((x6.n:Nat):Int))=((k-x6.n:Nat):Int):=by rw [w64 (by omega) (by omega)];omega
   rw [wk]
   refine f11.put (ws:=cs2 (-1,((k-x6.n:Nat):Int))) rfl (cs2_one _) fun h12 f12 u12=>?_
   have e12:=f12.ext
   have hz1:missF (cameIn L T.loop.toNat) j C.just[j.toNat].length 0=none:=by rw [hI1,show C.just[j.toNat].length-k=0 by omega];rfl
   rw [hz1] at hJ
   simp only at hJ
   refine want (mi.ext (e8.trans e12)) hmx (fun M hM=>(hmem M hM).2.2) ((hw5.ext (e8.trans e12)).fld 2 rfl) (by omega) (by omega) f12.rd (fun hy=>hK _ (by omega) ⟨e8.trans e12,?_,fun _=>?_⟩) fun hn=>⟨?_,e08.trans e12⟩
   ·rw [hI1,show C.just[j.toNat].length-k=0 by omega,show C.just[j.toNat].length-(k+1)=0 by omega];rfl
   ·rw [hI2 (by omega),missF_step (by omega) (by rw [<- qlp];exact hy),show k+1-x6.n=k-x6.n+1 by omega]
   ·rw [hI2 (by omega),missF_stop (by omega) (by rw [<- qlp];exact hn)] at hJ
    rw [hJ]
    simp only
    rw [show ((C.just[j.toNat].length:Int)+((k-x6.n:Nat):Int))=(k:Int) by omega]
  ·have e11:=f11.ext
   refine want (mi.ext (e8.trans e11)) hmx (fun M hM=>(hmem M hM).2.2) ((hw5.ext (e8.trans e11)).fld 2 rfl) (by omega) (by omega) f11.rd (fun hy=>hK _ (by omega) ⟨e8.trans e11,?_,fun hkk=>?_⟩) fun hn=>⟨?_,e08.trans e11⟩
   ·rw [hI1,missF_step (by omega) (by rw [<- qlp];exact hy)]
   ·rw [show k+1-x6.n=0 by omega];rfl
   ·rw [hI1,missF_stop (by omega) (by rw [<- qlp];exact hn)] at hJ
    rw [hJ]
 ·have hz1:missF (cameIn L T.loop.toNat) j C.just[j.toNat].length 0=none:=by rw [hI1,show C.just[j.toNat].length-k=0 by omega];rfl
  have hz2:missF (cameIn L T.loop.toNat) (-1) C.fair.length 0=none:=by rw [hI2 (by omega),show C.fair.length-(k-x6.n)=0 by omega];rfl
  rw [hz1,hz2] at hJ
  refine ⟨_,(hw5.ext e8).fld 2 rfl,?_,e08⟩
  rw [hJ,qlp]
def hasP (C:Circ) (kd i:Int):Prop:=(kd=98/\0≤i/\i<C.bads.length)∨(kd=106/\0≤i/\i<C.just.length)
instance (C:Circ) (kd i:Int):Decidable (hasP C kd i):=by unfold hasP;infer_instance
theorem c111 (r:CIs h v C) (kd i:Int):CallsH Tryz.prog 111 #[v.v,.agg #[.int .u8 kd,.int .i64 i]] h (Xt (.bool (decide (hasP C kd i))) h):=by
 have q4:=r.len.b
 have q6:=r.len.j
 refine run111 v kd i _ h ?_
 unfold VC111
 intro h1 h2
 have e1:Ext h h1:=Ext.box h _
 have e2:Ext h h2:=e1.trans (Ext.push h1 _)
 have hb4:Rd h2 (some ⟨h.size,0,none⟩) 11 v.cs:=(boxC v 29).ext (Ext.push h1 _)
 have hp4:Rd h2 (some ⟨h1.size,0,none⟩) 2 [.int .u8 kd,.int .i64 i]:=(Fr.lit (.refl h1) [.int .u8 kd,.int .i64 i] 107 2 rfl).rd
 have yes:hasP C kd i->Xt (.bool (decide (hasP C kd i))) h (.bool true) h2:=fun hp=>⟨by rw [decide_eq_true hp],e2⟩
 have no:¬ hasP C kd i->Xt (.bool (decide (hasP C kd i))) h (.bool false) h2:=fun hp=>⟨by rw [decide_eq_false hp],e2⟩
 refine ⟨_,hp4.fld 0 rfl,fun k1=>⟨_,hp4.fld 1 rfl,fun k2=>⟨_,hp4.fld 1 rfl,_,_,_,hb4.fld 4 rfl,fun k3=>yes (.inl ⟨k1,k2,by omega⟩),fun k3=>?_⟩,fun k2=>?_⟩,fun k1=>?_⟩
 ·exact ⟨_,hp4.fld 0 rfl,fun m1=>absurd m1 (by omega),fun m1=>no fun h=>by unfold hasP at h;omega⟩
 ·exact ⟨_,hp4.fld 0 rfl,fun m1=>absurd m1 (by omega),fun m1=>no fun h=>by unfold hasP at h;omega⟩
 ·exact ⟨_,hp4.fld 0 rfl,fun m1=>⟨_,hp4.fld 1 rfl,fun m2=>⟨_,hp4.fld 1 rfl,_,_,_,hb4.fld 6 rfl,fun m3=>yes (.inr ⟨m1,m2,by omega⟩),fun m3=>no fun h=>by unfold hasP at h;omega⟩,fun m2=>no fun h=>by unfold hasP at h;omega⟩,fun m1=>no fun h=>by unfold hasP at h;omega⟩
set_option maxRecDepth 4000 in
theorem c67 (r:CIs h v C) (ok:C.Ok) (q:TIs h w T) (kd i:Int):CallsH Tryz.prog 67 #[v.v,.agg #[.int .u8 kd,.int .i64 i],w.v] h (Xt (.tuple #[.int .i64 (propQ C kd i T).1,.int .i64 (propQ C kd i T).2]) h):=by
 refine run67 v kd i w _ h ?_
 unfold VC67
 intro h1 h2 h3
 have e1:Ext h h1:=Ext.box h _
 have e2:Ext h h2:=e1.trans (Ext.push h1 _)
 have e3:Ext h h3:=e2.trans (Ext.push h2 _)
 have hb:Rd h3 (some ⟨h.size,0,none⟩) 11 v.cs:=((boxC v 29).ext (Ext.push h1 _)).ext (Ext.push h2 _)
 have hp:Rd h3 (some ⟨h1.size,0,none⟩) 2 [.int .u8 kd,.int .i64 i]:=(Fr.lit (.refl h1) [.int .u8 kd,.int .i64 i] 107 2 rfl).rd.ext (Ext.push h2 _)
 have hw:Rd h3 (some ⟨h2.size,0,none⟩) 3 w.cs:=boxT w 49
 refine ldC hb (useX (c93 (r.ext e3) ok) fun h4 e4=>⟨_,_,rfl,fun hz=>?_,fun hz=>⟨by unfold propQ;rw [if_pos hz],e3.trans e4⟩⟩)
 have e04:=e3.trans e4
 have hR:propQ C kd i T=if kd=98/\0≤i/\i<C.bads.length then badQ C i T else if kd=106/\0≤i/\i<C.just.length then justQ C i T else (0,5):=by unfold propQ;rw [if_neg (by simp [hz])]
 refine ldC (hb.ext e4) ⟨_,_,(hp.ext e4).cells,useX (c111 (r.ext e04) kd i) fun h5 e5=>⟨_,rfl,?_⟩⟩
 have e05:=e04.trans e5
 have e35:=e4.trans e5
 have hb5:=hb.ext e35
 have hp5:=hp.ext e35
 have hw5:=hw.ext e35
 by_cases hh:hasP C kd i
 rotate_left
 ·rw [decide_eq_false hh]
  refine BIf.t ⟨?_,e05⟩
  rw [hR,if_neg fun a=>hh (.inl a),if_neg fun a=>hh (.inr a)]
 rw [decide_eq_true hh]
 refine BIf.f ⟨_,hp5.fld 0 rfl,fun k1=>?_,fun k1=>?_⟩
 ·have hb1:kd=98/\0≤i/\i<C.bads.length:=by rcases hh with a | a;exact a;omega
  exact ldC hb5 ⟨_,hp5.fld 1 rfl,ldT hw5 (useX (c112 (r.ext e05) ok hz (q.ext e05) i) fun h6 e6=>⟨_,_,rfl,by rw [hR,if_pos hb1],e05.trans e6⟩)⟩
 ·have hb1:kd=106/\0≤i/\i<C.just.length:=by rcases hh with a | a;omega;exact a
  exact ldC hb5 ⟨_,hp5.fld 1 rfl,ldT hw5 (useX (c113 (r.ext e05) ok hz (q.ext e05) hb1.2.1 hb1.2.2) fun h6 e6=>⟨_,_,rfl,by rw [hR,if_neg (fun a=>k1 a.1),if_pos hb1],e05.trans e6⟩)⟩
theorem c80 (r:CIs h v C) (ok:C.Ok) (q:TIs h w T) (i:Int):CallsH Tryz.prog 80 #[v.v,.int .i64 i,w.v] h (Xt (.tuple #[.int .i64 (propQ C 98 i T).1,.int .i64 (propQ C 98 i T).2]) h):=by
 refine run80 v i w _ h ?_
 unfold VC80
 intro h1 h2
 have e1:Ext h h1:=Ext.box h _
 have e2:Ext h h2:=e1.trans (Ext.push h1 _)
 have hb:Rd h2 (some ⟨h.size,0,none⟩) 11 v.cs:=(boxC v 29).ext (Ext.push h1 _)
 have hw:Rd h2 (some ⟨h1.size,0,none⟩) 3 w.cs:=boxT w 49
 exact ldC hb (ldT hw (useX (c67 (r.ext e2) ok (q.ext e2) 98 i) fun h3 e3=>⟨_,_,rfl,rfl,e2.trans e3⟩))
theorem c29 (r:CIs h v C) (ok:C.Ok) (q:TIs h w T) (i:Int):CallsH Tryz.prog 29 #[v.v,.int .i64 i,w.v] h (Xt (.tuple #[.int .i64 (propQ C 106 i T).1,.int .i64 (propQ C 106 i T).2]) h):=by
 refine run29 v i w _ h ?_
 unfold VC29
 intro h1 h2
 have e1:Ext h h1:=Ext.box h _
 have e2:Ext h h2:=e1.trans (Ext.push h1 _)
 have hb:Rd h2 (some ⟨h.size,0,none⟩) 11 v.cs:=(boxC v 29).ext (Ext.push h1 _)
 have hw:Rd h2 (some ⟨h1.size,0,none⟩) 3 w.cs:=boxT w 49
 exact ldC hb (ldT hw (useX (c67 (r.ext e2) ok (q.ext e2) 106 i) fun h3 e3=>⟨_,_,rfl,rfl,e2.trans e3⟩))
end
end Go.Proofs.YtdpbdjdgdmheiaaGreat
namespace Go.Hx
structure PV where
 k:Int
 i:Int
def PV.cs (p:PV):List Value:=[.int .u8 p.k,.int .i64 p.i]
end Go.Hx
namespace Go.Proofs.YtdpbdjdgdmheiaaGreat
open Go.Hx Go.Deep
section
variable {H:Type} {enc:TypeId×Value->H} {W:World} {base:Nat} {held:Bool}
end
theorem tOk3P {T:Tr} (ok:T.Ok):T.init.length<9223372036854775807/\T.ins.length<9223372036854775807/\∀ r∈T.ins,r.length<9223372036854775807:=by
 have h1:=ok.init
 have h2:=ok.ins
 exact ⟨by omega,by omega,fun r hr=>by have:=ok.rows r hr;omega⟩
section
variable {h:Heap} {v:CV} {C:Circ} {w:TV} {T:Tr}
end
end Go.Proofs.YtdpbdjdgdmheiaaGreat
