/- ExploreSpreads, walked. No condition. -/
import Derived.Test.YtdpbdjdgdmheiaaGreatZF
import Derived.Test.YtdpbdjdgdmheiaaGreatXL
import Derived.Test.YtdpbdjdgdmheiaaGreatCR
import Derived.Test.YtdpbdjdgdmheiaaGreatEA
set_option linter.unusedVariables false
set_option linter.unusedSimpArgs false
namespace Go.Proofs.YtdpbdjdgdmheiaaGreat
open Go.Hx Go.Deep
section
variable {h h':Heap} {v:CV} {C:Circ} {x:Value} {i:Int}
noncomputable def sprL (C:Circ):List Int:=if fewE C=0 then depL (wdC C) else []
def SprM (C:Circ) (m:Int):Prop:=(fewE C=0->MostIs (wdC C) m)/\(fewE C≠0->m=0)
theorem SprM.uniq {m n:Int} (a:SprM C m) (b:SprM C n):m=n:=by
 by_cases h:fewE C=0
 ·exact (a.1 h).uniq (b.1 h)
 ·rw [a.2 h,b.2 h]
theorem SprP.get (s:SprP C h x h'):∃ a n c m,x=.tuple #[.agg #[.slice a n c,.int .i64 m],.int .i64 (fewE C)]/\Fr h 1 h' a n c (ints (sprL C))/\SprM C m:=by
 obtain ⟨e,⟨hz,a,n,c,m,rfl,f,hm⟩ | ⟨hz,rfl⟩⟩:=s
 ·exact ⟨a,n,c,m,by rw [hz],by rw [sprL,if_pos hz];exact f,fun _=>hm,fun h=>absurd hz h⟩
 ·exact ⟨none,0,0,0,rfl,by rw [sprL,if_neg hz];exact Fr.nil e,fun h=>absurd h hz,fun _=>rfl⟩
def BadV (C:Circ) (i z:Int):Prop:=(badE C i=0->∃ l,C.bads[i.toNat]?=some l/\BadIs (wdC C) (fun a=>lit a.vl l=true) z)/\(badE C i≠0->z=0)
theorem BadV.uniq {y z:Int} (a:BadV C i y) (b:BadV C i z):y=z:=by
 by_cases h:badE C i=0
 ·obtain ⟨l,h1,h2⟩:=a.1 h
  obtain ⟨l',h3,h4⟩:=b.1 h
  rw [h1] at h3
  cases h3
  exact h2.uniq h4
 ·rw [a.2 h,b.2 h]
theorem BadP.get (s:BadP C i h x h'):Ext h h'/\∃ z,x=.tuple #[.int .i64 z,.int .i64 (badE C i)]/\BadV C i z:=by
 obtain ⟨e,⟨hz,z,l,hl,rfl,b⟩ | ⟨hz,rfl⟩⟩:=s
 ·exact ⟨e,z,by rw [hz],fun _=>⟨l,hl,b⟩,fun h=>absurd hz h⟩
 ·exact ⟨e,0,rfl,fun h=>absurd h hz,fun _=>rfl⟩
def ShoT (C:Circ) (i:Int) (T:Tr) (e:Int):Prop:=(badE C i≠0/\T=Tr.zero/\e=badE C i)∨(badE C i=0/\∃ l,C.bads[i.toNat]?=some l/\((BadIs (wdC C) (fun a=>lit a.vl l=true) (-1)/\T=Tr.zero/\e=5) ∨
 ∃ d s:Nat,BadIs (wdC C) (fun a=>lit a.vl l=true) d/\(wdC C).st.find? (ldB (wdC C) (litP l) d)=some s/\T=ltT C l d s/\e=0))
theorem ShoT.uniq {T U:Tr} {e f:Int} (a:ShoT C i T e) (b:ShoT C i U f):T=U/\e=f:=by
 rcases a with ⟨h,rfl,rfl⟩ | ⟨h,l,hl,a⟩ <;> rcases b with ⟨k,rfl,rfl⟩ | ⟨k,l',kl,b⟩
 ·exact ⟨rfl,rfl⟩
 ·exact absurd k h
 ·exact absurd h k
 ·rw [hl] at kl
  cases kl
  rcases a with ⟨a1,rfl,rfl⟩ | ⟨d,s,a1,a2,rfl,rfl⟩ <;> rcases b with ⟨b1,rfl,rfl⟩ | ⟨d',s',b1,b2,rfl,rfl⟩
  ·exact ⟨rfl,rfl⟩
  ·have:=a1.uniq b1;omega
  ·have:=a1.uniq b1;omega
  ·obtain rfl:d=d':=by have:=a1.uniq b1;omega
   rw [a2] at b2
   cases b2
   exact ⟨rfl,rfl⟩
theorem ltP_len {W:Wd} {p:Arc->Bool}:∀ {d s:Nat},(ltP W p d s).length≤d+1
 | 0,s=>by unfold ltP;cases (W.arcs s).find? (tsB W p 0) <;> simp
 | d+1,s=>by
  unfold ltP
  cases (W.arcs s).find? (tsB W p (d+1)) with
  | none=>simp
  | some a=>have:=ltP_len (W:=W) (p:=p) (d:=d) (s:=a.nx);simp only [List.length_cons];omega
theorem ShoT.small {T:Tr} {e:Int} (a:ShoT C i T e):T.init.length<9223372036854775807/\T.ins.length<9223372036854775807/\∀ r∈T.ins,r.length<9223372036854775807:=by
 have z:Tr.zero.init.length<9223372036854775807/\Tr.zero.ins.length<9223372036854775807/\∀ r∈Tr.zero.ins,r.length<9223372036854775807:=⟨by decide,by decide,fun r hr=>by cases hr⟩
 rcases a with ⟨h,rfl,rfl⟩ | ⟨h,l,hl,⟨_,rfl,_⟩ | ⟨d,s,b,hf,rfl,_⟩⟩
 ·exact z
 ·exact z
 ·obtain ⟨hz,_⟩:=badE_0 h
  obtain ⟨hc,hL,hI⟩:=fewE_0 hz
  have hdn:d<2 ^ C.lats.length:=BadIs.le (wd_ok C) (P:=fun a=>lit a.vl l=true) b
  have hn256:2 ^ C.lats.length≤256:=Nat.pow_le_pow_right (n:=2) (by omega) hL
  refine ⟨by show (bitsN s C.lats.length).length<_;rw [bitsN_len];omega,?_,fun r hr=>?_⟩
  ·show ((ltP (wdC C) (litP l) d s).map _).length<_
   rw [List.length_map]
   have:=ltP_len (W:=wdC C) (p:=litP l) (d:=d) (s:=s)
   omega
  ·obtain ⟨a,_,rfl⟩:=List.mem_map.1 hr
   rw [bitsN_len];omega
theorem ShoP.get (s:ShoP C i h x h'):∃ tv T e,x=.tuple #[TV.v tv,.int .i64 e]/\TNew h h' tv T/\ShoT C i T e:=by
 obtain ⟨e,⟨hz,rfl⟩ | ⟨hz,l,hl,⟨b,rfl⟩ | ⟨d,s,tv,b,hf,rfl,tn⟩⟩⟩:=s
 ·exact ⟨_,_,_,rfl,TNew.zero e,.inl ⟨hz,rfl,rfl⟩⟩
 ·exact ⟨_,_,_,rfl,TNew.zero e,.inr ⟨hz,l,hl,.inl ⟨b,rfl,rfl⟩⟩⟩
 ·exact ⟨_,_,_,rfl,tn,.inr ⟨hz,l,hl,.inr ⟨d,s,b,hf,rfl,rfl⟩⟩⟩
theorem c15 (h:Heap):CallsH Tryz.prog 15 #[] h (Ret (.bool true) h):=run15 _ h ⟨rfl,rfl⟩
set_option maxRecDepth 4000 in
theorem c4 (r:CIs h v C) (ok:C.Ok):CallsH Tryz.prog 4 #[v.v,.int .i64 i] h (Xt (.bool true) h):=by
 refine run4 v i _ h ?_
 unfold VC4
 intro h1
 have e1:Ext h h1:=Ext.box h _
 have b1:Rd h1 (some ⟨h.size,0,none⟩) 11 v.cs:=boxC v 29
 refine use (c15 h1) ⟨true,rfl,BIf.f ?_⟩
 unfold J4_0
 refine ldC b1 ((c8 (r.ext e1) ok).mono ?_)
 rintro _ h3 ⟨v2,rfl,li,e3⟩
 refine ⟨_,_,_,_,_,_,_,_,_,_,_,_,_,_,_,_,_,_,_,_,_,_,_,_,_,_,_,_,_,_,_,rfl,?_⟩
 intro h4
 refine boxN (zs:=CV.zero.cs) (ws:=v2.cs) rfl (CV.one v2) fun h5 e5 b5=>?_
 have li5:=li.ext e5
 have e15:Ext h1 h5:=e3.trans e5
 refine ldC b5 ((c16 li5.cis ok).mono ?_)
 rintro _ h6 sp
 obtain ⟨sa,sn,sc,m,rfl,fa,hm⟩:=sp.get
 refine ⟨_,_,_,_,_,rfl,?_⟩
 intro h7
 refine boxN (zs:=[.slice none 0 0,.int .i64 0]) (ws:=[.slice sa sn sc,.int .i64 m]) rfl (by simp [Value.oneCell']) fun h8 e8 b8=>?_
 have e58:Ext h5 h8:=fa.ext.trans e8
 refine ldC (b1.ext (e15.trans e58)) ((c17 (r.ext (e1.trans (e15.trans e58))) ok).mono ?_)
 rintro _ h9 sp2
 obtain ⟨ta,tn,tc,m2,rfl,fb,hm2⟩:=sp2.get
 obtain rfl:=hm.uniq hm2
 refine ⟨_,_,_,_,_,rfl,?_⟩
 intro h10
 refine boxN (zs:=[.slice none 0 0,.int .i64 0]) (ws:=[.slice ta tn tc,.int .i64 m]) rfl (by simp [Value.oneCell']) fun h11 e11 b11=>?_
 have e8_11:Ext h8 h11:=fb.ext.trans e11
 have e5_11:=e58.trans e8_11
 refine ldC (b5.ext e5_11) ((c18 (li5.cis.ext e5_11) ok i).mono ?_)
 rintro _ h12 bp
 obtain ⟨e12,z,rfl,hz⟩:=bp.get
 have e5_12:=e5_11.trans e12
 refine ⟨_,_,rfl,ldC (b1.ext (e15.trans e5_12)) ((c19 (r.ext (e1.trans (e15.trans e5_12))) ok i).mono ?_)⟩
 rintro _ h13 bp2
 obtain ⟨e13,z2,rfl,hz2⟩:=bp2.get
 obtain rfl:=hz.uniq hz2
 have e5_13:=e5_12.trans e13
 refine ⟨_,_,rfl,ldC (b5.ext e5_13) ((c20 (li5.cis.ext e5_13) ok i).mono ?_)⟩
 rintro _ h14 shp
 obtain ⟨tv,T,et,rfl,tnw,hT⟩:=shp.get
 refine ⟨_,_,_,_,_,_,_,_,rfl,?_⟩
 intro h15
 refine boxN (zs:=TV.zero.cs) (ws:=tv.cs) rfl (by simp [TV.cs,Value.oneCell']) fun h16 e16 b16=>?_
 have e13_16:Ext h13 h16:=tnw.heap.trans e16
 have e5_16:=e5_13.trans e13_16
 refine ldC (b1.ext (e15.trans e5_16)) ((c21 (r.ext (e1.trans (e15.trans e5_16))) ok i).mono ?_)
 rintro _ h17 shp2
 obtain ⟨tw,T2,et2,rfl,tnw2,hT2⟩:=shp2.get
 obtain ⟨rfl,rfl⟩:=hT.uniq hT2
 refine ⟨_,_,_,_,_,_,_,_,rfl,?_⟩
 intro h18
 refine boxN (zs:=TV.zero.cs) (ws:=tw.cs) rfl (by simp [TV.cs,Value.oneCell']) fun h19 e19 b19=>?_
 have e16_19:Ext h16 h19:=tnw2.heap.trans e19
 have e11_19:Ext h11 h19:=(e12.trans e13).trans (e13_16.trans e16_19)
 have e8_19:=e8_11.trans e11_19
 have b8_19:=b8.ext e8_19
 have b11_19:=b11.ext e11_19
 have hsn:sn=(sprL C).length:=fa.rd.ilen.symm
 have hsl:(sprL C).length≤16384:=by
  unfold sprL
  split
  ·rename_i hz
   obtain ⟨hc,hL,hI⟩:=fewE_0 hz
   have hn256:2 ^ C.lats.length≤256:=Nat.pow_le_pow_right (n:=2) (by omega) hL
   rw [depL_len]
   show 2 ^ C.lats.length≤_
   omega
  ·simp
 refine ⟨_,_,_,b8_19.fld 0 rfl,_,_,_,b11_19.fld 0 rfl,use (c22 (fa.rd.ext (e8.trans e8_19)) (fb.rd.ext (e11.trans e11_19)) (by omega)) ⟨_,rfl,?_⟩⟩
 rw [decide_eq_true rfl]
 refine BIf.f ⟨_,b8_19.fld 1 rfl,_,b11_19.fld 1 rfl,fun _=>⟨fun _=>⟨fun _=>⟨fun _=>?_,fun h=>absurd rfl h⟩,fun h=>absurd rfl h⟩,fun h=>absurd rfl h⟩,fun h=>absurd rfl h⟩
 have b16_19:=b16.ext e16_19
 refine ldT (v:=tv) b16_19 (ldT (v:=tw) b19 (useX (c23 ((tnw.ext e16).ext e16_19).tis (tnw2.ext e19).tis hT.small) fun h20 e20=>⟨true,rfl,BIf.f ⟨fun _=>?_,fun h=>absurd rfl h⟩⟩))
 unfold J4_1
 have e5_20:Ext h5 h20:=(e5_16.trans e16_19).trans e20
 have fa20:Fr h5 1 h20 sa sn sc (ints (sprL C)):=fa.upd ((e8.trans e8_19).trans e20)
 refine ⟨_,_,_,(b8_19.ext e20).fld 0 rfl,(c24 fa20 (by omega) (-7)).mono ?_⟩
 rintro _ h21 ⟨rfl,vs',f21,u21⟩
 have hsalt:∀ ad,sa=some ad->h5.size≤ad.block/\ad.block<h6.size:=fun ad ha=>⟨fa.new ad ha,by have:=fa.own;rw [ha] at this;exact this.lt⟩
 have z6:h6.size≤h13.size:=Nat.le_trans e8.1 (Nat.le_trans e8_11.1 (Nat.le_trans e12.1 e13.1))
 have e16_20:=e16_19.trans e20
 have b16_21:Rd h21 (some ⟨h14.size,0,none⟩) 3 tv.cs:=(b16_19.ext e20).upd u21 fun ad ha ⟨ad',ha',hb'⟩=>by
  cases ha
  have:=(hsalt ad' ha').2
  have:=tnw.heap.1
  simp only at hb'
  omega
 have tn21:TNew h5 h21 tv T:=by
  obtain ⟨rows,hr,mm⟩:=((tnw.ext e16).ext e16_20).ex
  exact ⟨tnw.lp,rows,hr,mm.over e5_13 u21 fun b ⟨ad,ha,hb⟩=>by have:=hsalt ad ha;omega⟩
 refine ⟨rfl,ldT (v:=tv) b16_21 ((c25 tn21 (.refl h21) hT.small).mono ?_)⟩
 rintro _ h22 ⟨rfl,u22⟩
 have e5_22:Ext h5 h22:=f21.ext.newer u22 fun b hb hS=>by have:=hS.1;omega
 have e1_22:=e15.trans e5_22
 refine ⟨rfl,ldC (b5.ext e5_22) (ldC (b1.ext e1_22) (useX (c12 (li5.ext e5_22) (r.ext (e1.trans e1_22)) (Circ.Ok.sm ok)) fun h23 e23=>⟨true,rfl,BIf.t ?_⟩))⟩
 exact useX (c14) fun h24 e24=>⟨true,rfl,rfl,((e1.trans e1_22).trans e23).trans e24⟩
end
end Go.Proofs.YtdpbdjdgdmheiaaGreat
