/- Words and facts that the claim's proof leans on. No condition. -/
import Derived.Test.YtdpbdjdgdmheiaaSA
set_option linter.unusedVariables false
set_option linter.unusedSimpArgs false
namespace Go.Hx
theorem Far.ext {h h1:Heap} {p q:Nat} {P:Heap->Prop} (f:Far h p q P) (u:Ext h h1) (hq:q≤h.size):Far h1 p q P:=f.upd u (fun _ _ _ h=>h) hq
structure MosIs (h:Heap) (a:Option Addr) (n c:Nat) (L:List Mo):Prop where
 len:L.length=n
 cap:n≤c
 ex:∃ ms:List MV,Rd h a (n*4) (ms.flatMap MV.cs)/\ms.length=n/\∀ (k:Nat) m M,ms[k]?=some m->L[k]?=some M->MoIs h m M
theorem MosIs.ext {h h':Heap} {a:Option Addr} {n c:Nat} {L:List Mo} (r:MosIs h a n c L) (u:Ext h h'):MosIs h' a n c L:=
 let ⟨ms,h1,h2,h3⟩:=r.ex;⟨r.len,r.cap,ms,h1.ext u,h2,fun k m M hm hM=>(h3 k m M hm hM).ext u⟩
theorem MosIs.nil {h:Heap}:MosIs h none 0 0 []:=⟨rfl,Nat.le_refl _,[],.nil,rfl,fun k m M hm=>by simp at hm⟩
theorem MosIs.elem {h:Heap} {a:Option Addr} {n c:Nat} {L:List Mo} (r:MosIs h a n c L) {i:Nat} (hi:i<n) {K:Addr->Prop} (hK:∀ ad (m:MV) (hl:i<L.length),Rd h (some (ad.add (i*4))) 4 m.cs->MoIs h m L[i]->K ad):AtP a K:=by
 obtain ⟨ms,h1,h2,h3⟩:=r.ex
 have hl:=r.len
 exact h1.elem MV.csl (by omega) (i:=i) hi fun ad hl1 re=>hK ad ms[i] (by omega) re (h3 i _ _ (List.getElem?_eq_getElem hl1) (List.getElem?_eq_getElem (by omega)))
end Go.Hx
namespace Go.Proofs.Ytdpbdjdgdmheiaa
open Go.Hx Go.Deep
noncomputable def movs (C:Circ):List Bool->List (List Bool)->List Mo
 | _,[]=>[]
 | st,r::rs=>moOf C st (valsOf C st r)::movs C (nextL C (valsOf C st r)) rs
theorem movs_len {C:Circ}:∀ {rs:List (List Bool)} {st:List Bool},(movs C st rs).length=rs.length
 | [],_=>rfl
 | r::rs,st=>by rw [movs,List.length_cons,List.length_cons,movs_len]
open Classical in
noncomputable def runR (C:Circ) (T:Tr):List Mo×Int:=if (chk C).2≠0 then ([],(chk C).2) else if Fit C T then (movs C T.init T.ins,0) else ([],4)
def RunP (C:Circ) (T:Tr) (h:Heap) (w:Value) (h':Heap):Prop:=Ext h h'/\∃ a n c,w=.tuple #[.slice a n c,.int .i64 (runR C T).2]/\MosIs h' a n c (runR C T).1
section
variable {h:Heap} {v:CV} {C:Circ} {w:TV} {T:Tr}
theorem run_bad {C:Circ} {T:Tr} {h h':Heap} {e:Int} (he:runR C T=([],e)) (u:Ext h h'):RunP C T h (.tuple #[.slice none 0 0,.int .i64 e]) h':=⟨u,none,0,0,by rw [he],by rw [he];exact .nil⟩
theorem c53 (r:CIs h v C) (ok:C.Ok) (q:TIs h w T):CallsH Try.prog 53 #[v.v,w.v] h (RunP C T h):=by
 have ql:=q.i.ilen
 have qs:=q.s.len
 have qlp:=q.lp
 have q1:=r.len.i
 have q2:=r.len.l
 refine run53 v w _ h ?_
 unfold VC53
 intro h1 h2
 have e1:Ext h h1:=Ext.box h _
 have e2:Ext h h2:=e1.trans (Ext.push h1 _)
 have hb:Rd h2 (some ⟨h.size,0,none⟩) 11 v.cs:=(boxC v 29).ext (Ext.push h1 _)
 have hw:Rd h2 (some ⟨h1.size,0,none⟩) 3 w.cs:=boxT w 53
 refine ldC hb ((c69 (r.ext e2) ok).mono ?_)
 rintro _ h3 ⟨e3,⟨hz,out,k,v2,rfl,rr⟩ | ⟨hz,rfl⟩⟩
 rotate_left
 ·exact ⟨_,_,rfl,fun h=>absurd h hz,fun _=>run_bad (by unfold runR;rw [if_pos hz]) (e2.trans e3)⟩
 refine ⟨_,_,rfl,fun _=>?_,fun h=>absurd rfl h⟩
 have e03:=e2.trans e3
 have hw3:=hw.ext e3
 have hb3:=hb.ext e3
 have bad:∀ h',Ext h h'->¬ Fit C T->RunP C T h (.tuple #[.slice none 0 0,.int .i64 4]) h':=fun h' u hn=>run_bad (by unfold runR;rw [if_neg (by simp [hz]),if_neg hn]) u
 refine ⟨_,_,_,hw3.fld 1 rfl,fun k2=>bad _ e03 fun f=>by have:=f.2.1;omega,fun k2=>⟨fun k3=>bad _ e03 fun f=>by have:=f.2.2.1;omega,fun k3=>⟨_,hw3.fld 2 rfl,fun k4=>bad _ e03 fun f=>by have:=f.2.2.2.1;omega,fun k4=>⟨_,hw3.fld 2 rfl,fun k5=>bad _ e03 fun f=>by have:=f.2.2.2.2.1;omega,fun k5=>?_⟩⟩⟩⟩
 refine ⟨_,_,_,hw3.fld 0 rfl,_,_,_,hb3.fld 2 rfl,fun k1=>?_,fun k1=>bad _ e03 fun f=>by have:=f.1;omega⟩
 refine ⟨_,_,_,hw3.fld 1 rfl,?_⟩
 have q3:=q.ext e03
 refine LoopT.to (n:=w.s.n) (by omega) (fun i h'=>h'=h3/\∀ r∈T.ins.take i,r.length=C.ins.length) ⟨rfl,fun r hr=>by simp at hr⟩ ?_
 rintro i h3x K hi ⟨hh,hI⟩ hK
 replace hh:=hh.symm
 subst hh
 refine ⟨fun hlt=>?_,fun hlt=>?_⟩
 ·refine ⟨by omega,hlt,q3.s.get (i:=i) (by omega) fun ad hl1 x hc hr hxc hx1 hxn=>⟨_,_,_,hc,_,_,_,hb3.fld 1 rfl,fun e=>hK _ (by omega) ⟨rfl,fun r hr=>?_⟩,fun e=>bad _ e03 fun f=>?_⟩⟩
  ·rw [List.take_succ_eq_append_getElem hl1,List.mem_append] at hr
   rcases hr with hr | hr
   ·exact hI r hr
   ·rw [List.mem_singleton] at hr;subst hr;omega
  ·have:=f.2.2.2.2.2 _ (List.getElem_mem hl1)
   omega
 rw [List.take_of_length_le (by omega)] at hI
 have hFit:Fit C T:=⟨by omega,by omega,by omega,by omega,by omega,hI⟩
 clear hK K hlt hi i
 refine ⟨Int.le_refl _,by omega,by omega,?_⟩
 intro h8
 have f8:Fr h3 4 h8 (some ⟨h3.size,0,none⟩) 0 w.s.n (([]:List MV).flatMap MV.cs):=by
  have:=Fr.push (sz:=4) (.refl h3) (zeroRow #[.slice none 0 0,.bool false,.slice none 0 0,.slice none 0 0] (w.s.n*4)) 116 0 w.s.n (Nat.zero_le _) (by simp [zeroRow])
  exact this
 have e8:=f8.ext
 refine ⟨_,_,_,(hw3.ext e8).fld 0 rfl,_,_,_,(hw3.ext e8).fld 1 rfl,?_⟩
 have hv2:=rr.cis.len.l
 refine LoopT.to3 (n:=w.s.n) (by omega) (fun i s z h'=>∃ (ms:List MV) (L:List Mo) (st:List Bool),L++movs C st (T.ins.drop i)=movs C T.init T.ins/\ms.length=i/\L.length=i/\s.2.1=i/\st.length=C.lats.length/\z.2.1=v.l.n/\Fr h3 4 h' s.1 i s.2.2 (ms.flatMap MV.cs)/\Rd h' z.1 z.2.1 (bools st) /\
  ∀ (k:Nat) m M,ms[k]?=some m->L[k]?=some M->∃ p q,Far h' p q (fun h''=>MoIs h'' m M)/\q≤h'.size/\∀ ad,s.1=some ad->¬ (p≤ad.block/\ad.block<q)) ⟨[],[],T.init,rfl,rfl,rfl,rfl,by omega,by simp only;omega,f8,q3.i.ext e8,fun k m M hm=>by simp at hm⟩ ?_
 rintro i ⟨oa,on,oc⟩ ⟨za,zn,zc⟩ h10 K hi ⟨ms,L,st,hL,hms,hLl,hon,hst,hzn,f,rz,hfar⟩ hK
 dsimp only at hon hzn f rz hfar ⊢
 subst hon
 have e10:=f.ext
 have rr10:=rr.ext e10
 have hs10:=e10.1
 refine ⟨fun hlt=>?_,fun hlt=>?_⟩
 ·refine ⟨by omega,hlt,(q3.s.ext e10).get (i:=on) (by omega) fun ad hl1 x hc hr hxc hx1 hxn=>⟨_,_,_,hc,?_⟩⟩
  have hxl:T.ins[on].length=C.ins.length:=hI _ (List.getElem_mem hl1)
  refine (c70 rr10 rz hr (by omega) (by omega)).mono ?_
  rintro _ h11 ⟨va,vc,rfl,f11⟩
  rw [hx1] at f11
  refine ⟨_,_,_,rfl,(c84 (rr10.ext f11.ext) (rz.ext f11.ext) (by have:=(chk_bounds hz).2.2.1;omega) (Rd.one f11.own.rd) rfl).mono ?_⟩
  rintro _ h12 ⟨m,rfl,e12,mn⟩
  refine ⟨_,_,_,_,_,_,_,_,_,_,rfl,?_⟩
  intro h13
  have e13:Ext h12 h13:=Ext.push h12 _
  have r13:=(Fr.lit (.refl h12) m.cs 116 4 rfl).rd
  have e10_13:=(f11.ext.trans e12).trans e13
  have z1:=f11.ext.1
  have z2:=e12.1
  have z3:=e13.1
  have olt:∀ ad,oa=some ad->ad.block<h10.size:=fun ad ha=>by have:=f.own;rw [ha] at this;exact this.lt
  refine ⟨m.cs,r13.read,rfl,(f.upd e10_13).app rfl (MV.one m) (by omega) fun a' c' h14 f14 u14 hor=>?_⟩
  have rv14:Rd h14 va (C.mx+1).toNat (bools (valsOf C st T.ins[on])):=((Rd.one f11.own.rd).ext (e12.trans e13)).upd u14 fun ad ha ⟨ad',ha',e⟩=>by
   have:=f11.new ad ha
   have:=olt ad' ha'
   omega
  have e14:Ext h3 h14:=f14.ext
  refine (c43 (rr.ext e14) rv14 rfl).mono ?_
  rintro _ h15 ⟨na,nc,rfl,f15⟩
  refine ⟨_,_,_,rfl,hK _ _ _ (by omega) ⟨ms++[m],L++[moOf C st (valsOf C st T.ins[on])],nextL C (valsOf C st T.ins[on]),?_,by simp [hms],by simp [hLl],rfl,by simp [nextL],by simp only;omega,?_,Rd.one f15.own.rd,?_⟩⟩
  ·rw [<- hL,List.drop_eq_getElem_cons hl1,movs,List.append_assoc];rfl
  ·have:(ms++[m]).flatMap MV.cs=ms.flatMap MV.cs++m.cs:=by simp [List.flatMap_append]
   rw [this]
   exact f14.upd f15.ext
  ·intro k m' M' hm hM
   have z4:=u14.1
   rcases Nat.lt_or_ge k on with hk | hk
   ·rw [List.getElem?_append_left (by omega)] at hm hM
    obtain ⟨p,q,hf,hq,hno⟩:=hfar k m' M' hm hM
    refine ⟨p,q,((hf.ext e10_13 hq).upd u14 (fun b h1 h2 ⟨ad,ha,e⟩=>hno ad ha (by omega)) (by omega)).ext f15.ext (by omega),by have:=f15.ext.1;omega,fun ad ha hh=>?_⟩
    replace ha:a'=some ad:=ha
    rcases hor with rfl | ⟨ad',ha',hge⟩
    ·exact hno ad ha hh
    ·rw [ha] at ha'
     obtain rfl:=Option.some.inj ha'
     omega
   ·have hk2:k=on:=by
     have:=(List.getElem?_eq_some_iff.1 hm).1
     simp at this;omega
    subst hk2
    rw [List.getElem?_append_right (by omega)] at hm hM
    simp [hms] at hm
    simp [hLl] at hM
    subst hm hM
    refine ⟨h11.size,h12.size,((Far.ext mn e13 (Nat.le_refl _)).upd u14 (fun b h1 h2 ⟨ad,ha,e⟩=>by have:=olt ad ha;omega) (by omega)).ext f15.ext (by omega),by have:=f15.ext.1;omega,fun ad ha hh=>?_⟩
    replace ha:a'=some ad:=ha
    rcases hor with rfl | ⟨ad',ha',hge⟩
    ·have:=olt ad ha;omega
    ·rw [ha] at ha'
     obtain rfl:=Option.some.inj ha'
     omega
 ·have hin:on=w.s.n:=by omega
  subst hin
  have hd:T.ins.drop w.s.n=[]:=List.drop_of_length_le (by omega)
  rw [hd,movs,List.append_nil] at hL
  have hR:runR C T=(movs C T.init T.ins,0):=by unfold runR;rw [if_neg (by simp [hz]),if_pos hFit]
  refine ⟨e03.trans e10,oa,w.s.n,oc,by rw [hR],?_⟩
  rw [hR,<- hL]
  exact ⟨hLl,f.own.cap,ms,f.own.rd,hms,fun k m M hm hM=>(hfar k m M hm hM).choose_spec.choose_spec.1.now⟩
end
end Go.Proofs.Ytdpbdjdgdmheiaa
namespace Go.Proofs.Ytdpbdjdgdmheiaa
open Go.Hx Go.Deep
def StepOk (C:Circ) (st row:List Bool):Prop:=(chk C).2=0/\st.length=C.lats.length/\row.length=C.ins.length
open Classical in
noncomputable def stepE (C:Circ) (st row:List Bool):Int:=if (chk C).2≠0 then (chk C).2 else if StepOk C st row then 0 else 4
theorem stepE_ne {C:Circ} {st row:List Bool} (h:¬ StepOk C st row):stepE C st row≠0:=by
 unfold stepE
 split
 ·assumption
 ·first | omega | (rw [if_neg h];omega)
section
variable {h:Heap} {v:CV} {C:Circ} {sa ra:Option Addr} {sn sc rn rc:Nat} {st row:List Bool}
theorem c41n (r:CIs h v C) (ok:C.Ok) (rs:Rd h sa sn (bools st)) (rw':Rd h ra rn (bools row)) :
  CallsH Try.prog 41 #[v.v,.slice sa sn sc,.slice ra rn rc] h fun w h'=>Ext h h'/\((StepOk C st row/\∃ k v' out a c,w=.tuple #[.pointer (some k),.slice a (C.mx+1).toNat c,.int .i64 0]/\RunR h' k v' C out/\Fr h 1 h' a (C.mx+1).toNat c (bools (valsOf C st row))) ∨
   (¬ StepOk C st row/\w=.tuple #[.pointer none,.slice none 0 0,.int .i64 (stepE C st row)])):=by
 have q1:=r.len.i
 have q2:=r.len.l
 have ql:=rs.ilen
 have qr:=rw'.ilen
 refine run41 v sa sn sc ra rn rc _ h ?_
 unfold VC41
 intro h1
 have e1:Ext h h1:=Ext.box h _
 have hb:Rd h1 (some ⟨h.size,0,none⟩) 11 v.cs:=boxC v 29
 refine ldC hb ((c69 (r.ext e1) ok).mono ?_)
 rintro _ h3 ⟨e3,⟨hz,out,k,v2,rfl,rr⟩ | ⟨hz,rfl⟩⟩
 rotate_left
 ·exact ⟨_,_,rfl,fun h=>absurd h hz,fun _=>⟨e1.trans e3,.inr ⟨fun h=>hz h.1,by unfold stepE;rw [if_pos hz]⟩⟩⟩
 have e03:=e1.trans e3
 have no:¬ StepOk C st row->stepE C st row=4:=fun h=>by unfold stepE;rw [if_neg (by simp [hz]),if_neg h]
 refine ⟨_,_,rfl,fun _=>⟨_,_,_,(hb.ext e3).fld 2 rfl,fun k1=>⟨_,_,_,(hb.ext e3).fld 1 rfl,fun k2=>?_,fun k2=>?_⟩,fun k1=>?_⟩,fun h=>absurd rfl h⟩
 ·refine (c70 rr (rs.ext e03) (rw'.ext e03) (by omega) (by omega)).mono ?_
  rintro _ h4 ⟨a,c,rfl,f⟩
  exact ⟨_,_,_,rfl,e03.trans f.ext,.inl ⟨⟨hz,by omega,by omega⟩,k,v2,out,a,c,rfl,rr.ext f.ext,f.base e03⟩⟩
 ·have hn:¬ StepOk C st row:=fun h=>by have:=h.2.2;omega
  exact ⟨e03,.inr ⟨hn,by rw [no hn]⟩⟩
 ·have hn:¬ StepOk C st row:=fun h=>by have:=h.2.1;omega
  exact ⟨e03,.inr ⟨hn,by rw [no hn]⟩⟩
theorem c41 (r:CIs h v C) (ok:C.Ok) (rs:Rd h sa sn (bools st)) (rw':Rd h ra rn (bools row)) :
  CallsH Try.prog 41 #[v.v,.slice sa sn sc,.slice ra rn rc] h fun w h'=>Ext h h'/\((StepOk C st row/\∃ k v' out a c,w=.tuple #[.pointer (some k),.slice a (C.mx+1).toNat c,.int .i64 0]/\RunR h' k v' C out/\Rd h' a (C.mx+1).toNat (bools (valsOf C st row))) ∨
   (¬ StepOk C st row/\w=.tuple #[.pointer none,.slice none 0 0,.int .i64 (stepE C st row)])):=
 (c41n r ok rs rw').mono fun _ _ ⟨e,o⟩=>⟨e,o.imp (fun ⟨s,k,v',out,a,c,q1,q2,q3⟩=>⟨s,k,v',out,a,c,q1,q2,Rd.one q3.own.rd⟩) fun x=>x⟩
theorem c19 (r:CIs h v C) (ok:C.Ok) (rs:Rd h sa sn (bools st)) (rw':Rd h ra rn (bools row)) :
  CallsH Try.prog 19 #[v.v,.slice sa sn sc,.slice ra rn rc] h fun w h'=>Ext h h'/\((StepOk C st row/\∃ a n c,w=.tuple #[.slice a n c,.int .i64 0]/\Rd h' a n (bools (nextL C (valsOf C st row))))∨(¬ StepOk C st row/\w=.tuple #[.slice none 0 0,.int .i64 (stepE C st row)])):=by
 refine run19 v sa sn sc ra rn rc _ h ?_
 unfold VC19
 intro h1
 have e1:Ext h h1:=Ext.box h _
 have hb:Rd h1 (some ⟨h.size,0,none⟩) 11 v.cs:=boxC v 29
 refine ldC hb ((c41 (r.ext e1) ok (rs.ext e1) (rw'.ext e1)).mono ?_)
 rintro _ h3 ⟨e3,⟨hs,k,v',out,a,c,rfl,rr,rv⟩ | ⟨hz,rfl⟩⟩
 ·refine ⟨_,_,_,_,_,rfl,fun _=>(c43 rr rv rfl).mono ?_,fun h=>absurd rfl h⟩
  rintro _ h4 ⟨a',c',rfl,f⟩
  exact ⟨_,_,_,rfl,(e1.trans e3).trans f.ext,.inl ⟨hs,_,_,_,rfl,Rd.one f.own.rd⟩⟩
 ·exact ⟨_,_,_,_,_,rfl,fun h=>absurd h (stepE_ne hz),fun _=>⟨e1.trans e3,.inr ⟨hz,rfl⟩⟩⟩
end
def iniF:List L3->List Bool->Nat->Option Nat
 | x::r,b::s,i=>if x.c<2/\b≠decide (x.c=1) then some i else iniF r s (i+1)
 | _,_,_=>none
theorem iniF_drop {L:List L3} {S:List Bool} {i:Nat} (hi:i<L.length) (hs:i<S.length):iniF (L.drop i) (S.drop i) i=if L[i].c<2/\S[i]≠decide (L[i].c=1) then some i else iniF (L.drop (i+1)) (S.drop (i+1)) (i+1):=by
 rw [List.drop_eq_getElem_cons hi,List.drop_eq_getElem_cons hs,iniF]
theorem iniF_end {L:List L3} {S:List Bool} {i:Nat} (hi:L.length≤i):iniF (L.drop i) (S.drop i) i=none:=by
 rw [List.drop_of_length_le hi];rfl
def brkF:List Mo->Nat->Option Nat
 | [],_=>none
 | m::r,i=>if m.ok=false then some i else brkF r (i+1)
theorem brkF_drop {L:List Mo} {i:Nat} (hi:i<L.length):brkF (L.drop i) i=if L[i].ok=false then some i else brkF (L.drop (i+1)) (i+1):=by
 rw [List.drop_eq_getElem_cons hi,brkF]
noncomputable def runQ (C:Circ) (T:Tr):List Mo×Int×Int:=
 if (runR C T).2≠0 then ([],0,(runR C T).2) else match iniF C.lats T.init 0 with
 | some i=>([],(i:Int),134)
 | none=>match brkF (runR C T).1 0 with
  | some i=>([],(i:Int),130)
  | none=>((runR C T).1,0,0)
theorem runR_ok {C:Circ} {T:Tr} (h:(runR C T).2=0):(chk C).2=0/\Fit C T/\runR C T=(movs C T.init T.ins,0):=by
 unfold runR at h ⊢
 split at h
 ·rename_i hc;exact absurd h hc
 ·rename_i hc
  split at h
  ·rename_i hf
   rw [if_neg hc,if_pos hf]
   exact ⟨Decidable.not_not.1 hc,hf,rfl⟩
  ·simp at h
section
variable {h:Heap} {v:CV} {C:Circ} {w:TV} {T:Tr} {sa:Option Addr} {sn sc:Nat} {st:List Bool}
def RunQ (C:Circ) (T:Tr) (h:Heap) (w:Value) (h':Heap):Prop:=Ext h h'/\∃ a n c,w=.tuple #[.slice a n c,.int .i64 (runQ C T).2.1,.int .i64 (runQ C T).2.2]/\MosIs h' a n c (runQ C T).1
theorem runq_bad {C:Circ} {T:Tr} {h h':Heap} {at_ e:Int} (he:runQ C T=([],at_,e)) (u:Ext h h'):RunQ C T h (.tuple #[.slice none 0 0,.int .i64 at_,.int .i64 e]) h':=⟨u,none,0,0,by rw [he],by rw [he];exact .nil⟩
theorem c99 (r:CIs h v C) (ok:C.Ok) (q:TIs h w T):CallsH Try.prog 99 #[v.v,w.v] h (RunQ C T h):=by
 have q2:=r.len.l
 have ql:=q.i.ilen
 refine run99 v w _ h ?_
 unfold VC99
 intro h1 h2
 have e1:Ext h h1:=Ext.box h _
 have e2:Ext h h2:=e1.trans (Ext.push h1 _)
 have hb:Rd h2 (some ⟨h.size,0,none⟩) 11 v.cs:=(boxC v 29).ext (Ext.push h1 _)
 have hw:Rd h2 (some ⟨h1.size,0,none⟩) 3 w.cs:=boxT w 53
 refine ldC hb (ldT hw ((c53 (r.ext e2) ok (q.ext e2)).mono ?_))
 rintro _ h3 ⟨e3,ma,mn,mc,rfl,mi⟩
 refine ⟨_,_,_,_,rfl,fun hz=>?_,fun hz=>runq_bad (by unfold runQ;rw [if_pos hz]) (e2.trans e3)⟩
 obtain ⟨hchk,hfit,hR⟩:=runR_ok hz
 have e03:=e2.trans e3
 refine ⟨_,_,_,(hb.ext e3).fld 2 rfl,?_⟩
 have n1:v.l.n≤16384:=by have:=(chk_bounds hchk).2.2.1;omega
 have hil:T.init.length=C.lats.length:=hfit.1
 refine LoopT.to (n:=v.l.n) (by omega) (fun i h'=>Ext h3 h'/\iniF C.lats T.init 0=iniF (C.lats.drop i) (T.init.drop i) i) ⟨.refl _,rfl⟩ ?_
 rintro i h4 K hi ⟨e4,hI⟩ hK
 refine ⟨fun hlt=>?_,fun hlt=>?_⟩
 ·refine ⟨by omega,hlt,(r.l.ext (e03.trans e4)).elem L3.csl (by omega) (i:=i) (by omega) fun ad hl1 re=>⟨_,_,_,re.cells,?_⟩⟩
  have his:i<T.init.length:=by omega
  rw [iniF_drop hl1 his] at hI
  have nx:∀ h',Ext h4 h'->¬ (C.lats[i].c<2/\T.init[i]≠decide (C.lats[i].c=1))->K (IntKind.wrap .i64 (i+1)) h':=fun h' e hn=>hK _ (by omega) ⟨e4.trans e,by rw [if_neg hn] at hI;exact hI⟩
  have no:∀ h',Ext h4 h'->(C.lats[i].c<2/\T.init[i]≠decide (C.lats[i].c=1))->RunQ C T h (.tuple #[.slice none 0 0,.int .i64 (i:Int),.int .i64 134]) h':=fun h' e hp=>runq_bad (by unfold runQ;rw [if_neg (by simp [hz]),hI,if_pos hp]) ((e03.trans e4).trans e)
  refine boxN (zs:=[.int .i64 0,.int .i64 0,.int .i64 0]) (ws:=L3.cs C.lats[i]) rfl (by simp [Value.oneCell']) fun h5 e5 b5=>⟨_,b5.fld 2 rfl,fun hc=>⟨_,_,_,((hw.ext e3).ext (e4.trans e5)).fld 0 rfl,by omega,by omega,(q.i.ext ((e03.trans e4).trans e5)).getn (i:=i) (by omega) fun ad2 _ hc2=>⟨_,hc2,_,b5.fld 2 rfl,fun hc1=>⟨fun ht=>nx _ e5 ?_,fun ht=>no _ e5 ⟨hc,?_⟩⟩,fun hc1=>⟨fun ht=>nx _ e5 ?_,fun ht=>no _ e5 ⟨hc,?_⟩⟩⟩⟩,fun hc=>nx _ e5 fun h=>hc h.1⟩
  ·rw [decide_eq_true hc1];exact fun h=>h.2 ht
  ·rw [decide_eq_true hc1];exact ht
  ·rw [decide_eq_false hc1];exact fun h=>h.2 ht
  ·rw [decide_eq_false hc1];exact ht
 ·rw [iniF_end (by omega)] at hI
  have mi4:=mi.ext e4
  have ml:=mi.len
  have mnl:mn≤512:=by have:=hfit.2.2.1;rw [hR,movs_len] at ml;omega
  refine LoopT.to2 (n:=mn) (by omega) (fun i s h'=>h'=h4/\s = -1/\brkF (runR C T).1 0=brkF ((runR C T).1.drop i) i) ⟨rfl,rfl,rfl⟩ ?_
  clear K hK
  rintro j s h5 K hj ⟨hh,rfl,hB⟩ hK
  replace hh:=hh.symm
  subst hh
  refine ⟨fun hlt=>?_,fun hlt=>?_⟩
  ·refine ⟨by omega,by omega,mi4.elem (i:=j) (by omega) fun ad m hl1 re mo=>⟨_,re.fld 1 rfl,?_⟩⟩
   rw [brkF_drop hl1] at hB
   rw [mo.ok]
   cases hok:(runR C T).1[j].ok with
   | false=>
    refine BIf.t ⟨fun _=>?_,fun h=>absurd (by omega) h⟩
    refine runq_bad ?_ (e03.trans e4)
    unfold runQ
    rw [if_neg (by simp [hz]),hI,hB,if_pos hok]
   | true=>exact BIf.f (hK _ _ (by omega) ⟨rfl,rfl,by rw [if_neg (by simp [hok])] at hB;exact hB⟩)
  ·refine ⟨fun h=>absurd h (by omega),fun _=>?_⟩
   have hd:(runR C T).1.drop j=[]:=List.drop_of_length_le (by omega)
   rw [hd,brkF] at hB
   have hQ:runQ C T=((runR C T).1,0,0):=by unfold runQ;rw [if_neg (by simp [hz]),hI,hB]
   exact ⟨e03.trans e4,ma,mn,mc,by rw [hQ],by rw [hQ];exact mi4⟩
end
end Go.Proofs.Ytdpbdjdgdmheiaa
namespace Go.Proofs.Ytdpbdjdgdmheiaa
open Go.Hx Go.Deep
def lastM (L:List Mo):Mo:=L.getD (L.length-1) ⟨[],false,[],[]⟩
theorem runQ_ok {C:Circ} {T:Tr} (h:(runQ C T).2.2=0):(chk C).2=0/\Fit C T/\runQ C T=(movs C T.init T.ins,0,0)/\iniF C.lats T.init 0=none/\brkF (movs C T.init T.ins) 0=none:=by
 unfold runQ at h ⊢
 split at h
 ·rename_i hc;exact absurd h hc
 ·rename_i hc
  obtain ⟨h1,h2,h3⟩:=runR_ok (Decidable.not_not.1 hc)
  rw [if_neg hc]
  cases hi:iniF C.lats T.init 0 with
  | some i=>rw [hi] at h;simp at h
  | none=>
   rw [hi] at h
   rw [h3] at h ⊢
   simp only at h ⊢
   cases hb:brkF (movs C T.init T.ins) 0 with
   | some i=>rw [hb] at h;simp at h
   | none=>exact ⟨h1,h2,by simp,by simp,by simp⟩
open Classical in
noncomputable def badQ (C:Circ) (i:Int) (T:Tr):Int×Int:=if (runQ C T).2.2≠0 then ((runQ C T).2.1,(runQ C T).2.2) else ((T.ins.length:Int)-1,if i∈(lastM (runQ C T).1).bads then 0 else 131)
section
variable {h:Heap} {v:CV} {C:Circ} {w:TV} {T:Tr} {a b:Option Addr} {n c m d:Nat}
theorem c116 {l:List Int} (r:Rd h a n (ints l)) (hn:n<9223372036854775807) (x:Int):CallsH Try.prog 116 #[.slice a n c,.int .i64 x] h fun w h'=>h'=h/\∃ z:Int,w=.int .i64 z/\(0≤z↔x∈l):=by
 have hl:=r.ilen
 refine run116 a n c x _ h (LoopT.to (n:=n) hn (fun i h'=>h'=h/\x∉l.take i) ⟨rfl,by simp⟩ ?_)
 rintro i _ K hi ⟨rfl,hI⟩ hK
 refine ⟨fun hlt=>⟨by omega,hlt,r.getn (i:=i) (by omega) fun ad hl1 hc=>⟨_,hc,fun e=>⟨rfl,_,rfl,iff_of_true (by omega) (e▸List.getElem_mem hl1)⟩,fun e=>hK _ (by omega) ⟨rfl,?_⟩⟩⟩,fun hlt=>⟨rfl,_,rfl,iff_of_false (by omega) ?_⟩⟩
 ·rw [List.take_succ_eq_append_getElem hl1,List.mem_append,List.mem_singleton]
  exact fun h=>h.elim hI e
 ·rwa [List.take_of_length_le (by omega)] at hI
theorem c100 {l:List Int} (r:Rd h a n (ints l)) (hn:n<9223372036854775807) (x:Int):CallsH Try.prog 100 #[.slice a n c,.int .i64 x] h (Ret (.bool (decide (x∈l))) h):=by
 refine run100 a n c x _ h ((c116 r hn x).mono ?_)
 rintro _ _ ⟨rfl,z,rfl,hz⟩
 exact ⟨z,rfl,fun h0=>⟨by rw [decide_eq_true (hz.1 h0)],rfl⟩,fun h0=>⟨by rw [decide_eq_false (mt hz.2 h0)],rfl⟩⟩
theorem c101 {A B:List Bool} (r:Rd h a n (bools A)) (s:Rd h b m (bools B)) (hn:n<9223372036854775807):CallsH Try.prog 101 #[.slice a n c,.slice b m d] h (Ret (.bool (decide (A=B))) h):=by
 have la:=r.ilen
 have lb:=s.ilen
 refine run101 a n c b m d _ h ⟨fun hl=>?_,fun hl=>⟨by rw [decide_eq_false];intro e;subst e;omega,rfl⟩⟩
 refine LoopT.to (n:=n) hn (fun i h'=>h'=h/\∀ j,j<i->A[j]?=B[j]?) ⟨rfl,fun j hj=>by omega⟩ ?_
 rintro i _ K hi ⟨rfl,hI⟩ hK
 refine ⟨fun hlt=>?_,fun hlt=>?_⟩
 ·refine ⟨by omega,hlt,r.getn (i:=i) (by omega) fun ad hl1 hc=>⟨_,hc,by omega,by omega,s.getn (i:=i) (by omega) fun ad2 hl2 hc2=>⟨_,hc2,fun e=>?_,fun e=>?_⟩⟩⟩
  ·refine hK _ (by omega) ⟨rfl,fun j hj=>?_⟩
   by_cases hji:j=i
   ·subst hji;rw [List.getElem?_eq_getElem (show j<A.length from hl1),List.getElem?_eq_getElem (show j<B.length from hl2)];exact congrArg some e
   ·exact hI j (by omega)
  ·refine ⟨?_,rfl⟩
   rw [decide_eq_false]
   intro e2;subst e2;exact e rfl
 ·refine ⟨?_,rfl⟩
  rw [decide_eq_true]
  exact eq_of_at (by omega) fun j hj=>hI j (by omega)
theorem c73 (r:CIs h v C) (ok:C.Ok) (q:TIs h w T) (i:Int):CallsH Try.prog 73 #[v.v,.int .i64 i,w.v] h (Xt (.tuple #[.int .i64 (badQ C i T).1,.int .i64 (badQ C i T).2]) h):=by
 have qs:=q.s.len
 refine run73 v i w _ h ?_
 unfold VC73
 intro h1 h2
 have e1:Ext h h1:=Ext.box h _
 have e2:Ext h h2:=e1.trans (Ext.push h1 _)
 have hb:Rd h2 (some ⟨h.size,0,none⟩) 11 v.cs:=(boxC v 29).ext (Ext.push h1 _)
 have hw:Rd h2 (some ⟨h1.size,0,none⟩) 3 w.cs:=boxT w 53
 refine ldC hb (ldT hw ((c99 (r.ext e2) ok (q.ext e2)).mono ?_))
 rintro _ h3 ⟨e3,ma,mn,mc,rfl,mi⟩
 refine ⟨_,_,_,_,_,rfl,fun hz=>?_,fun hz=>⟨by unfold badQ;rw [if_pos hz],e2.trans e3⟩⟩
 obtain ⟨hchk,hfit,hQ,_⟩:=runQ_ok hz
 have ml:=mi.len
 have hml:(runQ C T).1.length=T.ins.length:=by rw [hQ];exact movs_len
 have h1m:1≤mn:=by have:=hfit.2.1;omega
 have hmx:mn≤512:=by have:=hfit.2.2.1;omega
 have wl:IntKind.wrap .i64 (((mn:Nat):Int)-1)=((mn-1:Nat):Int):=by rw [w64 (by omega) (by omega)];omega
 have hB:badQ C i T=((T.ins.length:Int)-1,if i∈(lastM (runQ C T).1).bads then 0 else 131):=by unfold badQ;rw [if_neg (by simp [hz])]
 unfold J73_0
 rw [wl]
 refine ⟨by omega,by omega,mi.elem (i:=mn-1) (by omega) fun ad m hl1 re mo=>⟨_,_,_,re.fld 2 rfl,?_⟩⟩
 have hb4:=mo.b
 have hlen:(runQ C T).1[mn-1].bads.length≤16384:=by
  have:∀ (rs:List (List Bool)) (st:List Bool) (M:Mo),M∈movs C st rs->M.bads.length≤C.bads.length:=by
   intro rs
   induction rs with
   | nil=>intro st M hM;cases hM
   | cons r rs ih=>
    intro st M hM
    rw [movs] at hM
    rcases List.mem_cons.1 hM with rfl | hM
    ·exact badF_len
    ·exact ih _ _ hM
  have hmem:∀ M,M∈(runQ C T).1->M∈movs C T.init T.ins:=fun M hM=>by rw [hQ] at hM;exact hM
  have h1:=this T.ins T.init (runQ C T).1[mn-1] (hmem _ (List.getElem_mem hl1))
  have h2:=(chk_bounds hchk).2.2.2.2.1
  omega
 have hbn:=hb4.ilen
 have hlast:lastM (runQ C T).1=(runQ C T).1[mn-1]:=by
  unfold lastM
  rw [List.getD_eq_getElem?_getD,show (runQ C T).1.length-1=mn-1 by omega,List.getElem?_eq_getElem hl1];rfl
 have hT:((T.ins.length:Int)-1)=((mn-1:Nat):Int):=by omega
 refine use (c100 hb4 (by omega) i) ⟨_,rfl,?_⟩
 rw [hB,hlast,hT]
 by_cases hm:i∈(runQ C T).1[mn-1].bads
 ·rw [decide_eq_true hm,if_pos hm]
  exact BIf.f ⟨rfl,e2.trans e3⟩
 ·rw [decide_eq_false hm,if_neg hm]
  exact BIf.t ⟨rfl,e2.trans e3⟩
end
end Go.Proofs.Ytdpbdjdgdmheiaa
namespace Go.Proofs.Ytdpbdjdgdmheiaa
open Go.Hx Go.Deep
def cameIn (L:List Mo) (lo:Nat) (s:Mk):Prop:=∃ m∈L.drop lo,s∈m.fair
open Classical in
noncomputable def missF (came:Mk->Prop) (at_:Int):Nat->Nat->Option Nat
 | 0,_=>none
 | n+1,i=>if came (at_,(i:Int)) then missF came at_ n (i+1) else some i
theorem missF_step {came:Mk->Prop} {at_:Int} {N i:Nat} (hi:i<N) (h:came (at_,(i:Int))):missF came at_ (N-i) i=missF came at_ (N-(i+1)) (i+1):=by
 rw [show N-i=(N-(i+1))+1 by omega,missF,if_pos h]
theorem missF_stop {came:Mk->Prop} {at_:Int} {N i:Nat} (hi:i<N) (h:¬ came (at_,(i:Int))):missF came at_ (N-i) i=some i:=by
 rw [show N-i=(N-(i+1))+1 by omega,missF,if_neg h]
open Classical in
noncomputable def justQ (C:Circ) (j:Int) (T:Tr):Int×Int:=
 if (runQ C T).2.2≠0 then ((runQ C T).2.1,(runQ C T).2.2) else if T.loop<0 then ((T.ins.length:Int)-1,132) else
 if nextL C (valsOf C (lastM (runQ C T).1).st (T.ins.getD (T.ins.length-1) []))≠((runQ C T).1.getD T.loop.toNat ⟨[],false,[],[]⟩).st then ((T.ins.length:Int)-1,132) else
 match missF (cameIn (runQ C T).1 T.loop.toNat) j (C.just.getD j.toNat []).length 0 with
 | some k=>((k:Int),133)
 | none=>match missF (cameIn (runQ C T).1 T.loop.toNat) (-1) C.fair.length 0 with
  | some k=>(((C.just.getD j.toNat []).length:Int)+k,133)
  | none=>(T.loop,0)
theorem movs_mem {C:Circ} (hc:(chk C).2=0):∀ {rs:List (List Bool)} {st:List Bool} {M:Mo},st.length=C.lats.length->M∈movs C st rs->M.st.length=C.lats.length/\M.bads.length≤16384/\M.fair.length≤32768
 | [],_,_,_,hM=>by cases hM
 | r::rs,st,M,hs,hM=>by
  rw [movs] at hM
  rcases List.mem_cons.1 hM with rfl | hM
  ·have b:=chk_bounds hc
   refine ⟨hs,?_,?_⟩
   ·have:=badF_len (V:=valsOf C st r) (l:=C.bads) (i:=0)
    simp only [moOf]
    omega
   ·have h1:=justF_len (V:=valsOf C st r) (l:=C.just) (i:=0)
    have h2:=fairF_len (a :=-1) (V:=valsOf C st r) (l:=C.fair) (i:=0)
    simp only [moOf,List.length_append]
    omega
  ·exact movs_mem hc (by simp [nextL]) hM
abbrev mkey (p:Mk):Value:=.agg #[.int .i64 p.1,.int .i64 p.2]
section
variable {h:Heap} {v:CV} {C:Circ} {w:TV} {T:Tr}
theorem cutA_at {sz:Nat} {a:Option Addr} {c l:Nat} (hl:l<c) {K:Addr->Prop} (h:AtP a fun ad=>∀ ad',(∀ i:Nat,ad'.add (i*sz)=ad.add ((l+i)*sz))->K ad'):AtP (cutA sz a c l) K:=by
 cases a with
 | none=>exact h.elim
 | some ad=>
  unfold cutA
  rw [if_neg (by omega)]
  refine h _ fun i=>?_
  rw [Addr.add_add]
  congr 1
  rw [Nat.add_mul]
structure Cnt (h:Heap) (b cnt:Nat) (M:List (Mk×Int)) (P:Mk->Prop):Prop where
 map:IsM mkey (Value.int .i64) h b M
 no:∀ s,atM M s=none↔¬ P s
 pos:∀ s t,atM M s=some t->1≤t/\t≤cnt
theorem Cnt.step {h:Heap} {b cnt:Nat} {M:List (Mk×Int)} {P:Mk->Prop} (s:Cnt h b cnt M P) (hc:cnt≤1000000000) (x:Mk) (hbx:Nat) (hne:hbx≠b) (hbc:∃ t16 t17:Int,cellsH h ⟨hbx,0,none⟩ 0 [.int .i64 t16,.int .i64 t17]/\x=(t16,t17))
  {next:Heap->Prop} (hK:∀ h' M',Upd (fun i=>i=b) h h'->Cnt h' b (cnt+1) M' (fun y=>P y∨y=x)->next h') :
  ∃ zn:Zone,Zone.has zn h hbx/\∃ (t16:Int),∃ (t17:Int),cellsH h ⟨hbx,0,none⟩ 0 [.int .i64 t16,.int .i64 t17]/\MapLookW zn (.flat [.int .i64,.int .i64]) (.agg #[.int .i64 t16,.int .i64 t17]) (.int .i64 0) h (some b) (MapEnt (.flat [.int .i64,.int .i64]) (.int .i64 0) (.agg #[.int .i64 t16,.int .i64 t17]) h (some b) (fun st h_17=>Zone.r zn h h_17/\MapSet st (.int .i64 (IntKind.wrap .i64 (0+1))) h_17 (some b) next) (fun u st1 h_19=>∃ (t18:Int),u=.int .i64 t18/\Zone.r zn h h_19/\MapSet st1 (.int .i64 (IntKind.wrap .i64 (0+1))) h_19 (some b) next)) fun look=>
   ∃ (t19:Int),look (.int .i64 t19)/\MapEnt (.flat [.int .i64,.int .i64]) (.int .i64 0) (.agg #[.int .i64 t16,.int .i64 t17]) h (some b) (fun st2 h_21=>Zone.r zn h h_21/\MapSet st2 (.int .i64 (IntKind.wrap .i64 (t19+1))) h_21 (some b) next) (fun u1 st3 h_23=>∃ (t20:Int),u1=.int .i64 t20/\Zone.r zn h h_23/\MapSet st3 (.int .i64 (IntKind.wrap .i64 (t19+1))) h_23 (some b) next):=by
 obtain ⟨t16,t17,hcc,rfl⟩:=hbc
 have kr:=KeyR.two .i64
 have key:∀ h2 M2 (z:Int),(z=1/\atM M (t16,t17)=Option.none∨∃ u,atM M (t16,t17)=some u/\z=u+1)->IsM mkey (Value.int .i64) h2 b (putM M (t16,t17) z)->M2=putM M (t16,t17) z->Cnt h2 b (cnt+1) M2 (fun y=>P y∨y=(t16,t17)):=fun h2 M2 z hz hm e=>by
  subst e
  refine ⟨hm,fun y=>?_,fun y t ht=>?_⟩
  ·rw [atM_putM]
   split
   ·rename_i hy
    exact iff_of_false (by simp) (by simp [hy])
   ·rename_i hy
    rw [s.no y]
    simp [hy]
  ·rw [atM_putM] at ht
   split at ht
   ·obtain rfl:=Option.some.inj ht
    rcases hz with ⟨rfl,_⟩ | ⟨u,hu,rfl⟩
    ·omega
    ·have:=s.pos _ _ hu;omega
   ·have:=s.pos y t ht;omega
 refine ⟨⟨fun a c=>(∀ j,j<h.size->j≠b->c[j]?=a[j]?)/\∀ u,LookAs (.flat [.int .i64,.int .i64]) (mkey (t16,t17)) (.int .i64 0) a b u↔LookAs (.flat [.int .i64,.int .i64]) (mkey (t16,t17)) (.int .i64 0) c b u,
  fun a=>⟨fun _ _ _=>rfl,fun _=>.rfl⟩,fun hh=>⟨fun j hj hn=>(hh.1 j hj hn).symm,fun u=>(hh.2 u).symm⟩,fun hh kk=>⟨fun j hj hn=>(kk.1 j hj hn).trans (hh.1 j hj hn),fun u=>(hh.2 u).trans (kk.2 u)⟩⟩,?_⟩
 have hlt:hbx<h.size:=cellH_lt (a:=⟨hbx,0,none⟩) (by have:=hcc.1;rwa [addr_add0] at this)
 refine ⟨fun h' hh=>hh.1 _ hlt hne,t16,t17,hcc,?_⟩
 refine ⟨(atM M (t16,t17)).getD 0,fun h' hh=>(hh.2 _).1 ((s.map.lookAs kr (t16,t17) 0 _).2 rfl),?_⟩
 refine s.map.ent kr (t16,t17) 0 (fun hnone st h7 u7 m7 hset=>⟨⟨fun j hj hn=>u7.2 j hj hn,fun u=>?_⟩,?_⟩) (fun u hu st h7 u7 m7 hset=>⟨u,rfl,⟨fun j hj hn=>u7.2 j hj hn,fun u=>?_⟩,?_⟩)
 ·rw [s.map.lookAs kr (t16,t17) 0 u,m7.lookAs kr (t16,t17) 0 u,hnone]
  have:atM (M++[((t16,t17),(0:Int))]) (t16,t17)=some 0:=by
   unfold atM at hnone ⊢
   rw [List.find?_append]
   rw [Option.map_eq_none_iff] at hnone
   rw [hnone]
   simp
  rw [this];rfl
 ·rw [hnone,show IntKind.wrap .i64 ((Option.none:Option Int).getD 0+1)=1 from rfl]
  exact hset 1 _ fun h8 m8 u8=>hK h8 _ (u7.trans u8) (key h8 _ 1 (.inl ⟨rfl,hnone⟩) m8 rfl)
 ·rw [s.map.lookAs kr (t16,t17) 0 u,m7.lookAs kr (t16,t17) 0 u]
 ·rw [hu]
  have hp:=s.pos _ _ hu
  rw [show IntKind.wrap .i64 ((some u).getD 0+1)=u+1 from w64 (by simp only [Option.getD_some];omega) (by simp only [Option.getD_some];omega)]
  exact hset (u+1) _ fun h8 m8 u8=>hK h8 _ (u7.trans u8) (key h8 _ (u+1) (.inr ⟨u,hu,rfl⟩) m8 rfl)
end
end Go.Proofs.Ytdpbdjdgdmheiaa
