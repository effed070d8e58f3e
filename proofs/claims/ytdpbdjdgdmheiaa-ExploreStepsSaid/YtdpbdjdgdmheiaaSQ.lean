/- A step by itself, further; who may begin. No condition. -/
import Derived.Test.YtdpbdjdgdmheiaaSI
set_option linter.unusedVariables false
set_option linter.unusedSimpArgs false
namespace Go.Proofs.Ytdpbdjdgdmheiaa
open Go.Hx Go.Deep
section
variable {h:Heap} {v:CV} {C:Circ} {sa ra:Option Addr} {sn sc rn rc:Nat} {st row:List Bool}
theorem c59n (r:CIs h v C) (ok:C.Ok) (rs:Rd h sa sn (bools st)) (rw':Rd h ra rn (bools row)) :
  CallsH Try.prog 59 #[v.v,.slice sa sn sc,.slice ra rn rc] h fun w h'=>Ext h h'/\((StepOk C st row/\∃ a c,w=.tuple #[.slice a (C.mx+1).toNat c,.int .i64 0]/\Fr h 1 h' a (C.mx+1).toNat c (bools (valsOf C st row)))∨(¬ StepOk C st row/\w=.tuple #[.slice none 0 0,.int .i64 (stepE C st row)])):=by
 refine run59 v sa sn sc ra rn rc _ h ?_
 unfold VC59
 intro h1
 have e1:Ext h h1:=Ext.box h _
 have hb:Rd h1 (some ⟨h.size,0,none⟩) 11 v.cs:=boxC v 29
 refine ldC hb ((c41n (r.ext e1) ok (rs.ext e1) (rw'.ext e1)).mono ?_)
 rintro _ h3 ⟨e3,⟨hs,k,v',out,a,c,rfl,rr,rv⟩ | ⟨hz,rfl⟩⟩
 ·exact ⟨_,_,_,_,_,rfl,e1.trans e3,.inl ⟨hs,a,c,rfl,rv.base e1⟩⟩
 ·exact ⟨_,_,_,_,_,rfl,e1.trans e3,.inr ⟨hz,rfl⟩⟩
theorem c18 (r:CIs h v C) (ok:C.Ok) (rs:Rd h sa sn (bools st)) (rw':Rd h ra rn (bools row)) :
  CallsH Try.prog 18 #[v.v,.slice sa sn sc,.slice ra rn rc] h fun w h'=>Ext h h'/\((StepOk C st row/\w=.tuple #[.bool (C.cons.all (lit (valsOf C st row))),.int .i64 0])∨(¬ StepOk C st row/\w=.tuple #[.bool false,.int .i64 (stepE C st row)])):=by
 refine run18 v sa sn sc ra rn rc _ h ?_
 unfold VC18
 intro h1
 have e1:Ext h h1:=Ext.box h _
 have hb:Rd h1 (some ⟨h.size,0,none⟩) 11 v.cs:=boxC v 29
 refine ldC hb ((c41 (r.ext e1) ok (rs.ext e1) (rw'.ext e1)).mono ?_)
 rintro _ h3 ⟨e3,⟨hs,k,v',out,a,c,rfl,rr,rv⟩ | ⟨hz,rfl⟩⟩
 ·refine ⟨_,_,_,_,_,rfl,fun _=>useX (c42 rr rv rfl) fun h4 e4=>⟨_,rfl,(e1.trans e3).trans e4,.inl ⟨hs,rfl⟩⟩,fun h=>absurd rfl h⟩
 ·exact ⟨_,_,_,_,_,rfl,fun h=>absurd h (stepE_ne hz),fun _=>⟨e1.trans e3,.inr ⟨hz,rfl⟩⟩⟩
theorem c16 (r:CIs h v C) (ok:C.Ok) (rs:Rd h sa sn (bools st)):CallsH Try.prog 16 #[v.v,.slice sa sn sc] h (Xt (.tuple #[.bool (startsR C st).1,.int .i64 (startsR C st).2]) h):=by
 have q2:=r.len.l
 have ql:=rs.ilen
 refine run16 v sa sn sc _ h ?_
 unfold VC16
 intro h1
 have e1:Ext h h1:=Ext.box h _
 have hb:Rd h1 (some ⟨h.size,0,none⟩) 11 v.cs:=boxC v 29
 refine ldC hb (useX (c27 (r.ext e1) ok) fun h2 e2=>⟨_,_,rfl,fun hz=>?_,fun hz=>⟨by unfold startsR;rw [if_pos hz],e1.trans e2⟩⟩)
 have e02:=e1.trans e2
 have hb2:=hb.ext e2
 refine ⟨_,_,_,hb2.fld 2 rfl,fun k1=>?_,fun k1=>⟨by unfold startsR;rw [if_neg (by simp [hz]),if_neg (by omega)],e02⟩⟩
 have hR:startsR C st=((iniF C.lats st 0).isNone,0):=by unfold startsR;rw [if_neg (by simp [hz]),if_pos (by omega)]
 refine ⟨_,_,_,hb2.fld 2 rfl,?_⟩
 have n1:v.l.n≤16384:=by have:=(chk_bounds hz).2.2.1;omega
 refine LoopT.to (n:=v.l.n) (by omega) (fun i h'=>Ext h2 h'/\iniF C.lats st 0=iniF (C.lats.drop i) (st.drop i) i) ⟨.refl _,rfl⟩ ?_
 rintro i h3 K hi ⟨e3,hI⟩ hK
 refine ⟨fun hlt=>?_,fun hlt=>⟨?_,e02.trans e3⟩⟩
 ·refine ⟨by omega,hlt,(r.l.ext (e02.trans e3)).elem L3.csl (by omega) (i:=i) (by omega) fun ad hl1 re=>⟨_,_,_,re.cells,?_⟩⟩
  have his:i<st.length:=by omega
  rw [iniF_drop hl1 his] at hI
  have nx:∀ h',Ext h3 h'->¬ (C.lats[i].c<2/\st[i]≠decide (C.lats[i].c=1))->K (IntKind.wrap .i64 (i+1)) h':=fun h' e hn=>hK _ (by omega) ⟨e3.trans e,by rw [if_neg hn] at hI;exact hI⟩
  have no:∀ h',Ext h3 h'->(C.lats[i].c<2/\st[i]≠decide (C.lats[i].c=1))->Xt (.tuple #[.bool (startsR C st).1,.int .i64 (startsR C st).2]) h (.tuple #[.bool false,.int .i64 0]) h':=fun h' e hp=>⟨by rw [hR,hI,if_pos hp];rfl,(e02.trans e3).trans e⟩
  refine boxN (zs:=[.int .i64 0,.int .i64 0,.int .i64 0]) (ws:=L3.cs C.lats[i]) rfl (by simp [Value.oneCell']) fun h4 e4 b4=>⟨_,b4.fld 2 rfl,fun hc=>⟨by omega,by omega,(rs.ext ((e02.trans e3).trans e4)).getn (i:=i) (by omega) fun ad2 _ hc2=>⟨_,hc2,_,b4.fld 2 rfl,fun hc1=>⟨fun ht=>nx _ e4 ?_,fun ht=>no _ e4 ⟨hc,?_⟩⟩,fun hc1=>⟨fun ht=>nx _ e4 ?_,fun ht=>no _ e4 ⟨hc,?_⟩⟩⟩⟩,fun hc=>nx _ e4 fun h=>hc h.1⟩
  ·rw [decide_eq_true hc1];exact fun h=>h.2 ht
  ·rw [decide_eq_true hc1];exact ht
  ·rw [decide_eq_false hc1];exact fun h=>h.2 ht
  ·rw [decide_eq_false hc1];exact ht
 ·rw [hR,hI,iniF_end (by omega)];rfl
end
end Go.Proofs.Ytdpbdjdgdmheiaa
