/- Words and facts that the claim's proof leans on. No condition. -/
import Derived.Test.YtdpbdjdgdmheiaaGreatSA
set_option linter.unusedVariables false
set_option linter.unusedSimpArgs false
namespace Go.Hx
theorem Far.ext {h h1:Heap} {p q:Nat} {P:Heap->Prop} (f:Far h p q P) (u:Ext h h1) (hq:q≤h.size):Far h1 p q P:=f.upd u (fun _ _ _ h=>h) hq
structure MosIs (h:Heap) (a:Option Addr) (n c:Nat) (L:List Mo):Prop where
 len:L.length=n
 cap:n≤c
 ex:∃ ms:List MV,Rd h a (n*4) (ms.flatMap MV.cs)/\ms.length=n/\∀ (k:Nat) m M,ms[k]?=some m->L[k]?=some M->MoIs h m M
theorem MosIs.ext {h h':Heap} {a:Option Addr} {n c:Nat} {L:List Mo} (r:MosIs h a n c L) (u:Ext h h'):MosIs h' a n c L:=
 let ⟨ms,h1,h2,h3⟩:=r.ex;⟨r.len,r.cap,ms,h1.ext u,h2,fun k m M hm hM=>(h3 k m M hm hM).ext u⟩
theorem MosIs.nil {h:Heap}:MosIs h none 0 0 []:=⟨rfl,Nat.le_refl _,[],.nil,rfl,fun k m M hm=>by simp at hm⟩
theorem MosIs.elem {h:Heap} {a:Option Addr} {n c:Nat} {L:List Mo} (r:MosIs h a n c L) {i:Nat} (hi:i<n) {K:Addr->Prop} (hK:∀ ad (m:MV) (hl:i<L.length),Rd h (some (ad.add (i*4))) 4 m.cs->MoIs h m L[i]->K ad):AtP a K:=by
 obtain ⟨ms,h1,h2,h3⟩:=r.ex
 have hl:=r.len
 exact h1.elem MV.csl (by omega) (i:=i) hi fun ad hl1 re=>hK ad ms[i] (by omega) re (h3 i _ _ (List.getElem?_eq_getElem hl1) (List.getElem?_eq_getElem (by omega)))
end Go.Hx
namespace Go.Proofs.YtdpbdjdgdmheiaaGreat
open Go.Hx Go.Deep
noncomputable def movs (C:Circ):List Bool->List (List Bool)->List Mo
 | _,[]=>[]
 | st,r::rs=>moOf C st (valsOf C st r)::movs C (nextL C (valsOf C st r)) rs
theorem movs_len {C:Circ}:∀ {rs:List (List Bool)} {st:List Bool},(movs C st rs).length=rs.length
 | [],_=>rfl
 | r::rs,st=>by rw [movs,List.length_cons,List.length_cons,movs_len]
open Classical in
noncomputable def runR (C:Circ) (T:Tr):List Mo×Int:=if (chk C).2≠0 then ([],(chk C).2) else if Fit C T then (movs C T.init T.ins,0) else ([],4)
section
variable {h:Heap} {v:CV} {C:Circ} {w:TV} {T:Tr}
end
end Go.Proofs.YtdpbdjdgdmheiaaGreat
namespace Go.Proofs.YtdpbdjdgdmheiaaGreat
open Go.Hx Go.Deep
def StepOk (C:Circ) (st row:List Bool):Prop:=(chk C).2=0/\st.length=C.lats.length/\row.length=C.ins.length
open Classical in
noncomputable def stepE (C:Circ) (st row:List Bool):Int:=if (chk C).2≠0 then (chk C).2 else if StepOk C st row then 0 else 4
section
variable {h:Heap} {v:CV} {C:Circ} {sa ra:Option Addr} {sn sc rn rc:Nat} {st row:List Bool}
theorem c129n (r:CIs h v C) (ok:C.Ok) (rs:Rd h sa sn (bools st)) (rw':Rd h ra rn (bools row)) :
  CallsH Tryz.prog 129 #[v.v,.slice sa sn sc,.slice ra rn rc] h fun w h'=>Ext h h'/\((StepOk C st row/\∃ k v' out a c,w=.tuple #[.pointer (some k),.slice a (C.mx+1).toNat c,.int .i64 0]/\RunR h' k v' C out/\Fr h 1 h' a (C.mx+1).toNat c (bools (valsOf C st row))) ∨
   (¬ StepOk C st row/\w=.tuple #[.pointer none,.slice none 0 0,.int .i64 (stepE C st row)])):=by
 have q1:=r.len.i
 have q2:=r.len.l
 have ql:=rs.ilen
 have qr:=rw'.ilen
 refine run129 v sa sn sc ra rn rc _ h ?_
 unfold VC129
 intro h1
 have e1:Ext h h1:=Ext.box h _
 have hb:Rd h1 (some ⟨h.size,0,none⟩) 11 v.cs:=boxC v 29
 refine ldC hb ((c123 (r.ext e1) ok).mono ?_)
 rintro _ h3 ⟨e3,⟨hz,out,k,v2,rfl,rr⟩ | ⟨hz,rfl⟩⟩
 rotate_left
 ·exact ⟨_,_,rfl,fun h=>absurd h hz,fun _=>⟨e1.trans e3,.inr ⟨fun h=>hz h.1,by unfold stepE;rw [if_pos hz]⟩⟩⟩
 have e03:=e1.trans e3
 have no:¬ StepOk C st row->stepE C st row=4:=fun h=>by unfold stepE;rw [if_neg (by simp [hz]),if_neg h]
 refine ⟨_,_,rfl,fun _=>⟨_,_,_,(hb.ext e3).fld 2 rfl,fun k1=>⟨_,_,_,(hb.ext e3).fld 1 rfl,fun k2=>?_,fun k2=>?_⟩,fun k1=>?_⟩,fun h=>absurd rfl h⟩
 ·refine (c124 rr (rs.ext e03) (rw'.ext e03) (by omega) (by omega)).mono ?_
  rintro _ h4 ⟨a,c,rfl,f⟩
  exact ⟨_,_,_,rfl,e03.trans f.ext,.inl ⟨⟨hz,by omega,by omega⟩,k,v2,out,a,c,rfl,rr.ext f.ext,f.base e03⟩⟩
 ·have hn:¬ StepOk C st row:=fun h=>by have:=h.2.2;omega
  exact ⟨e03,.inr ⟨hn,by rw [no hn]⟩⟩
 ·have hn:¬ StepOk C st row:=fun h=>by have:=h.2.1;omega
  exact ⟨e03,.inr ⟨hn,by rw [no hn]⟩⟩
end
def iniF:List L3->List Bool->Nat->Option Nat
 | x::r,b::s,i=>if x.c<2/\b≠decide (x.c=1) then some i else iniF r s (i+1)
 | _,_,_=>none
theorem iniF_drop {L:List L3} {S:List Bool} {i:Nat} (hi:i<L.length) (hs:i<S.length):iniF (L.drop i) (S.drop i) i=if L[i].c<2/\S[i]≠decide (L[i].c=1) then some i else iniF (L.drop (i+1)) (S.drop (i+1)) (i+1):=by
 rw [List.drop_eq_getElem_cons hi,List.drop_eq_getElem_cons hs,iniF]
theorem iniF_end {L:List L3} {S:List Bool} {i:Nat} (hi:L.length≤i):iniF (L.drop i) (S.drop i) i=none:=by
 rw [List.drop_of_length_le hi];rfl
def brkF:List Mo->Nat->Option Nat
 | [],_=>none
 | m::r,i=>if m.ok=false then some i else brkF r (i+1)
noncomputable def runQ (C:Circ) (T:Tr):List Mo×Int×Int:=
 if (runR C T).2≠0 then ([],0,(runR C T).2) else match iniF C.lats T.init 0 with
 | some i=>([],(i:Int),134)
 | none=>match brkF (runR C T).1 0 with
  | some i=>([],(i:Int),130)
  | none=>((runR C T).1,0,0)
theorem runR_ok {C:Circ} {T:Tr} (h:(runR C T).2=0):(chk C).2=0/\Fit C T/\runR C T=(movs C T.init T.ins,0):=by
 unfold runR at h ⊢
 split at h
 ·rename_i hc;exact absurd h hc
 ·rename_i hc
  split at h
  ·rename_i hf
   rw [if_neg hc,if_pos hf]
   exact ⟨Decidable.not_not.1 hc,hf,rfl⟩
  ·simp at h
section
variable {h:Heap} {v:CV} {C:Circ} {w:TV} {T:Tr} {sa:Option Addr} {sn sc:Nat} {st:List Bool}
end
end Go.Proofs.YtdpbdjdgdmheiaaGreat
namespace Go.Proofs.YtdpbdjdgdmheiaaGreat
open Go.Hx Go.Deep
def lastM (L:List Mo):Mo:=L.getD (L.length-1) ⟨[],false,[],[]⟩
theorem runQ_ok {C:Circ} {T:Tr} (h:(runQ C T).2.2=0):(chk C).2=0/\Fit C T/\runQ C T=(movs C T.init T.ins,0,0)/\iniF C.lats T.init 0=none/\brkF (movs C T.init T.ins) 0=none:=by
 unfold runQ at h ⊢
 split at h
 ·rename_i hc;exact absurd h hc
 ·rename_i hc
  obtain ⟨h1,h2,h3⟩:=runR_ok (Decidable.not_not.1 hc)
  rw [if_neg hc]
  cases hi:iniF C.lats T.init 0 with
  | some i=>rw [hi] at h;simp at h
  | none=>
   rw [hi] at h
   rw [h3] at h ⊢
   simp only at h ⊢
   cases hb:brkF (movs C T.init T.ins) 0 with
   | some i=>rw [hb] at h;simp at h
   | none=>exact ⟨h1,h2,by simp,by simp,by simp⟩
open Classical in
noncomputable def badQ (C:Circ) (i:Int) (T:Tr):Int×Int:=if (runQ C T).2.2≠0 then ((runQ C T).2.1,(runQ C T).2.2) else ((T.ins.length:Int)-1,if i∈(lastM (runQ C T).1).bads then 0 else 131)
section
variable {h:Heap} {v:CV} {C:Circ} {w:TV} {T:Tr} {a b:Option Addr} {n c m d:Nat}
end
end Go.Proofs.YtdpbdjdgdmheiaaGreat
namespace Go.Proofs.YtdpbdjdgdmheiaaGreat
open Go.Hx Go.Deep
def cameIn (L:List Mo) (lo:Nat) (s:Mk):Prop:=∃ m∈L.drop lo,s∈m.fair
open Classical in
noncomputable def missF (came:Mk->Prop) (at_:Int):Nat->Nat->Option Nat
 | 0,_=>none
 | n+1,i=>if came (at_,(i:Int)) then missF came at_ n (i+1) else some i
open Classical in
noncomputable def justQ (C:Circ) (j:Int) (T:Tr):Int×Int:=
 if (runQ C T).2.2≠0 then ((runQ C T).2.1,(runQ C T).2.2) else if T.loop<0 then ((T.ins.length:Int)-1,132) else
 if nextL C (valsOf C (lastM (runQ C T).1).st (T.ins.getD (T.ins.length-1) []))≠((runQ C T).1.getD T.loop.toNat ⟨[],false,[],[]⟩).st then ((T.ins.length:Int)-1,132) else
 match missF (cameIn (runQ C T).1 T.loop.toNat) j (C.just.getD j.toNat []).length 0 with
 | some k=>((k:Int),133)
 | none=>match missF (cameIn (runQ C T).1 T.loop.toNat) (-1) C.fair.length 0 with
  | some k=>(((C.just.getD j.toNat []).length:Int)+k,133)
  | none=>(T.loop,0)
abbrev mkey (p:Mk):Value:=.agg #[.int .i64 p.1,.int .i64 p.2]
section
variable {h:Heap} {v:CV} {C:Circ} {w:TV} {T:Tr}
structure Cnt (h:Heap) (b cnt:Nat) (M:List (Mk×Int)) (P:Mk->Prop):Prop where
 map:IsM mkey (Value.int .i64) h b M
 no:∀ s,atM M s=none↔¬ P s
 pos:∀ s t,atM M s=some t->1≤t/\t≤cnt
theorem Cnt.step {h:Heap} {b cnt:Nat} {M:List (Mk×Int)} {P:Mk->Prop} (s:Cnt h b cnt M P) (hc:cnt≤1000000000) (x:Mk) (hbx:Nat) (hne:hbx≠b) (hbc:∃ t16 t17:Int,cellsH h ⟨hbx,0,none⟩ 0 [.int .i64 t16,.int .i64 t17]/\x=(t16,t17))
  {next:Heap->Prop} (hK:∀ h' M',Upd (fun i=>i=b) h h'->Cnt h' b (cnt+1) M' (fun y=>P y∨y=x)->next h') :
  ∃ zn:Zone,Zone.has zn h hbx/\∃ (t16:Int),∃ (t17:Int),cellsH h ⟨hbx,0,none⟩ 0 [.int .i64 t16,.int .i64 t17]/\MapLookW zn (.flat [.int .i64,.int .i64]) (.agg #[.int .i64 t16,.int .i64 t17]) (.int .i64 0) h (some b) (MapEnt (.flat [.int .i64,.int .i64]) (.int .i64 0) (.agg #[.int .i64 t16,.int .i64 t17]) h (some b) (fun st h_17=>Zone.r zn h h_17/\MapSet st (.int .i64 (IntKind.wrap .i64 (0+1))) h_17 (some b) next) (fun u st1 h_19=>∃ (t18:Int),u=.int .i64 t18/\Zone.r zn h h_19/\MapSet st1 (.int .i64 (IntKind.wrap .i64 (0+1))) h_19 (some b) next)) fun look=>
   ∃ (t19:Int),look (.int .i64 t19)/\MapEnt (.flat [.int .i64,.int .i64]) (.int .i64 0) (.agg #[.int .i64 t16,.int .i64 t17]) h (some b) (fun st2 h_21=>Zone.r zn h h_21/\MapSet st2 (.int .i64 (IntKind.wrap .i64 (t19+1))) h_21 (some b) next) (fun u1 st3 h_23=>∃ (t20:Int),u1=.int .i64 t20/\Zone.r zn h h_23/\MapSet st3 (.int .i64 (IntKind.wrap .i64 (t19+1))) h_23 (some b) next):=by
 obtain ⟨t16,t17,hcc,rfl⟩:=hbc
 have kr:=KeyR.two .i64
 have key:∀ h2 M2 (z:Int),(z=1/\atM M (t16,t17)=Option.none∨∃ u,atM M (t16,t17)=some u/\z=u+1)->IsM mkey (Value.int .i64) h2 b (putM M (t16,t17) z)->M2=putM M (t16,t17) z->Cnt h2 b (cnt+1) M2 (fun y=>P y∨y=(t16,t17)):=fun h2 M2 z hz hm e=>by
  subst e
  refine ⟨hm,fun y=>?_,fun y t ht=>?_⟩
  ·rw [atM_putM]
   split
   ·rename_i hy
    exact iff_of_false (by simp) (by simp [hy])
   ·rename_i hy
    rw [s.no y]
    simp [hy]
  ·rw [atM_putM] at ht
   split at ht
   ·obtain rfl:=Option.some.inj ht
    rcases hz with ⟨rfl,_⟩ | ⟨u,hu,rfl⟩
    ·omega
    ·have:=s.pos _ _ hu;omega
   ·have:=s.pos y t ht;omega
 refine ⟨⟨fun a c=>(∀ j,j<h.size->j≠b->c[j]?=a[j]?)/\∀ u,LookAs (.flat [.int .i64,.int .i64]) (mkey (t16,t17)) (.int .i64 0) a b u↔LookAs (.flat [.int .i64,.int .i64]) (mkey (t16,t17)) (.int .i64 0) c b u,
  fun a=>⟨fun _ _ _=>rfl,fun _=>.rfl⟩,fun hh=>⟨fun j hj hn=>(hh.1 j hj hn).symm,fun u=>(hh.2 u).symm⟩,fun hh kk=>⟨fun j hj hn=>(kk.1 j hj hn).trans (hh.1 j hj hn),fun u=>(hh.2 u).trans (kk.2 u)⟩⟩,?_⟩
 have hlt:hbx<h.size:=cellH_lt (a:=⟨hbx,0,none⟩) (by have:=hcc.1;rwa [addr_add0] at this)
 refine ⟨fun h' hh=>hh.1 _ hlt hne,t16,t17,hcc,?_⟩
 refine ⟨(atM M (t16,t17)).getD 0,fun h' hh=>(hh.2 _).1 ((s.map.lookAs kr (t16,t17) 0 _).2 rfl),?_⟩
 refine s.map.ent kr (t16,t17) 0 (fun hnone st h7 u7 m7 hset=>⟨⟨fun j hj hn=>u7.2 j hj hn,fun u=>?_⟩,?_⟩) (fun u hu st h7 u7 m7 hset=>⟨u,rfl,⟨fun j hj hn=>u7.2 j hj hn,fun u=>?_⟩,?_⟩)
 ·rw [s.map.lookAs kr (t16,t17) 0 u,m7.lookAs kr (t16,t17) 0 u,hnone]
  have:atM (M++[((t16,t17),(0:Int))]) (t16,t17)=some 0:=by
   unfold atM at hnone ⊢
   rw [List.find?_append]
   rw [Option.map_eq_none_iff] at hnone
   rw [hnone]
   simp
  rw [this];rfl
 ·rw [hnone,show IntKind.wrap .i64 ((Option.none:Option Int).getD 0+1)=1 from rfl]
  exact hset 1 _ fun h8 m8 u8=>hK h8 _ (u7.trans u8) (key h8 _ 1 (.inl ⟨rfl,hnone⟩) m8 rfl)
 ·rw [s.map.lookAs kr (t16,t17) 0 u,m7.lookAs kr (t16,t17) 0 u]
 ·rw [hu]
  have hp:=s.pos _ _ hu
  rw [show IntKind.wrap .i64 ((some u).getD 0+1)=u+1 from w64 (by simp only [Option.getD_some];omega) (by simp only [Option.getD_some];omega)]
  exact hset (u+1) _ fun h8 m8 u8=>hK h8 _ (u7.trans u8) (key h8 _ (u+1) (.inr ⟨u,hu,rfl⟩) m8 rfl)
end
end Go.Proofs.YtdpbdjdgdmheiaaGreat
