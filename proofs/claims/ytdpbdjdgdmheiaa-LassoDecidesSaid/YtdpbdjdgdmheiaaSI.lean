/- Words and facts that the claim's proof leans on. No condition. -/
import Derived.Test.YtdpbdjdgdmheiaaSE
set_option linter.unusedVariables false
set_option linter.unusedSimpArgs false
namespace Go.Proofs.Ytdpbdjdgdmheiaa
open Go.Hx Go.Deep
section
variable {h:Heap} {v:CV} {C:Circ} {w:TV} {T:Tr}
theorem Cnt.cong {h:Heap} {b cnt:Nat} {M:List (Mk×Int)} {P Q:Mk->Prop} (s:Cnt h b cnt M P) (e:∀ y,P y↔Q y):Cnt h b cnt M Q:=⟨s.map,fun y=>by rw [s.no y,e y],s.pos⟩
theorem Cnt.ext {h h':Heap} {b cnt:Nat} {M:List (Mk×Int)} {P:Mk->Prop} (s:Cnt h b cnt M P) (u:Ext h h'):Cnt h' b cnt M P:=⟨s.map.upd u fun x=>x,s.no,s.pos⟩
theorem justQ_at {C:Circ} {j:Int} {T:Tr} (hz:(runQ C T).2.2=0):justQ C j T=((if T.loop<0 then ((T.ins.length:Int)-1,132) else
 if nextL C (valsOf C (lastM (runQ C T).1).st (T.ins.getD (T.ins.length-1) []))≠((runQ C T).1.getD T.loop.toNat ⟨[],false,[],[]⟩).st then ((T.ins.length:Int)-1,132) else
 match missF (cameIn (runQ C T).1 T.loop.toNat) j (C.just.getD j.toNat []).length 0 with
 | some k=>((k:Int),133)
 | none=>match missF (cameIn (runQ C T).1 T.loop.toNat) (-1) C.fair.length 0 with
  | some k=>(((C.just.getD j.toNat []).length:Int)+k,133)
  | none=>(T.loop,0)):Int×Int):=by
 unfold justQ
 rw [if_neg (by simp [hz])]
 rfl
set_option maxRecDepth 4000 in
theorem c74 (r:CIs h v C) (ok:C.Ok) (q:TIs h w T) {j:Int} (hj0:0≤j) (hj1:j<C.just.length):CallsH Try.prog 74 #[v.v,.int .i64 j,w.v] h (Xt (.tuple #[.int .i64 (justQ C j T).1,.int .i64 (justQ C j T).2]) h):=by
 have qs:=q.s.len
 have qlp:=q.lp
 have q6:=r.len.j
 have q7:=r.len.f
 refine run74 v j w _ h ?_
 unfold VC74
 intro h1 h2
 have e1:Ext h h1:=Ext.box h _
 have e2:Ext h h2:=e1.trans (Ext.push h1 _)
 have hb:Rd h2 (some ⟨h.size,0,none⟩) 11 v.cs:=(boxC v 29).ext (Ext.push h1 _)
 have hw:Rd h2 (some ⟨h1.size,0,none⟩) 3 w.cs:=boxT w 53
 refine ldC hb (ldT hw ((c99 (r.ext e2) ok (q.ext e2)).mono ?_))
 rintro _ h3 ⟨e3,ma,mn,mc,rfl,mi⟩
 refine ⟨_,_,_,_,_,rfl,fun hz=>?_,fun hz=>⟨by unfold justQ;rw [if_pos hz],e2.trans e3⟩⟩
 obtain ⟨hchk,hfit,hQ,_⟩:=runQ_ok hz
 have bnd:=chk_bounds hchk
 have hJ:=justQ_at (j:=j) hz
 have ml:=mi.len
 have mcap:=mi.cap
 obtain ⟨L,hLd⟩:∃ L,L=(runQ C T).1:=⟨_,rfl⟩
 have hml:L.length=T.ins.length:=by rw [hLd,hQ];exact movs_len
 rw [<- hLd] at hJ mi ml
 have hmem:∀ M∈L,M.st.length=C.lats.length/\M.bads.length≤16384/\M.fair.length≤32768:=fun M hM=>by
  rw [hLd,hQ] at hM
  exact movs_mem hchk hfit.1 hM
 have h1m:1≤mn:=by have:=hfit.2.1;omega
 have hmx:mn≤512:=by have:=hfit.2.2.1;omega
 have hlo:T.loop<mn:=by have:=hfit.2.2.2.2.1;omega
 have wl:IntKind.wrap .i64 (((mn:Nat):Int)-1)=((mn-1:Nat):Int):=by rw [w64 (by omega) (by omega)];omega
 have hT:((T.ins.length:Int)-1)=((mn-1:Nat):Int):=by omega
 have e03:=e2.trans e3
 rw [hT] at hJ
 unfold J74_0
 rw [wl]
 refine ⟨_,(hw.ext e3).fld 2 rfl,fun hneg=>⟨by rw [hJ,if_pos (by omega)],e03⟩,fun hnn=>?_⟩
 rw [if_neg (by omega)] at hJ
 unfold J74_1
 rw [wl]
 refine ldC (hb.ext e3) ⟨by omega,by omega,mi.elem (i:=mn-1) (by omega) fun ad m hl1 re mo=>⟨_,_,_,re.fld 0 rfl,_,_,_,(hw.ext e3).fld 1 rfl,by omega,by omega,((q.ext e03).s).get (i:=mn-1) (by omega) fun ad2 hl2 x hc hr hxc hx1 hxn=>⟨_,_,_,hc,?_⟩⟩⟩
 have hlast:lastM L=L[mn-1]:=by
  unfold lastM
  rw [List.getD_eq_getElem?_getD,show L.length-1=mn-1 by omega,List.getElem?_eq_getElem hl1];rfl
 have hrow:T.ins.getD (T.ins.length-1) []=T.ins[mn-1]:=by
  rw [List.getD_eq_getElem?_getD,show T.ins.length-1=mn-1 by omega,List.getElem?_eq_getElem hl2];rfl
 rw [hlast,hrow] at hJ
 rw [hx1] at hr
 have hstl:=hmem _ (List.getElem_mem hl1)
 have hso:StepOk C L[mn-1].st T.ins[mn-1]:=⟨hchk,hstl.1,hfit.2.2.2.2.2 _ (List.getElem_mem hl2)⟩
 refine (c19 (r.ext e03) ok mo.s hr).mono ?_
 rintro _ h5 ⟨e5,⟨_,na,nn,nc,rfl,rn⟩ | ⟨hno,rfl⟩⟩
 rotate_left
 ·exact absurd hso hno
 have e05:=e03.trans e5
 have mi5:=mi.ext e5
 have hw5:=(hw.ext e3).ext e5
 have hb5:=(hb.ext e3).ext e5
 refine ⟨_,_,_,_,rfl,fun _=>⟨_,hw5.fld 2 rfl,by omega,by omega,mi5.elem (i:=w.lp.toNat) (by omega) fun ad3 m2 hl3 re2 mo2=>⟨_,_,_,re2.fld 0 rfl,?_⟩⟩,fun h=>absurd rfl h⟩
 have hlop:(L.getD T.loop.toNat ⟨[],false,[],[]⟩)=L[w.lp.toNat]:=by
  rw [List.getD_eq_getElem?_getD,<- qlp,List.getElem?_eq_getElem hl3];rfl
 rw [hlop] at hJ
 have hnn2:nn=C.lats.length:=by have:=rn.ilen;simp [nextL] at this;omega
 refine use (c101 rn mo2.s (by omega)) ⟨_,rfl,?_⟩
 by_cases hEq:nextL C (valsOf C L[mn-1].st T.ins[mn-1])=L[w.lp.toNat].st
 rotate_left
 ·rw [decide_eq_false hEq]
  exact BIf.t ⟨by rw [hJ,if_pos hEq],e05⟩
 rw [decide_eq_true hEq]
 rw [if_neg (fun h=>h hEq)] at hJ
 refine BIf.f ?_
 unfold J74_2
 intro h8
 have e8:Ext h5 h8:=Ext.push h5 _
 have m8:IsM (α:=Mk) (β:=Int) mkey (Value.int .i64) h8 h5.size []:=IsM.new h5
 refine ⟨_,(hw5.ext e8).fld 2 rfl,by omega,by omega,by omega,?_⟩
 have hn3:Int.toNat ((mn:Nat):Int)-Int.toNat w.lp=mn-w.lp.toNat:=by rw [Int.toNat_natCast]
 obtain ⟨lo,hlod⟩:∃ lo,lo=w.lp.toNat:=⟨_,rfl⟩
 have hlo2:T.loop.toNat=lo:=by rw [hlod,qlp]
 rw [hlo2] at hJ
 refine LoopT.to (n:=mn-lo) (by omega) (fun i h'=>Ext h5 h'/\∃ cnt M,cnt≤i*40000/\Cnt h' h5.size cnt M (fun s=>∃ m∈(L.drop lo).take i,s∈m.fair)) ⟨e8,0,[],by omega,m8,fun s=>iff_of_true rfl (by simp),fun s t ht=>by simp [atM] at ht⟩ ?_
 rintro i h9 K hi ⟨e9,cnt,M,hcnt,cn⟩ hK
 have ebl:h5.size<h9.size:=cn.map.lt
 refine ⟨fun hlt=>?_,fun hlt=>?_⟩
 ·rw [<- hlod] at hlt
  refine ⟨by omega,by rw [<- hlod];omega,?_⟩
  rw [<- hlod]
  refine cutA_at (by omega) (mi5.elem (i:=lo+i) (by omega) fun ad4 m3 hl4 re3 mo3 ad' had'=>?_)
  have re4:=re3.ext e9
  rw [<- had' i] at re4
  refine ⟨_,_,_,_,_,_,_,_,_,_,re4.cells,?_⟩
  refine boxN (zs:=[.slice none 0 0,.bool false,.slice none 0 0,.slice none 0 0]) (ws:=m3.cs) rfl (MV.one m3) fun h12 e12 b12=>⟨_,_,_,b12.fld 3 rfl,?_⟩
  have hfl:=hmem _ (List.getElem_mem hl4)
  have rfl':=mo3.f.elen cs2l (by omega)
  have e59:=e9.trans e12
  have htk:(L.drop lo).take (i+1)=(L.drop lo).take i++[L[lo+i]]:=by
   rw [List.take_succ_eq_append_getElem (by simp;omega),List.getElem_drop]
  refine LoopT.to (n:=m3.f.n) (by omega) (fun k h'=>Ext h5 h'/\∃ cnt M,cnt≤i*40000+k/\Cnt h' h5.size cnt M (fun s=>(∃ m∈(L.drop lo).take i,s∈m.fair)∨s∈L[lo+i].fair.take k)) ⟨e59,cnt,M,Nat.le_trans hcnt (Nat.le_add_right _ _),(cn.ext e12).cong fun y=>⟨fun h=>.inl h,fun h=>h.elim id fun h=>absurd h (by rw [List.take_zero];exact List.not_mem_nil)⟩⟩ ?_
  rintro k h14 K2 hk ⟨e14,cnt2,M2,hcnt2,cn2⟩ hK2
  have ebl2:h5.size<h14.size:=cn2.map.lt
  refine ⟨fun hlt2=>?_,fun hlt2=>?_⟩
  ·refine ⟨by omega,hlt2,(mo3.f.ext e14).elem cs2l (by omega) (i:=k) (by omega) fun ad5 hl5 re5=>⟨_,_,re5.cells,?_⟩⟩
   refine boxN (zs:=[.int .i64 0,.int .i64 0]) (ws:=cs2 L[lo+i].fair[k]) rfl (by simp [Value.oneCell']) fun h16 e16 b16=>?_
   refine (cn2.ext e16).step (by omega) L[lo+i].fair[k] h14.size (by omega) ⟨_,_,b16.cells,rfl⟩ fun h17 M3 u17 cn3=>hK2 _ (by omega) ⟨(e14.trans e16).newer u17 fun b hb hS=>by omega,cnt2+1,M3,by omega,cn3.cong fun y=>?_⟩
   rw [List.take_succ_eq_append_getElem hl5,List.mem_append,List.mem_singleton]
   exact or_assoc
  ·refine hK _ (by omega) ⟨e14,cnt2,M2,by omega,cn2.cong fun y=>?_⟩
   rw [htk]
   have hke:k=m3.f.n:=by omega
   subst hke
   rw [show L[lo+i].fair.take m3.f.n=L[lo+i].fair from List.take_of_length_le (by omega)]
   constructor
   ·rintro (⟨m,hm,hy⟩ | hy)
    ·exact ⟨m,List.mem_append_left _ hm,hy⟩
    ·exact ⟨_,List.mem_append_right _ (List.mem_singleton.2 rfl),hy⟩
   ·rintro ⟨m,hm,hy⟩
    rcases List.mem_append.1 hm with hm | hm
    ·exact .inl ⟨m,hm,hy⟩
    ·rw [List.mem_singleton] at hm
     subst hm
     exact .inr hy
 rw [<- hlod] at hlt
 have hin:i=mn-lo:=by omega
 subst hin
 rw [List.take_of_length_le (by simp;omega)] at cn
 replace cn:Cnt h9 h5.size cnt M (cameIn L lo):=cn
 have kr:=KeyR.two .i64
 have e09:=e05.trans e9
 have hb9:=hb5.ext e9
 have r9:=r.ext e09
 unfold J74_3
 refine ⟨_,_,_,hb9.fld 6 rfl,by omega,by omega,?_⟩
 have hjt:((j.toNat:Nat):Int)=j:=by omega
 refine (r.j.ext e09).get (i:=j.toNat) (by omega) fun ad6 hl6 x6 hc6 hr6 hx6 hx61 hx6n=>⟨_,_,_,hc6,?_⟩
 have hjD:C.just.getD j.toNat []=C.just[j.toNat]:=by rw [List.getD_eq_getElem?_getD,List.getElem?_eq_getElem hl6];rfl
 rw [hjD] at hJ
 have hxl:C.just[j.toNat].length≤16384:=by have:=le_sumS (List.getElem_mem hl6);omega
 clear hK hlt
 refine LoopT.to (n:=x6.n) (by omega) (fun k h'=>h'=h9/\missF (cameIn L lo) j C.just[j.toNat].length 0=missF (cameIn L lo) j (C.just[j.toNat].length-k) k) ⟨rfl,rfl⟩ ?_
 rintro k h10 K hk ⟨hh,hI⟩ hK
 replace hh:=hh.symm
 subst hh
 refine ⟨fun hlt=>?_,fun hlt=>?_⟩
 ·refine cn.map.look kr (j,(k:Int)) (fun hno=>⟨fun _=>⟨?_,e09⟩,fun h=>absurd rfl h⟩) fun t ht=>⟨t,rfl,fun h=>?_,fun _=>hK _ (by omega) ⟨rfl,?_⟩⟩
  ·rw [hJ,hI,missF_stop (by omega) ((cn.no _).1 hno)]
  ·have:=(cn.pos _ _ ht).1;omega
  ·rw [hI,missF_step (by omega) (Classical.byContradiction fun hn=>by rw [(cn.no _).2 hn] at ht;cases ht)]
 have hkn:C.just[j.toNat].length-k=0:=by omega
 rw [hkn,missF] at hI
 rw [hI] at hJ
 refine ⟨_,_,_,hb9.fld 7 rfl,?_⟩
 clear hK
 refine LoopT.to (n:=v.f.n) (by omega) (fun k h'=>h'=h9/\missF (cameIn L lo) (-1) C.fair.length 0=missF (cameIn L lo) (-1) (C.fair.length-k) k) ⟨rfl,rfl⟩ ?_
 clear K hI hkn hlt hk k
 rintro k h10 K hk ⟨hh,hI⟩ hK
 replace hh:=hh.symm
 subst hh
 refine ⟨fun hlt=>?_,fun hlt=>?_⟩
 ·have stop:¬ cameIn L lo (-1,(k:Int))->∃ (A35:Option Addr),∃ (N35:Nat),∃ (C35:Nat),cellH h9 (Addr.add (Addr.mk h.size 0 none) 6)=some (.slice A35 N35 C35)/\0≤j/\j<(N35:Nat)/\AtP A35 fun ad6=>∃ (A36:Option Addr),∃ (N36:Nat),∃ (C36:Nat),cellH h9 (Addr.add ad6 (Int.toNat j*1))=some (.slice A36 N36 C36) /\
    Xt (.tuple #[.int .i64 (justQ C j T).1,.int .i64 (justQ C j T).2]) h (.tuple #[.int .i64 (IntKind.wrap .i64 (((N36:Nat):Int)+k)),.int .i64 133]) h9:=fun hno=>by
   refine ⟨_,_,_,hb9.fld 6 rfl,hj0,by omega,(r.j.ext e09).get (i:=j.toNat) (by omega) fun ad7 hl7 x7 hc7 hr7 hx7 hx71 hx7n=>⟨_,_,_,hc7,?_,e09⟩⟩
   rw [hJ,hI,missF_stop (by omega) hno,hx7n,w64 (by omega) (by omega)]
  refine cn.map.look kr (-1,(k:Int)) (fun hno=>⟨fun _=>stop ((cn.no _).1 hno),fun h=>absurd rfl h⟩) fun t ht=>⟨t,rfl,fun h=>?_,fun _=>hK _ (by omega) ⟨rfl,?_⟩⟩
  ·have:=(cn.pos _ _ ht).1;omega
  ·rw [hI,missF_step (by omega) (Classical.byContradiction fun hn=>by rw [(cn.no _).2 hn] at ht;cases ht)]
 ·have hkn:C.fair.length-k=0:=by omega
  rw [hkn,missF] at hI
  rw [hI] at hJ
  refine ⟨_,(hw5.ext e9).fld 2 rfl,?_,e09⟩
  rw [hJ,qlp]
end
end Go.Proofs.Ytdpbdjdgdmheiaa
namespace Go.Proofs.Ytdpbdjdgdmheiaa
open Go.Hx Go.Deep
open Classical in
noncomputable def propQ (C:Circ) (kd i:Int) (T:Tr):Int×Int:=
 if (chk C).2≠0 then (0,(chk C).2) else if kd=98/\0≤i/\i<C.bads.length then badQ C i T else if kd=106/\0≤i/\i<C.just.length then justQ C i T else (0,5)
section
variable {h:Heap} {v:CV} {C:Circ} {w:TV} {T:Tr}
set_option maxRecDepth 4000 in
theorem c47 (r:CIs h v C) (ok:C.Ok) (q:TIs h w T) (kd i:Int):CallsH Try.prog 47 #[v.v,.agg #[.int .u8 kd,.int .i64 i],w.v] h (Xt (.tuple #[.int .i64 (propQ C kd i T).1,.int .i64 (propQ C kd i T).2]) h):=by
 have q4:=r.len.b
 have q6:=r.len.j
 refine run47 v kd i w _ h ?_
 unfold VC47
 intro h1 h2 h3
 have e1:Ext h h1:=Ext.box h _
 have e2:Ext h h2:=e1.trans (Ext.push h1 _)
 have e3:Ext h h3:=e2.trans (Ext.push h2 _)
 have hb:Rd h3 (some ⟨h.size,0,none⟩) 11 v.cs:=((boxC v 29).ext (Ext.push h1 _)).ext (Ext.push h2 _)
 have hp:Rd h3 (some ⟨h1.size,0,none⟩) 2 [.int .u8 kd,.int .i64 i]:=(Fr.lit (.refl h1) [.int .u8 kd,.int .i64 i] 98 2 rfl).rd.ext (Ext.push h2 _)
 have hw:Rd h3 (some ⟨h2.size,0,none⟩) 3 w.cs:=boxT w 53
 refine ldC hb (useX (c27 (r.ext e3) ok) fun h4 e4=>⟨_,_,rfl,fun hz=>?_,fun hz=>⟨by unfold propQ;rw [if_pos hz],e3.trans e4⟩⟩)
 have e04:=e3.trans e4
 have hb4:=hb.ext e4
 have hp4:=hp.ext e4
 have hw4:=hw.ext e4
 have hR:propQ C kd i T=if kd=98/\0≤i/\i<C.bads.length then badQ C i T else if kd=106/\0≤i/\i<C.just.length then justQ C i T else (0,5):=by unfold propQ;rw [if_neg (by simp [hz])]
 have none5:¬ (kd=98/\0≤i/\i<C.bads.length)->¬ (kd=106/\0≤i/\i<C.just.length)->Xt (.tuple #[.int .i64 (propQ C kd i T).1,.int .i64 (propQ C kd i T).2]) h (.tuple #[.int .i64 0,.int .i64 5]) h4:=fun a b=>⟨by rw [hR,if_neg a,if_neg b],e04⟩
 have just:¬ (kd=98/\0≤i/\i<C.bads.length)->kd=106->0≤i->i<C.just.length->CallsH Try.prog 74 #[v.v,.int .i64 i,w.v] h4 fun v2 h6=>∃ (t18:Int),∃ (t19:Int),v2=.tuple #[.int .i64 t18,.int .i64 t19]/\Xt (.tuple #[.int .i64 (propQ C kd i T).1,.int .i64 (propQ C kd i T).2]) h (.tuple #[.int .i64 t18,.int .i64 t19]) h6:=fun hn a b c=>
  useX (c74 (r.ext e04) ok (q.ext e04) b c) fun h6 e6=>⟨_,_,rfl,by rw [hR,if_neg hn,if_pos ⟨a,b,c⟩],e04.trans e6⟩
 have arm:¬ (kd=98/\0≤i/\i<C.bads.length)->∀ (nx:Prop),True:=fun _ _=>trivial
 refine ⟨_,hp4.fld 0 rfl,fun k1=>⟨_,hp4.fld 1 rfl,fun k2=>⟨_,hp4.fld 1 rfl,_,_,_,hb4.fld 4 rfl,fun k3=>?_,fun k3=>?_⟩,fun k2=>?_⟩,fun k1=>?_⟩
 ·exact ldC hb4 ⟨_,hp4.fld 1 rfl,ldT hw4 (useX (c73 (r.ext e04) ok (q.ext e04) i) fun h6 e6=>⟨_,_,rfl,by rw [hR,if_pos ⟨k1,k2,by omega⟩],e04.trans e6⟩)⟩
 ·have hn:¬ (kd=98/\0≤i/\i<C.bads.length):=fun h=>by omega
  exact ⟨_,hp4.fld 0 rfl,fun m1=>absurd m1 (by omega),fun m1=>none5 hn fun h=>m1 h.1⟩
 ·have hn:¬ (kd=98/\0≤i/\i<C.bads.length):=fun h=>by omega
  exact ⟨_,hp4.fld 0 rfl,fun m1=>absurd m1 (by omega),fun m1=>none5 hn fun h=>m1 h.1⟩
 ·have hn:¬ (kd=98/\0≤i/\i<C.bads.length):=fun h=>k1 h.1
  exact ⟨_,hp4.fld 0 rfl,fun m1=>⟨_,hp4.fld 1 rfl,fun m2=>⟨_,hp4.fld 1 rfl,_,_,_,hb4.fld 6 rfl,fun m3=>ldC hb4 ⟨_,hp4.fld 1 rfl,ldT hw4 (just hn m1 m2 (by omega))⟩,fun m3=>none5 hn fun h=>by omega⟩,fun m2=>none5 hn fun h=>by omega⟩,fun m1=>none5 hn fun h=>m1 h.1⟩
theorem c26 (r:CIs h v C) (ok:C.Ok) (q:TIs h w T) (i:Int):CallsH Try.prog 26 #[v.v,.int .i64 i,w.v] h (Xt (.tuple #[.int .i64 (propQ C 106 i T).1,.int .i64 (propQ C 106 i T).2]) h):=by
 refine run26 v i w _ h ?_
 unfold VC26
 intro h1 h2
 have e1:Ext h h1:=Ext.box h _
 have e2:Ext h h2:=e1.trans (Ext.push h1 _)
 have hb:Rd h2 (some ⟨h.size,0,none⟩) 11 v.cs:=(boxC v 29).ext (Ext.push h1 _)
 have hw:Rd h2 (some ⟨h1.size,0,none⟩) 3 w.cs:=boxT w 53
 exact ldC hb (ldT hw (useX (c47 (r.ext e2) ok (q.ext e2) 106 i) fun h3 e3=>⟨_,_,rfl,rfl,e2.trans e3⟩))
end
end Go.Proofs.Ytdpbdjdgdmheiaa
namespace Go.Proofs.Ytdpbdjdgdmheiaa
open Go.Hx Go.Deep
theorem movs_at {C:Circ}:∀ {rs:List (List Bool)} {st:List Bool} {k:Nat} {M:Mo} {r:List Bool},(movs C st rs)[k]?=some M->rs[k]?=some r->M=moOf C M.st (valsOf C M.st r)/\∀ M',(movs C st rs)[k+1]?=some M'->M'.st=nextL C (valsOf C M.st r)
 | [],_,_,_,_,h,_=>by simp [movs] at h
 | r'::rs,st,0,M,r,h,hr=>by
  simp only [movs,List.getElem?_cons_zero,Option.some.injEq] at h hr
  subst h hr
  refine ⟨rfl,fun M' h'=>?_⟩
  simp only [movs,List.getElem?_cons_succ] at h'
  cases rs with
  | nil=>simp [movs] at h'
  | cons r2 rs=>
   simp only [movs,List.getElem?_cons_zero,Option.some.injEq] at h'
   subst h'
   rfl
 | r'::rs,st,k+1,M,r,h,hr=>by
  simp only [movs,List.getElem?_cons_succ] at h hr ⊢
  exact movs_at h hr
theorem brkF_none:∀ {L:List Mo} {i:Nat},brkF L i=none↔∀ M∈L,M.ok=true
 | [],i=>by simp [brkF]
 | m::L,i=>by
  rw [brkF]
  split
  ·rename_i h
   refine iff_of_false (by simp) fun hh=>?_
   have:=hh m (List.mem_cons_self ..)
   rw [h] at this;cases this
  ·rename_i h
   rw [brkF_none]
   constructor
   ·intro hh M hM
    rcases List.mem_cons.1 hM with rfl | hM
    ·simpa using h
    ·exact hh M hM
   ·exact fun hh M hM=>hh M (List.mem_cons_of_mem _ hM)
theorem mem_badF {V:List Bool}:∀ {l:List Int} {o i:Nat} {x:Int},l[i]?=some x->(((o+i:Nat):Int)∈badF V l o↔lit V x=true)
 | [],_,_,_,h=>by simp at h
 | y::l,o,i,x,h=>by
  have hge:∀ (l:List Int) (o:Nat) (z:Int),z∈badF V l o->(o:Int)≤z:=by
   intro l
   induction l with
   | nil=>intro o z hz;cases hz
   | cons y l ih=>
    intro o z hz
    rw [badF,List.mem_append] at hz
    rcases hz with hz | hz
    ·split at hz
     ·rw [List.mem_singleton] at hz;omega
     ·cases hz
    ·have:=ih _ _ hz;omega
  rw [badF,List.mem_append]
  cases i with
  | zero=>
   simp only [List.getElem?_cons_zero,Option.some.injEq] at h
   subst h
   constructor
   ·rintro (h | h)
    ·split at h
     ·assumption
     ·cases h
    ·have:=hge _ _ _ h;omega
   ·intro h
    rw [if_pos h]
    exact .inl (by simp)
  | succ i=>
   simp only [List.getElem?_cons_succ] at h
   have:=mem_badF (V:=V) (o:=o+1) h
   rw [show o+1+i=o+(i+1) by omega] at this
   rw [<- this]
   constructor
   ·rintro (h | h)
    ·split at h
     ·rw [List.mem_singleton] at h;omega
     ·cases h
    ·exact h
   ·exact .inr
end Go.Proofs.Ytdpbdjdgdmheiaa
