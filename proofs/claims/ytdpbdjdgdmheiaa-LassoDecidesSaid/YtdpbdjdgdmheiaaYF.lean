/- Words and facts that the claim's proof leans on. No condition. -/
import Derived.Test.YtdpbdjdgdmheiaaYC
import Derived.Test.YtdpbdjdgdmheiaaMF
import Derived.Test.YtdpbdjdgdmheiaaSM
import Derived.Test.YtdpbdjdgdmheiaaXU
import Derived.Test.YtdpbdjdgdmheiaaXL
import Derived.Test.YtdpbdjdgdmheiaaMJ
set_option linter.unusedVariables false
set_option linter.unusedSimpArgs false
namespace Go.Proofs.Ytdpbdjdgdmheiaa
open Go.Hx
section
variable {C:Circ}
theorem rows_way:∀ {rs:List (List Bool)} {st:List Bool},st.length=C.lats.length->(∀ r∈rs,r.length=C.ins.length)->(∀ m∈movs C st rs,m.ok=true)->∃ p,Go.Hx.Way (wdC C) (numN st) p (numN (endS C st rs))/\p.map Arc.vl=stepsV C st rs/\p.length=rs.length/\(endS C st rs).length=C.lats.length
 | [],st,hs,_,_=>⟨[],.nil,rfl,rfl,hs⟩
 | r::rs,st,hs,hr,hok=>by
  obtain ⟨p,w,h1,h2,h3⟩:=rows_way (rs:=rs) (st:=nextL C (valsOf C st r)) next_len (fun x hx=>hr x (List.mem_cons_of_mem _ hx)) fun m hm=>hok m (by rw [movs];exact List.mem_cons_of_mem _ hm)
  have hc:C.cons.all (lit (valsOf C st r))=true:=hok (moOf C st (valsOf C st r)) (by rw [movs];exact List.mem_cons_self ..)
  exact ⟨_::p,.cons (arc_num hs (hr r (List.mem_cons_self ..)) hc) w,by rw [stepsV,List.map_cons,h1],by simp [h2],h3⟩
theorem way_end:∀ {q:List Arc} {s t:Nat},Go.Hx.Way (wdC C) s q t->endS C (bitsN s C.lats.length) (rowsOf C q)=bitsN t C.lats.length/\stepsV C (bitsN s C.lats.length) (rowsOf C q)=q.map Arc.vl
 | [],s,t,w=>by cases w;exact ⟨rfl,rfl⟩
 | a::q,s,t,w=>by
  cases w with
  | cons ha w=>
   obtain ⟨h1,h2,h3⟩:=arc_of ha
   obtain ⟨k1,k2⟩:=way_end w
   have e:rowsOf C (a::q)=bitsN a.row C.ins.length::rowsOf C q:=rfl
   rw [e,endS,stepsV,<- h2,<- h3]
   exact ⟨k1,by rw [k2];rfl⟩
theorem lasso_fair {j:Int} {T:Tr} (l:Lasso C j T):∃ s,FairG (wdC C) (mustP (mustOf C j)) s:=by
 have h0:=l.lp
 obtain ⟨f1,f2,f3,f4,f5,f6⟩:=l.fit
 have hlo:T.loop.toNat<T.ins.length:=by omega
 have e:T.ins=T.ins.take T.loop.toNat++T.ins.drop T.loop.toNat:=(List.take_append_drop _ _).symm
 have hA:(T.ins.take T.loop.toNat).length=T.loop.toNat:=by rw [List.length_take];omega
 have hll:T.loop.toNat<(movs C T.init T.ins).length:=by rw [movs_len];exact hlo
 have hM:=List.getElem?_eq_getElem hll
 have hend:=l.round _ hM
 have htake:=endS_take hM
 have hok:=l.ok
 rw [e,movs_app] at hok
 obtain ⟨p,w,_,hpl,hl1⟩:=rows_way f1 (fun r hr=>f6 r (List.mem_of_mem_take hr)) fun m hm=>hok m (List.mem_append_left _ hm)
 obtain ⟨q,w2,hq,hql,_⟩:=rows_way hl1 (fun r hr=>f6 r (List.mem_of_mem_drop hr)) fun m hm=>hok m (List.mem_append_right _ hm)
 have hloop:endS C (endS C T.init (T.ins.take T.loop.toNat)) (T.ins.drop T.loop.toNat)=endS C T.init (T.ins.take T.loop.toNat):=by
  rw [<- endS_app,<- e,hend,htake]
 rw [hloop] at w2
 have came:∀ x∈mustOf C j,∃ V∈stepsV C (endS C T.init (T.ins.take T.loop.toNat)) (T.ins.drop T.loop.toNat),lit V x=true:=by
  refine (came_must l.j0 l.j1).1 ?_
  rw [hA,<- e]
  exact ⟨l.came,l.fair⟩
 have hne:q≠[]:=by
  rintro rfl
  rw [List.length_drop] at hql
  simp at hql
  omega
 have r0:Rch (wdC C) 0 (numN T.init):=.zero (ini_num f1 l.ini)
 refine ⟨_,Round.fair (d:=0+p.length) (p:=q) ⟨w.rch r0,hne,w2,fun P hP=>?_⟩⟩
 rcases List.mem_cons.1 hP with rfl | hP
 ·obtain ⟨a,q',rfl⟩:=List.exists_cons_of_ne_nil hne
  exact ⟨a,List.mem_cons_self ..,trivial⟩
 ·obtain ⟨x,hx,rfl⟩:=List.mem_map.1 hP
  obtain ⟨V,hV,hl⟩:=came x hx
  rw [<- hq] at hV
  obtain ⟨a,ha,rfl⟩:=List.mem_map.1 hV
  exact ⟨a,ha,hl⟩
end
end Go.Proofs.Ytdpbdjdgdmheiaa
namespace Go.Proofs.Ytdpbdjdgdmheiaa
open Go.Hx
section
variable {C:Circ}
theorem mustP_len {must:List Int}:(mustP must).length=must.length+1:=by simp [mustP]
theorem fair_lasso {j:Int} (hc:(chk C).2=0) (h0:0≤j) (h1:j<C.just.length) {N:Nat} (hN:2 ^ C.lats.length*((mustOf C j).length+1)*2 ^ C.lats.length+2 ^ C.lats.length≤N) (hN2:N≤512) (h:∃ s,FairG (wdC C) (mustP (mustOf C j)) s):∃ T,Lasso C j T/\T.ins.length<N:=by
 obtain ⟨s,hs⟩:=h
 obtain ⟨d,t,p,hd,⟨_,hne,wp,hP⟩,hpl⟩:=hs.round (wd_ok C) (by simp [mustP])
 rw [mustP_len] at hpl
 have hn:(wdC C).n=2 ^ C.lats.length:=rfl
 rw [hn,<- Nat.mul_assoc] at hpl
 have hdn:=hd.lt (wd_ok C)
 rw [hn] at hdn
 obtain ⟨s0,q,hs0,wq,hql⟩:=hd.1.way
 have hpp:0<p.length:=by cases p with | nil=>exact absurd rfl hne | cons _ _=>simp
 have hlen:(rowsOf C (q++p)).length=q.length+p.length:=by simp [rowsOf]
 have happ:rowsOf C (q++p)=rowsOf C q++rowsOf C p:=by simp [rowsOf]
 have hqr:(rowsOf C q).length=q.length:=by simp [rowsOf]
 obtain ⟨k1,k2⟩:=way_end wq
 obtain ⟨k3,k4⟩:=way_end wp
 have w:=wq.app wp
 obtain ⟨hok,_⟩:=way_movs w
 have hini:iniF C.lats (bitsN s0 C.lats.length) 0=none:=by
  have:=(List.mem_filter.1 hs0).2
  unfold wst at this
  simpa using this
 have came:∀ x∈mustOf C j,∃ V∈stepsV C (endS C (bitsN s0 C.lats.length) (rowsOf C q)) (rowsOf C p),lit V x=true:=fun x hx=>by
  obtain ⟨a,ha,hl⟩:=hP (fun a=>lit a.vl x=true) (List.mem_cons_of_mem _ (List.mem_map.2 ⟨x,hx,rfl⟩))
  rw [k1,k4]
  exact ⟨a.vl,List.mem_map.2 ⟨a,ha,rfl⟩,hl⟩
 obtain ⟨c1,c2⟩:=(came_must h0 h1).2 came
 rw [hqr,<- happ] at c1 c2
 have tn:((q.length:Nat):Int).toNat=q.length:=Int.toNat_natCast _
 refine ⟨⟨bitsN s0 C.lats.length,rowsOf C (q++p),(q.length:Nat)⟩,⟨hc,h0,h1,⟨bitsN_len,by simp only [hlen];omega,by simp only [hlen];omega,by simp only;omega,by simp only [hlen];omega,fun r hr=>?_⟩,hini,hok,by simp only;omega,fun M hM=>?_,fun k hk=>?_,fun k hk=>?_⟩,by simp only [hlen];omega⟩
 ·obtain ⟨a,_,rfl⟩:=List.mem_map.1 hr
  exact bitsN_len
 ·simp only [tn] at hM ⊢
  have:=endS_take hM
  rw [happ,List.take_append_of_le_length (by omega),List.take_of_length_le (by omega)] at this
  rw [happ,endS_app,k1,k3,<- this,k1]
 ·simp only [tn]
  exact c1 k hk
 ·simp only [tn]
  exact c2 k hk
theorem live_safe {j:Int} (hE:lsE C j=0) (hN:2 ^ C.lats.length*((mustOf C j).length+1)*2 ^ C.lats.length+2 ^ C.lats.length≤512) (hX:(wdC (lassoX C (mustOf C j))).n≤512) {x z:Int} (hx:(lassoX C (mustOf C j)).bads[(0:Int).toNat]?=some x) (hb:BadIs (wdC (lassoX C (mustOf C j))) (fun a=>lit a.vl x=true) z) :
  (∃ s,FairG (wdC C) (mustP (mustOf C j)) s)↔0≤z:=by
 obtain ⟨hc,⟨h0,h1⟩,hl⟩:=lsE_ok hE
 obtain ⟨hXc,hm,_⟩:=lsX_facts hE
 have hXc':(chk (lassoX C (mustOf C j))).2=0:=by rw [hXc]
 have h1b:(0:Int)<(lassoX C (mustOf C j)).bads.length:=by
  have:=(List.getElem?_eq_some_iff.1 hx).1
  omega
 constructor
 ·intro hf
  obtain ⟨T,l,hT⟩:=fair_lasso hc h0 h1 hN (Nat.le_refl _) hf
  have hF:forE C j T=0:=by
   unfold forE
   rw [if_neg (by simp [hE]),if_neg (by
    refine fun hn=>hn ⟨l.fit.1,l.fit.2.1,by omega,l.fit.2.2.2.2.2⟩),if_neg (by rw [of_lasso l];simp)]
  obtain ⟨_,hp,_⟩:=there hF
  refine Decidable.byContradiction fun hz=>?_
  have hz1:z = -1:=by rcases hb with ⟨h,_⟩ | ⟨d,h,_⟩ <;> omega
  subst hz1
  exact bad_no hb (Int.le_refl _) h1b hx (by rw [hp])
 ·intro hz
  obtain ⟨d,rfl⟩:∃ d:Nat,z=d:=⟨z.toNat,by omega⟩
  have hdn:=hb.le (wd_ok _)
  obtain ⟨s,hs,hl⟩:=hb.lead (p:=litP x)
  obtain ⟨hrun,hlen⟩:=ltT_run hXc' (Int.le_refl _) h1b hx hs (by omega) hl
  have hB:backE C j (ltT (lassoX C (mustOf C j)) x d s)=0:=by
   unfold backE
   have e:({ ltT (lassoX C (mustOf C j)) x d s with loop :=-1 }:Tr)=ltT (lassoX C (mustOf C j)) x d s:=rfl
   rw [if_neg (by simp [hE]),if_neg (by
    refine fun hn=>hn ⟨bitsN_len,by omega,by omega,fun r hr=>?_⟩
    obtain ⟨a,_,rfl⟩:=List.mem_map.1 hr
    exact bitsN_len),e,hrun,if_neg (by simp)]
  obtain ⟨_,hp⟩:=back hB
  exact lasso_fair (lasso_of hp).1
end
end Go.Proofs.Ytdpbdjdgdmheiaa
namespace Go.Proofs.Ytdpbdjdgdmheiaa
open Go.Hx Go.Deep
section
variable {h:Heap} {v:CV} {C:Circ} {j:Int}
set_option maxRecDepth 4000 in
theorem c9 (r:CIs h v C) (ok:C.Ok):CallsH Try.prog 9 #[v.v,.int .i64 j] h (Xt (.bool true) h):=by
 obtain ⟨q1,q2,q3,q4,q5,q6,q7,q8,q9,q10⟩:=r.len
 refine run9 v j _ h ?_
 unfold VC9
 intro h1
 have e1:Ext h h1:=Ext.box h _
 have hb:Rd h1 (some ⟨h.size,0,none⟩) 11 v.cs:=boxC v 29
 refine useX (c23) fun h2 e2=>⟨true,rfl,BIf.f ?_⟩
 have e02:=e1.trans e2
 have hb2:=hb.ext e2
 have r2:=r.ext e02
 have tt:∀ {h'},Ext h2 h'->Xt (.bool true) h (.bool true) h':=fun e=>⟨rfl,e02.trans e⟩
 unfold J9_0
 refine ⟨_,_,_,hb2.fld 2 rfl,fun _=>tt (.refl _),fun s1=>⟨_,_,_,hb2.fld 1 rfl,fun _=>tt (.refl _),fun s2=>⟨_,_,_,hb2.fld 8 rfl,fun _=>tt (.refl _),fun s3=>⟨_,_,_,hb2.fld 7 rfl,fun _=>tt (.refl _),fun s4=>?_⟩⟩⟩⟩
 have main:(0≤j->j<C.just.length->(mustOf C j).length≤4)->J9_1 Try.prog (Xt (.bool true) h) h j h2:=fun hJ=>by
  unfold J9_1
  refine ldC hb2 ((c24 (j:=j) r2 ok).mono ?_)
  rintro _ h4 ⟨e4,v',rfl,cisF⟩
  have cis:CIs h4 v' (safeC C j):=cisF.self
  refine ⟨_,_,_,_,_,_,_,_,_,_,_,_,_,_,_,_,_,_,_,_,_,_,_,_,_,_,_,_,_,_,_,_,rfl,boxN (zs:=CV.zero.cs) (ws:=v'.cs) rfl (CV.one v') fun h6 e6 b6=>?_⟩
  have e26:=e4.trans e6
  have b6:Rd h6 (some ⟨h4.size,0,none⟩) 11 v'.cs:=b6
  refine ⟨fun hE=>?_,fun hE=>?_⟩
  rotate_left
  ·rw [safeC_ne hE] at cis
   have hn:v'.g.n=0:=by have:=cis.len.g;simpa [Circ.zero] using this.symm
   exact ⟨_,_,_,b6.fld 8 rfl,fun _=>tt e26,fun hh=>absurd (by rw [hn] <;> rfl) hh⟩
  rw [safeC_0 hE] at cis
  obtain ⟨hc,⟨h0,h1'⟩,hl⟩:=lsE_ok hE
  obtain ⟨hX,hm,_,xl,xi,_,xb⟩:=lsX_facts hE
  have hm4:=hJ h0 h1'
  obtain ⟨G,NL,a⟩:=lasso_some hc (must_ok hc h0 h1')
  have xa:(lassoX C (mustOf C j)).ands.length=C.ands.length+(2+7*C.lats.length+3*(mustOf C j).length):=by rw [a.ands,List.length_append,a.gl]
  have p2:=cis.len.l
  unfold J9_2
  refine ⟨_,_,_,b6.fld 2 rfl,fun _=>tt e26,fun s5=>?_⟩
  have fe:fewE C=0:=by unfold fewE;rw [if_neg (by simp [hc]),if_neg (by omega)]
  have feX:fewE (lassoX C (mustOf C j))=0:=by unfold fewE;rw [if_neg (by rw [hX];simp),if_neg (by rw [xa,xi];omega)]
  have hJE:jusE C j=0:=by unfold jusE;rw [if_neg (by simp [fe]),if_pos ⟨h0,h1'⟩]
  have hBE:badE (lassoX C (mustOf C j)) 0=0:=by unfold badE;rw [if_neg (by simp [feX]),if_pos (by rw [xb];omega)]
  have okX:=lsX_ok ok hE
  unfold J9_3
  refine ldC (hb2.ext e26) ((c13 (r2.ext e26) ok j).mono ?_)
  rintro _ h9 ⟨e9,⟨_,b,rfl,hbb⟩ | ⟨hn,_⟩⟩
  rotate_left
  ·exact absurd hJE hn
  refine ⟨_,_,rfl,ldC (b6.ext e9) ((c12 ((cis.ext e6).ext e9) okX 0).mono ?_)⟩
  rintro _ h10 ⟨e10,⟨_,z,x,hx,rfl,bz⟩ | ⟨hn,_⟩⟩
  rotate_left
  ·exact absurd hBE hn
  have t10:=tt ((e26.trans e9).trans e10)
  have p8:2 ^ C.lats.length≤2 ^ 3:=Nat.pow_le_pow_right (by omega) (by omega)
  have hN:2 ^ C.lats.length*((mustOf C j).length+1)*2 ^ C.lats.length+2 ^ C.lats.length≤512:=by
   have:=Nat.mul_le_mul (Nat.mul_le_mul p8 (show (mustOf C j).length+1≤5 by omega)) p8
   omega
  have hXn:(wdC (lassoX C (mustOf C j))).n≤512:=Nat.le_trans (show 2 ^ (lassoX C (mustOf C j)).lats.length≤2 ^ 8 from Nat.pow_le_pow_right (by omega) (by omega)) (by decide)
  have key:=live_safe hE hN hXn hx bz
  rw [<- hbb] at key
  refine ⟨_,_,rfl,fun _=>⟨fun _=>⟨fun hz=>⟨fun _=>t10,fun hh=>absurd (key.2 hz) hh⟩,fun hz=>⟨fun _=>t10,fun hh=>absurd ?_ hh⟩⟩,fun hh=>absurd rfl hh⟩,fun hh=>absurd rfl hh⟩
  cases b with
  | false=>rfl
  | true=>exact absurd (key.1 rfl) hz
 refine ⟨fun hj0=>⟨_,_,_,hb2.fld 6 rfl,fun hj1=>⟨_,_,_,hb2.fld 6 rfl,hj0,hj1,?_⟩,fun hj1=>main fun _ h=>absurd (by omega) hj1⟩,fun hj0=>main fun h _=>absurd h hj0⟩
 have hjn:j.toNat<v.j.n:=by omega
 refine r2.j.get (i:=j.toNat) hjn fun ad hl x hc hr hxc hx1 hxn=>⟨_,_,_,hc,fun _=>tt (.refl _),fun s5=>main fun _ _=>?_⟩
 unfold mustOf
 rw [List.length_append,List.getD_eq_getElem?_getD,List.getElem?_eq_getElem hl]
 show C.just[j.toNat].length+_≤4
 omega
end
end Go.Proofs.Ytdpbdjdgdmheiaa
