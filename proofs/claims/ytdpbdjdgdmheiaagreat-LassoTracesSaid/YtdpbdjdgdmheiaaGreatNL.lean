/- Words and facts that the claim's proof leans on. No condition. -/
import Derived.Test.YtdpbdjdgdmheiaaGreatMF
import Derived.Test.YtdpbdjdgdmheiaaGreatNA
import Derived.Test.YtdpbdjdgdmheiaaGreatCR
import Derived.Test.YtdpbdjdgdmheiaaGreatMJ
import Derived.Test.YtdpbdjdgdmheiaaGreatPA
set_option linter.unusedVariables false
set_option linter.unusedSimpArgs false
namespace Go.Proofs.YtdpbdjdgdmheiaaGreat
open Go.Hx
section
variable {C:Circ} {must:List Int} {s:LsSt} {r:List Bool} {b:Bool}
theorem now_val (h:(chk C).2=0) (hm:MustOk C must) (hX:(chk (lassoX C must)).2=0) (o:s.Ok C must) (hr:r.length=C.ins.length) :
  lit (valsOf (lassoX C must) s.l (r++[b])) (nL (ls0 C must))=(b && !s.sv):=by
 obtain ⟨G,NL,a⟩:=lasso_some h hm
 have m0:=(gok h).mx0
 have hv:=valsOf_is h hr o.st
 have hV:=hv.len
 have hwl:(s.sv::(s.sh++s.se)).length=1+C.lats.length+must.length:=by simp [o.sh,o.se];omega
 have hnl:=a.nl
 have eW:=vals_more (ls_more a) h hX (fun i g hg=>(a.gok i g hg).2) o.st hr (st2:=s.sv::(s.sh++s.se)) (row2:=[b]) (by omega) rfl
 have hlen:(valsOf C s.st r++([b]++(s.sv::(s.sh++s.se)))).length=(C.mx+1).toNat+lsP C must:=by
  rw [List.length_append,List.length_append,hwl,hV];unfold lsP;simp;omega
 have w:=lasso_w h hm a hlen
 change valsOf (lassoX C must) s.l (r++[b])=_ at eW
 rw [eW,w.now]
 have at0:∀ (j:Nat) x,([b]++(s.sv::(s.sh++s.se)))[j]?=some x->∀ l:Int,l=2*(C.mx+1+j)->lit (valsOf C s.st r++([b]++(s.sv::(s.sh++s.se)))) l=x:=fun j x hx l hl=>by
  refine lit_at (j:=(C.mx+1).toNat+j) ?_ (by omega)
  rw [List.getElem?_append_right (by omega),hV,Nat.add_sub_cancel_left]
  exact hx
 rw [at0 0 b rfl _ (by unfold lsSave;omega),at0 1 s.sv rfl _ (by unfold lsSaved;omega)]
theorem now_at (h:(chk C).2=0) (hm:MustOk C must) (hX:(chk (lassoX C must)).2=0) {st row:List Bool} (hs:st.length=C.lats.length+(1+C.lats.length+must.length)) (hr:row.length=C.ins.length+1) :
  lit (valsOf (lassoX C must) st row) (nL (ls0 C must))=(row.getD C.ins.length false && !st.getD C.lats.length false):=by
 let s:LsSt:=⟨st.take C.lats.length,st.getD C.lats.length false,(st.drop (C.lats.length+1)).take C.lats.length,(st.drop (C.lats.length+1)).drop C.lats.length⟩
 have o:s.Ok C must:=⟨by simp [s];omega,by simp [s];omega,by simp [s];omega⟩
 have hl:s.l=st:=by
  show st.take C.lats.length++(st.getD C.lats.length false::((st.drop (C.lats.length+1)).take C.lats.length++(st.drop (C.lats.length+1)).drop C.lats.length))=st
  rw [List.take_append_drop,List.getD_eq_getElem?_getD,List.getElem?_eq_getElem (by omega),Option.getD_some,<- List.drop_eq_getElem_cons,List.take_append_drop]
 have hrow:row.take C.ins.length++[row.getD C.ins.length false]=row:=by
  rw [List.getD_eq_getElem?_getD,List.getElem?_eq_getElem (by omega),Option.getD_some,<- List.take_succ_eq_append_getElem (by omega),List.take_of_length_le (by omega)]
 have:=now_val (r:=row.take C.ins.length) (b:=row.getD C.ins.length false) h hm hX o (by simp;omega)
 rwa [hl,hrow] at this
theorem now_rng (h:(chk C).2=0) (hm:MustOk C must) (hX:(chk (lassoX C must)).2=0):0≤nL (ls0 C must)/\nL (ls0 C must)≤1000000/\(nL (ls0 C must) / 2).toNat<((lassoX C must).mx+1).toNat:=by
 obtain ⟨G,NL,a⟩:=lasso_some h hm
 have m0:=(gok h).mx0
 have hx:=a.mx
 have hg:=a.gl
 have hb:=(chk_bounds hX).1.2
 have e:nL (ls0 C must)=2*(C.mx+2+C.lats.length+must.length+1):=rfl
 have hp:((lsP C must:Nat):Int)=2+C.lats.length+must.length:=by unfold lsP;omega
 omega
end
end Go.Proofs.YtdpbdjdgdmheiaaGreat
namespace Go.Hx
theorem Zone.of_hasL {S:Nat->Prop} {h:Heap} {x:Addr} (hx:S x.block):Zone.hasL (Zone.of S) h x:=fun h' z=>cellH_congr (z _ hx)
theorem Upd.zone {S Q:Nat->Prop} {h h':Heap} (u:Upd Q h h') (hS:∀ b,S b->b<h.size/\¬ Q b):(Zone.of S).r h h':=fun b hb=>u.2 b (hS b hb).1 (hS b hb).2
theorem TB.row {h9 h26:Heap} {kb:Addr} {u:TV} {R:Tr} {rows:List RwB} {X:List Itm} (b:TB h9 h26 kb u R rows X) {l:List Bool} {ys:List Value} {n:Nat} (hys:ys=bools l) (hn:l.length=n) (hnb:n≤100000) (hun:u.s.n≤100000) {S:Nat->Prop}
  (hS:∀ x,S x->x<h26.size/\¬ atb u.s.a x) {te:TypeId} {K:Heap->Prop}
  (hK:∀ h' u' rows',u'.i=u.i->u'.lp=u.lp->u'.s.n=u.s.n+1->TB h9 h' kb u' ⟨R.init,R.ins++[l],R.loop⟩ rows' X->K h') :
  AppS (h26.push (.cells #[] 4)) (some ⟨h26.size,0,none⟩) 0 0 4 1 1 #[.bool false] ys n fun apA1 apN1 apC1 h_28=>(Zone.of S).r (h26.push (.cells #[] 4)) h_28/\let h_29:Heap:=(h_28).push (.cells #[.slice apA1 apN1 apC1] te);(Zone.of S).r h_28 h_29/\∃ ys2:List Value,ReadL h_29 (some ⟨h_28.size,0,none⟩) ys2/\ys2.length=1*1/\AppS h_29 u.s.a u.s.n u.s.c te 24 1 #[.slice none 0 0] ys2 1 fun apA2 apN2 apC2 h_30=>(Zone.of S).r h_29 h_30/\StoreH h_30 (kb.add 1) [.slice apA2 apN2 apC2] K:=by
 subst hys
 subst hn
 have e27:Ext h26 (h26.push (.cells #[] 4)):=Ext.push h26 _
 have m27:=b.mem.add (t:=⟨1,some ⟨h26.size,0,none⟩,0,0,[]⟩) ⟨Own.empty (push_at h26 _),(fun ad ha=>by cases ha;exact Nat.le_refl _),e27⟩
 refine app0 (m27.get 0 rfl) (by simp [bools]) bools_one (by omega) fun a1 c1 h28 f28 u28 hor=>⟨?_,?_⟩
 ·exact u28.zone fun x hx=>⟨Nat.lt_of_lt_of_le (hS x hx).1 e27.1,fun ⟨ad,ha,e⟩=>by cases ha;have:=(hS x hx).1;simp only at e;omega⟩
 have m28:=m27.setAt 0 (t':=⟨1,a1,l.length,c1,bools l⟩) rfl f28 u28 hor
 have z28:h26.size≤h28.size:=Nat.le_trans e27.1 u28.1
 intro h29
 have e29:Ext h28 h29:=Ext.push h28 _
 have r29:=(Fr.lit (.refl h28) [Value.slice a1 l.length c1] te 1 rfl).rd
 have m29:=m28.ext' e29
 refine ⟨Upd.zone e29 fun x hx=>⟨Nat.lt_of_lt_of_le (hS x hx).1 z28,fun h=>h⟩,[.slice a1 l.length c1],r29.read,rfl,(m29.get 3 rfl).app rfl (by simp [Value.oneCell']) (by omega) fun a3 c3 h30 f30 u30 hor30=>⟨?_,?_⟩⟩
 ·exact u30.zone fun x hx=>⟨Nat.lt_of_lt_of_le (hS x hx).1 (Nat.le_trans z28 e29.1),(hS x hx).2⟩
 have m30:=m29.setAt 3 (t':=⟨1,a3,u.s.n+1,c3,rows.map RwB.v++[.slice a1 l.length c1]⟩) rfl f30 u30 hor30
 refine (m30.get 1 rfl).cellAt 1 (by omega) rfl fun h31 u31 f31=>?_
 have m31:=m30.setAt 1 (t':=⟨1,some kb,3,3,_⟩) rfl f31 u31 (.inl rfl)
 let sn:RwB:=⟨a1,l.length,c1,l⟩
 have er:rows.map RwB.v++[Value.slice a1 l.length c1]=(rows++[sn]).map RwB.v:=by simp [RwB.v,sn]
 refine hK h31 ⟨u.i,⟨a3,u.s.n+1,c3⟩,u.lp⟩ (rows++[sn]) rfl rfl rfl ⟨b.lp,by rw [List.map_append,b.rl];rfl,?_⟩
 rw [er] at m31
 refine m31.perm ?_
 have ei:itemsT ⟨u.i,⟨a3,u.s.n+1,c3⟩,u.lp⟩ ⟨R.init,R.ins++[l],R.loop⟩ (rows++[sn])++X=[⟨1,u.i.a,u.i.n,u.i.c,bools R.init⟩,⟨1,a3,u.s.n+1,c3,(rows++[sn]).map RwB.v⟩]++(rows.map (fun r=>(⟨1,r.a,r.n,r.c,bools r.l⟩:Itm))++(⟨1,a1,l.length,c1,bools l⟩::X)):=by
  unfold itemsT
  rw [List.append_assoc]
  refine congrArg (fun z=>[_,_]++z) ?_
  rw [List.map_append,List.append_assoc]
  rfl
 rw [ei]
 exact (List.perm_middle (l₁:=_::_::_::rows.map (fun r=>(⟨1,r.a,r.n,r.c,bools r.l⟩:Itm)))).symm
end Go.Hx
namespace Go.Proofs.YtdpbdjdgdmheiaaGreat
open Go.Hx Go.Deep
def BackD (C:Circ) (j:Int) (U:Tr) (h:Heap) (w:Value) (h':Heap):Prop:=Ext h h'/\∃ u:TV,w=.tuple #[u.v,.int .i64 (backE C j U)]/\TIs h' u (backL C j U)
theorem runQ_of_prop {X:Circ} {T:Tr} (hc:(chk X).2=0) (h:(propQ X 98 0 T).2=0):(runQ X T).2.2=0:=by
 rw [propQ_bad hc] at h
 split at h
 ·unfold badQ at h
  split at h
  ·rename_i h1 h2;exact absurd h h2
  ·rename_i h1 h2;exact Decidable.not_not.1 h2
 ·simp at h
section
variable {h:Heap} {v:CV} {C:Circ} {j:Int} {w:TV} {U:Tr}
set_option maxRecDepth 4000 in
theorem c37 (r:CIs h v C) (ok:C.Ok) (q:TIs h w U) (ti:U.ins.length≤5864062014634) (hc1:w.i.n≤w.i.c):CallsH Tryz.prog 37 #[v.v,.int .i64 j,w.v] h (BackD C j U h):=by
 have ql:=q.i.ilen
 have qs:=q.s.len
 have q1:=r.len.i
 have q2:=r.len.l
 refine run37 v j w _ h ?_
 unfold VC37
 intro h1 h2 h3
 have e1:Ext h h1:=Ext.box h _
 have e12:Ext h1 h2:=Ext.push h1 _
 have e23:Ext h2 h3:=Ext.push h2 _
 have e3:Ext h h3:=(e1.trans e12).trans e23
 have hs1:h1.size=h.size+1:=by simp [h1]
 have hs2:h2.size=h.size+2:=by simp [h2,hs1]
 have hs3:h3.size=h.size+3:=by simp [h3,hs2]
 have hb1:Rd h1 (some ⟨h.size,0,none⟩) 11 v.cs:=boxC v 29
 have fw:Fr h1 1 h2 (some ⟨h1.size,0,none⟩) 3 3 w.cs:=Fr.lit (.refl h1) w.cs 49 3 rfl
 have fz:Fr h2 1 h3 (some ⟨h2.size,0,none⟩) 3 3 TV.zero.cs:=Fr.lit (.refl h2) TV.zero.cs 49 3 rfl
 let iz:Itm:=⟨1,some ⟨h2.size,0,none⟩,3,3,TV.zero.cs⟩
 have mm:Mem h1 h3 [iz,⟨1,some ⟨h1.size,0,none⟩,3,3,w.cs⟩]:=((Mem.nil (.refl h1)).add fw).add fz
 have bad:∀ {hx:Heap} {e:Int},Fr h1 1 hx (some ⟨h2.size,0,none⟩) 3 3 TV.zero.cs->backE C j U=e->e≠0->StoreH hx (Addr.mk h2.size 0 none) TV.zero.cs fun h4=>LdT h4 (Addr.mk h2.size 0 none) fun t=>
   BackD C j U h (.tuple #[t.v,.int .i64 e]) h4:=fun {hx e} f he hne=>by
  refine f.put (ws:=TV.zero.cs) rfl (TV.one _) fun h4 f4 u4=>ldT (v:=TV.zero) f4.rd ⟨e1.trans f4.ext,TV.zero,by rw [he],?_⟩
  rw [backL_ne he hne]
  exact (TNew.zero (.refl _)).tis
 refine ldC (hb1.ext mm.ext) ((c69 (j:=j) (r.ext e3) ok).mono ?_)
 rintro _ h4 ⟨e4,v',rfl,cf⟩
 have cf:Far h4 h3.size h4.size fun h'=>CIs h' v' (safeC C j):=cf
 refine ⟨_,_,_,_,_,_,_,_,_,_,_,_,_,_,_,_,_,_,_,_,_,_,_,_,_,_,_,_,_,_,_,_,_,rfl,boxN (zs:=CV.zero.cs) (ws:=v'.cs) rfl (CV.one v') fun h6 e6 b6=>?_⟩
 have b6:Rd h6 (some ⟨h4.size,0,none⟩) 11 v'.cs:=b6
 have m6:=mm.ext' (e4.trans e6)
 have z4:h3.size≤h4.size:=e4.1
 refine ⟨fun hz=>?_,fun hz=>bad (m6.get 0 rfl) (by unfold backE;rw [if_pos hz]) hz⟩
 obtain ⟨hX,hm,hc,xl,xi,_,xb⟩:=lsX_facts hz
 have hX2:(chk (lassoX C (mustOf C j))).2=0:=by rw [hX]
 have okX:=lsX_ok ok hz
 have hnow:nowI C j=nL (ls0 C (mustOf C j)):=by unfold nowI;rw [if_pos hz]
 rw [hnow]
 rw [safeC_0 hz] at cf
 have cis6:=cf.self.ext e6
 have lenl:=cis6.len.l
 have leni:=cis6.len.i
 unfold J37_0
 refine ldT (m6.get 1 rfl).rd ⟨_,_,_,b6.fld 2 rfl,_,_,_,b6.fld 1 rfl,?_⟩
 refine useX (c79 (q.ext (e1.trans m6.ext)) (nl:=v'.l.n) (ni:=v'.i.n) (most:=512) (by omega)) fun h7 e7=>⟨_,rfl,?_⟩
 rw [<- lenl,<- leni]
 have m7:=m6.ext' e7
 by_cases hN:FitN U (lassoX C (mustOf C j)).lats.length (lassoX C (mustOf C j)).ins.length 512
 rotate_left
 ·rw [decide_eq_false hN]
  refine BIf.t (bad (m7.get 0 rfl) ?_ (by decide))
  unfold backE;rw [if_neg (by simp [hz]),if_pos hN]
 rw [decide_eq_true hN]
 refine BIf.f ?_
 have hNk:=hN
 obtain ⟨n1,n2,n3,n4⟩:=hN
 rw [xl] at n1
 rw [xi] at n4
 unfold J37_1
 refine (m7.get 1 rfl).cellAt 2 (by omega) rfl fun h8 u8 f8=>?_
 let w':TV:=⟨w.i,w.s,-1⟩
 have m8:Mem h1 h8 [iz,⟨1,some ⟨h1.size,0,none⟩,3,3,w'.cs⟩]:=m7.setAt 1 (t':=⟨1,some ⟨h1.size,0,none⟩,3,3,w'.cs⟩) rfl f8 u8 (.inl rfl)
 have u8':Upd (fun b=>b=h1.size) h7 h8:=u8.mono fun b _ ⟨ad,ha,e⟩=>by cases ha;exact e
 have e08:Ext h h8:=e1.trans m8.ext
 have q8:TIs h8 w' { U with loop :=-1 }:=⟨(q.ext e08).i,(q.ext e08).s,rfl⟩
 have r8:=r.ext e08
 have b8:Rd h8 (some ⟨h4.size,0,none⟩) 11 v'.cs:=(b6.ext e7).upd u8' fun ad ha hb=>by cases ha;simp only at hb;omega
 have cis8:CIs h8 v' (lassoX C (mustOf C j)):=(cf.ext (e6.trans e7) (Nat.le_refl _)) _ h8 u8' fun b hb1 hb2 hb=>by omega
 have hfit:Fit (lassoX C (mustOf C j)) { U with loop :=-1 }:=⟨by rw [xl];exact n1,n2,n3,Int.le_refl _,by show (-1:Int)<_;omega,fun r hr=>by rw [xi];exact n4 r hr⟩
 refine ldC b8 (ldT (m8.get 1 rfl).rd (useX (c80 cis8 okX q8 0) fun h9 e9=>⟨_,_,rfl,fun hp=>?_,fun hp=>?_⟩))
 rotate_left
 ·refine bad ((m8.ext' e9).get 0 rfl) ?_ (by decide)
  unfold backE;rw [if_neg (by simp [hz]),if_neg (Decidable.not_not.2 hNk),if_pos hp]
 have hE:backE C j U=0:=by unfold backE;rw [if_neg (by simp [hz]),if_neg (Decidable.not_not.2 hNk),if_neg (Decidable.not_not.2 hp)]
 have hrq:=runQ_of_prop hX2 hp
 have hRQ:=(runQ_ok hrq).2.2.1
 have m9:=m8.ext' e9
 have b9:=b8.ext e9
 have cis9:=cis8.ext e9
 have q9:=q8.ext e9
 unfold J37_2
 refine ldC b9 (ldT (m9.get 1 rfl).rd ((c81 cis9 okX hX2 q9 hfit).mono ?_))
 rintro _ h10 ⟨e10,⟨_,ma,mn,mc,sa,sn,sc,rfl,mos,_⟩ | ⟨hne,_⟩⟩
 rotate_left
 ·exact absurd hrq hne
 rw [hRQ] at mos
 simp only at mos
 refine ⟨_,_,_,_,_,_,_,_,rfl,ldC (b9.ext e10) ((c82 (cis9.ext e10) okX).mono ?_)⟩
 rintro _ h11 ⟨e11,⟨_,ord,oa,oc,rfl,go,ro⟩ | ⟨hne,_⟩⟩
 rotate_left
 ·exact absurd hX2 hne
 refine ⟨_,_,_,_,rfl,?_⟩
 intro h12
 have e12':Ext h11 h12:=Ext.push h11 _
 have e9B:Ext h9 h12:=(e10.trans e11).trans e12'
 have mB:=m9.ext' e9B
 have hbB:=hb1.ext mB.ext
 have nn:C.lats.length≤w.i.n:=by omega
 refine ⟨_,_,_,(mB.get 1 rfl).rd.fld 0 rfl,_,_,_,hbB.fld 2 rfl,Int.le_refl _,by omega,by show ((v.l.n:Nat):Int)≤(w.i.c:Nat);omega,bools (U.init.take C.lats.length),?_,?_,?_⟩
 ·rw [cutA0]
  have:=((q9.ext e9B).i).take v.l.n (by show v.l.n≤w.i.n;omega)
  rw [bools,<- List.map_take] at this
  rw [q2]
  exact this.read
 ·simp only [Int.toNat_natCast,Int.toNat_zero,bools,List.length_map,List.length_take]
  omega
 have bl:(bools (U.init.take C.lats.length)).length=v.l.n*1:=by simp only [bools,List.length_map,List.length_take];omega
 have c2:=(chk_bounds hc).2.2.1
 have c1:=(chk_bounds hc).2.1
 show AppS h12 (some ⟨h11.size,0,none⟩) 0 0 4 1 1 #[.bool false] (bools (U.init.take C.lats.length)) v.l.n _
 refine app0n (h:=h11) bl bools_one (by omega) fun a13 c13 h13 f13=>?_
 intro h14
 have f14:Fr h13 1 h14 (some ⟨h13.size,0,none⟩) 3 3 TV.zero.cs:=Fr.lit (.refl h13) TV.zero.cs 49 3 rfl
 have m14:Mem h11 h14 [⟨1,some ⟨h13.size,0,none⟩,3,3,TV.zero.cs⟩,⟨1,a13,v.l.n,c13,bools (U.init.take C.lats.length)⟩]:=(((Mem.nil (.refl h11)).add (t:=⟨1,a13,v.l.n,c13,bools (U.init.take C.lats.length)⟩) f13).add (t:=⟨1,some ⟨h13.size,0,none⟩,3,3,TV.zero.cs⟩) f14)
 let u0:TV:=⟨⟨a13,v.l.n,c13⟩,⟨none,0,0⟩,0⟩
 refine (m14.get 0 rfl).put (ws:=u0.cs) rfl (TV.one _) fun h15 f15 u15=>?_
 have tb15:TB h11 h15 ⟨h13.size,0,none⟩ u0 ⟨U.init.take C.lats.length,[],0⟩ [] []:=by
  have m15:=m14.setAt 0 (t':=⟨1,some ⟨h13.size,0,none⟩,3,3,u0.cs⟩) rfl f15 u15 (.inl rfl)
  refine ⟨rfl,rfl,?_⟩
  have:=m15.add (t:=⟨1,none,0,0,[]⟩) (.nil (.refl h15))
  refine this.perm ?_
  have p:∀ (n b i:Itm),[n,b,i].Perm [b,i,n]:=fun n b i=>List.perm_append_comm (l₁:=[n]) (l₂:=[b,i])
  exact p _ _ _
 clear m14 f15 u15 f14 f13
 have lenM:(movs (lassoX C (mustOf C j)) U.init U.ins).length=U.ins.length:=movs_len
 have hmn:mn=U.ins.length:=by rw [<- mos.len,movs_len]
 have m11:=m9.ext' (e10.trans e11)
 have b11:=b9.ext (e10.trans e11)
 have cis11:=cis9.ext (e10.trans e11)
 have q11:=q9.ext (e10.trans e11)
 have hb11:=hb1.ext m11.ext
 have hw11:=(m11.get 1 rfl).rd
 have mos11:=mos.ext e11
 obtain ⟨rws,hrd,hrr,hrl⟩:=q11.s.ex
 have hn0:0<w.s.n:=by omega
 obtain ⟨rad,hrad⟩:=hrd.some hn0
 have hrad:w.s.a=some rad:=hrad
 refine LoopT.to (n:=U.ins.length) (by omega) (fun i h'=>∃ (u:TV) (rows:List RwB),u.s.n=min i (U.ins.length-1)/\TB h11 h' ⟨h13.size,0,none⟩ u ⟨U.init.take C.lats.length,(U.ins.take (min i (U.ins.length-1))).map (·.take C.ins.length),u.lp⟩ rows [] /\
  loopF C.ins.length C.lats.length ((movs (lassoX C (mustOf C j)) U.init U.ins).drop i) (U.ins.drop i) i u.lp=loopF C.ins.length C.lats.length (movs (lassoX C (mustOf C j)) U.init U.ins) U.ins 0 0) ⟨u0,[],by simp [u0],by simpa using tb15,rfl⟩ ?_
 rintro i h16 K hi ⟨u,rows,hun,tb,hlp⟩ hK
 have e16:=tb.mem.ext
 have hw16:=hw11.ext e16
 have hb16:=hb11.ext e16
 have q16:=q11.ext e16
 refine ⟨_,_,_,hw16.fld 1 rfl,fun hlt=>?_,fun hlt=>?_⟩
 ·have hlt:(i:Int)<(w.s.n:Nat):=hlt
  have hiU:i<U.ins.length:=by omega
  have hsz:h11.size≤h16.size:=e16.1
  unfold J37_4
  refine ldC (b11.ext e16) ⟨by omega,by omega,(mos11.ext e16).elem (i:=i) (by omega) fun ad mo hl1 re hmo=>⟨_,_,_,re.fld 0 rfl,_,_,_,hw16.fld 1 rfl,by omega,hlt,q16.s.get (i:=i) (by omega) fun ad5 hl2 s hc5 hr5 _ hsl hsn=>⟨_,_,_,hc5,?_⟩⟩⟩
  have hM:(movs (lassoX C (mustOf C j)) U.init U.ins)[i].st.length=(lassoX C (mustOf C j)).lats.length:=(movs_mem hX2 (by rw [xl];exact n1) (List.getElem_mem hl1)).1
  have hmsl:=hmo.s.ilen
  have hrow:U.ins[i].length=C.ins.length+1:=n4 _ (List.getElem_mem hl2)
  have hsn':s.n=C.ins.length+1:=by rw [hsn];exact hrow
  have hsl:s.l=U.ins[i]:=hsl
  rw [hsl] at hr5
  refine (c83 (cis11.ext e16) go (ro.ext e16) hmo.s hr5 (by omega) (by omega)).mono ?_
  rintro _ h17 ⟨a17,c17,rfl,f17⟩
  obtain ⟨w1,w2,w3⟩:=now_rng hc hm hX2
  refine ⟨_,_,_,rfl,use (c58 f17.rd w1 w2 w3) ⟨_,rfl,?_⟩⟩
  rw [now_at hc hm hX2 (by rw [hM,xl]) hrow]
  have tb17:=tb.ext f17.ext
  have fall:=hlp
  rw [loopF_drop hl1 hl2] at fall
  have rest:∀ (hx:Heap) (u1:TV),u1.s.n=u.s.n->TB h11 hx ⟨h13.size,0,none⟩ u1 ⟨U.init.take C.lats.length,(U.ins.take (min i (U.ins.length-1))).map (·.take C.ins.length),u1.lp⟩ rows [] ->
    u1.lp=(if (U.ins[i].getD C.ins.length false && !(movs (lassoX C (mustOf C j)) U.init U.ins)[i].st.getD C.lats.length false)=true then (i:Int) else u.lp)->J37_5 h h1 h13 (i:Int) K hx:=fun hx u1 hu1 tb1 hlp1=>by
   rw [<- hlp1] at fall
   have ex:=tb1.mem.ext
   have hwx:=hw11.ext ex
   have hbx:=hb11.ext ex
   have qx:=q11.ext ex
   unfold J37_5
   have hwn:IntKind.wrap .i64 (((w.s.n:Nat):Int)-1)=((U.ins.length-1:Nat):Int):=by rw [w64 (by omega) (by omega)];omega
   refine ⟨_,_,_,hwx.fld 1 rfl,?_⟩
   show PIf ((i:Int)<IntKind.wrap .i64 (((w.s.n:Nat):Int)-1)) _ _
   rw [hwn]
   refine ⟨fun hlast=>?_,fun hlast=>?_⟩
   ·have hi1:min i (U.ins.length-1)=i:=by omega
    have hi2:min (i+1) (U.ins.length-1)=i+1:=by omega
    rw [hi1] at tb1 hun
    have off:∀ {a:Addr},a.block<h11.size->a.block<hx.size/\¬ atb u1.s.a a.block:=fun {a} ha=>⟨Nat.lt_of_lt_of_le ha ex.1,fun ⟨ad,hd,e⟩=>by have:=(tb1.mem.get 2 rfl).new ad hd;omega⟩
    have kb_off:¬ atb u1.s.a h13.size:=fun ⟨ad,hd,e⟩=>by
     have hd3:=tb1.mem.dis
     rw [List.pairwise_cons] at hd3
     exact hd3.1 ⟨1,u1.s.a,u1.s.n,u1.s.c,rows.map RwB.v⟩ (by unfold itemsT;simp) ⟨h13.size,0,none⟩ ad rfl hd e
    let S:Nat->Prop:=fun b=>b<hx.size/\¬ atb u1.s.a b
    have hx0:∀ {a:Addr},a.block<h11.size->S a.block:=fun ha=>off ha
    have z1:(Addr.mk h1.size 0 none).block<h11.size:=by have:=cellH_lt (hw11.fld 0 rfl);rwa [add_block] at this
    have z0:(Addr.mk h.size 0 none).block<h11.size:=by have:=cellH_lt (hb11.fld 0 rfl);rwa [add_block] at this
    have zr:rad.block<h11.size:=by
     have:=hrd.read
     rw [hrad] at this
     have hl:0<(rws.map RwB.v).length:=by rw [hrd.len];exact hn0
     have:=cellH_lt (this 0 _ (List.getElem?_eq_getElem hl))
     rwa [add_block] at this
    refine ⟨Zone.of S,Zone.of_hasL (by rw [add_block];exact ⟨(tb1.mem.get 0 rfl).own.lt,kb_off⟩),_,_,_,(tb1.mem.get 0 rfl).rd.fld 1 rfl,?_⟩
    intro h27
    have e27:Ext hx h27:=Ext.push hx _
    have hwy:=hwx.ext e27
    have hby:=hbx.ext e27
    have qy:=qx.ext e27
    refine ⟨Upd.zone e27 fun b hb=>⟨hb.1,fun h=>h⟩,Zone.of_hasL (by rw [add_block];exact hx0 z1),_,_,_,hwy.fld 1 rfl,by omega,hlt,?_⟩
    show AtP w.s.a _
    refine AtP.mk hrad ?_
    obtain ⟨s2,g1,g2,g3,g4⟩:∃ s2:RwB,cellH h27 (rad.add (i*1))=some s2.v/\Rd h27 s2.a s2.n (bools U.ins[i])/\s2.n≤s2.c/\s2.n=C.ins.length+1:=by
     have hil:i<rws.length:=by have:=hrd.ilen;omega
     have h1:=hrd.read
     rw [hrad] at h1
     have h2:=h1 i _ (by rw [List.getElem?_map,List.getElem?_eq_getElem hil];rfl)
     have h3:=hrr _ (List.getElem_mem hil)
     have h4:rws[i].l=U.ins[i]:=by
      have hrl:rws.map RwB.l=U.ins:=hrl
      simp only [<- hrl,List.getElem_map]
     rw [h4] at h3
     refine ⟨rws[i],by rw [Nat.mul_one];exact Ext.cell e27 (Ext.cell ex h2),(h3.1.ext ex).ext e27,h3.2,?_⟩
     have:=h3.1.ilen
     omega
    refine ⟨Zone.of_hasL (by rw [add_block];exact hx0 zr),_,_,_,g1,Zone.of_hasL (by rw [add_block];exact hx0 z0),_,_,_,hby.fld 1 rfl,Int.le_refl _,by omega,?_,bools (U.ins[i].take C.ins.length),?_,?_,?_⟩
    ·show ((v.i.n:Nat):Int)≤(s2.c:Nat);omega
    ·rw [cutA0]
     have:=g2.take v.i.n (by omega)
     rw [bools,<- List.map_take] at this
     rw [q1]
     exact this.read
    ·simp only [Int.toNat_natCast,Int.toNat_zero,bools,List.length_map,List.length_take];omega
    refine tb1.row (S:=S) rfl (by simp only [Int.toNat_natCast,Int.toNat_zero,List.length_take];omega) (by simp only [Int.toNat_natCast,Int.toNat_zero];omega) (by omega) (fun x hx=>hx) fun h' u' rows' hui hul hus tb'=>hK h' hiU ⟨u',rows',by omega,?_,by rw [hul];exact fall⟩
    rw [hi2,hul,List.take_succ_eq_append_getElem hiU,List.map_append]
    exact tb'
   ·have hi1:min i (U.ins.length-1)=U.ins.length-1:=by omega
    have hi2:min (i+1) (U.ins.length-1)=U.ins.length-1:=by omega
    refine hK hx hiU ⟨u1,rows,by omega,?_,fall⟩
    rw [hi2]
    rwa [hi1] at tb1
  cases hbit:(U.ins[i].getD C.ins.length false && !(movs (lassoX C (mustOf C j)) U.init U.ins)[i].st.getD C.lats.length false) with
  | true=>
   refine BIf.t ((tb17.mem.get 0 rfl).cellAt 2 (by omega) rfl fun h18 u18 f18=>rest h18 ⟨u.i,u.s,(i:Int)⟩ rfl ⟨rfl,tb17.rl,?_⟩ (by rw [hbit];rfl))
   exact tb17.mem.setAt 0 (t':=⟨1,some ⟨h13.size,0,none⟩,3,3,(⟨u.i,u.s,(i:Int)⟩:TV).cs⟩) rfl f18 u18 (.inl rfl)
  | false=>exact BIf.f (rest h17 u rfl tb17 (by rw [hbit];rfl))
 ·have hlt:¬ (i:Int)<(w.s.n:Nat):=hlt
  obtain rfl:i=U.ins.length:=by omega
  rw [List.drop_of_length_le (by omega),loopF_nil] at hlp
  have hmin:min U.ins.length (U.ins.length-1)=U.ins.length-1:=by omega
  rw [hmin] at tb
  have hBE:backL C j U=⟨U.init.take C.lats.length,(U.ins.take (U.ins.length-1)).map (·.take C.ins.length),u.lp⟩:=by
   unfold backL
   rw [if_pos hE]
   unfold backT
   rw [<- hlp]
  unfold J37_3
  have h2l:h2.size<h11.size:=by have:=((m11.get 0 rfl).own).lt;exact this
  refine ldT (tb.mem.get 0 rfl).rd (((m11.get 0 rfl).upd e16).put (ws:=u.cs) rfl (TV.one _) fun h32 f32 u32=>ldT f32.rd ⟨e1.trans f32.ext,u,by rw [hE],?_⟩)
  rw [hBE]
  exact tb.tnew.upd u32 fun b hb1 hb2 ⟨ad,ha,e⟩=>by cases ha;simp only at e;omega
end
end Go.Proofs.YtdpbdjdgdmheiaaGreat
namespace Go.Hx
theorem keepsZ {h9:Heap} {L:List Addr} {U:Nat->Prop} {ha hb:Heap} {y:Addr} {x:Value} (hL:∀ z∈L,z=y∨z.block<h9.size) (k:Keeps h9.size U ha hb) (ea:Ext h9 ha) (eb:Ext h9 hb) (ca:cellH ha y=some x) (cb:cellH hb y=some x):KeepsZ (Zone.cl L) U ha hb:=
 ⟨k.size,fun z hz=>by
  rcases hL z hz with rfl | h
  ·rw [ca,cb]
  ·rw [cellH_congr (ea.2 _ h fun x=>x),cellH_congr (eb.2 _ h fun x=>x)],k.free⟩
theorem TB.fin {h9 h25:Heap} {kb:Addr} {u:TV} {R:Tr} {rows:List RwB} {X:List Itm} {U1:Nat->Prop} {a:Option Addr} {n c:Nat} {l:List Bool} (m2:MemU h9.size h9 h25 U1 (⟨1,a,n,c,bools l⟩::⟨1,some kb,3,3,u.cs⟩::(itemsT u R rows++X))) (lp:u.lp=R.loop) (rl:rows.map RwB.l=R.ins)
  (hrn:n≤100000) (hn:u.s.n≤100000) {L:List Addr} (hL:∀ z∈L,z=kb.add 1∨z.block<h9.size) (hkb:kb.add 1∈L) (te:TypeId) (bit:Bool) {K:Heap->Prop}
  (hK:∀ h' u' rows',u'.i=u.i->u'.lp=u.lp->u'.s.n=u.s.n+1->TB h9 h' kb u' ⟨R.init,R.ins++[l++[bit]],R.loop⟩ rows' X->K h') :
  ∀ (U4:Nat->Prop) (h_25:Heap) (b1:Nat),GrowH U1 h25 U4 h_25->U4 b1->(h_25)[b1]?=some (Obj.cells #[(.bool bit)] 4)->∀ (U5:Nat->Prop) (h_26:Heap),GrowH (minus U4 b1) h_25 U5 h_26->∃ ys2:List Value,ReadL h_26 (some (Addr.mk b1 0 none)) ys2/\ys2.length=1*1/\AppS h_26 a n c 4 1 1 #[(.bool false)] ys2 1 fun apA1 apN1 apC1 h_27=>KeepsZ (Zone.cl L) U5 h_26 h_27/\Zone.hasL (Zone.cl L) h_27 (Addr.add kb 1)/\∃ (A41:Option Addr),∃ (N41:Nat),∃ (C41:Nat),cellH h_27 (Addr.add kb 1)=some (.slice A41 N41 C41)/\∀ (U6:Nat->Prop) (h_28:Heap) (b2:Nat),GrowH U5 h_27 U6 h_28->U6 b2->(h_28)[b2]?=some (Obj.cells #[(.slice apA1 apN1 apC1)] te)->∀ (U7:Nat->Prop) (h_29:Heap),GrowH (minus U6 b2) h_28 U7 h_29->∃ ys3:List Value,ReadL h_29 (some (Addr.mk b2 0 none)) ys3/\ys3.length=1*1/\AppS h_29 A41 N41 C41 te 24 1 #[(.slice none 0 0)] ys3 1 fun apA2 apN2 apC2 h_30=>KeepsZ (Zone.cl L) U7 h_29 h_30/\∀ (U8:Nat->Prop) (h_31:Heap),GrowH U7 h_30 U8 h_31->StoreH h_31 (Addr.add kb 1) [(.slice apA2 apN2 apC2)] fun h_32=>(h_31).size≤(h_32).size/\K h_32:=by
 intro U4 h25 b1 g4 hU ho U5 h26 g5
 have m3:=m2.grow g4
 have hb1:=m3.lt b1 hU
 have m4:=(m3.take hU hb1.1 (t:=⟨1,some ⟨b1,0,none⟩,1,1,[.bool bit]⟩) ⟨Own.row ho rfl,(fun ad ha=>by cases ha;exact hb1.1),m3.mem.ext⟩ fun ad ha=>by cases ha;rfl).grow g5
 refine ⟨[.bool bit],(m4.mem.get 0 rfl).rd.read,rfl,(m4.mem.get 1 rfl).app rfl (by simp [Value.oneCell']) (by omega) fun a2 c2 h27 f6 u6 hor=>?_⟩
 obtain ⟨k5,m5⟩:=m4.setAt 1 (t':=⟨1,a2,n+1,c2,bools l++[.bool bit]⟩) rfl f6 u6 hor
 refine ⟨keepsZ hL k5 m4.mem.ext m5.mem.ext ((m4.mem.get 2 rfl).rd.fld 1 rfl) ((m5.mem.get 2 rfl).rd.fld 1 rfl),Zone.cl_has hkb,_,_,_,(m5.mem.get 2 rfl).rd.fld 1 rfl,fun U6 h28 b2 g7 hU2 ho2 U7 h29 g8=>?_⟩
 have m6:=(m5.sub (.cons _ (.refl _))).grow g7
 have hb2:=m6.lt b2 hU2
 have m7:=(m6.take hU2 hb2.1 (t:=⟨1,some ⟨b2,0,none⟩,1,1,[.slice a2 (n+1) c2]⟩) ⟨Own.row ho2 rfl,(fun ad ha=>by cases ha;exact hb2.1),m6.mem.ext⟩ fun ad ha=>by cases ha;rfl).grow g8
 refine ⟨[.slice a2 (n+1) c2],(m7.mem.get 0 rfl).rd.read,rfl,(m7.mem.get 4 rfl).app rfl (by simp [Value.oneCell']) (by omega) fun a3 c3 h30 f9 u9 hor9=>?_⟩
 obtain ⟨k8,m8⟩:=m7.setAt 4 (t':=⟨1,a3,u.s.n+1,c3,rows.map RwB.v++[.slice a2 (n+1) c2]⟩) rfl f9 u9 hor9
 refine ⟨keepsZ hL k8 m7.mem.ext m8.mem.ext ((m7.mem.get 2 rfl).rd.fld 1 rfl) ((m8.mem.get 2 rfl).rd.fld 1 rfl),fun U8 h31 g10=>?_⟩
 have m9:=m8.grow g10
 refine (m9.mem.get 2 rfl).cellAt 1 (by omega) rfl fun h32 u10 f10=>⟨u10.1,?_⟩
 have m10:=(m9.mem.setAt 2 (t':=⟨1,some kb,3,3,_⟩) rfl f10 u10 (.inl rfl)).sub (.cons _ (.refl _))
 let s:RwB:=⟨a2,n+1,c2,l++[bit]⟩
 have eb:bools l++[Value.bool bit]=bools (l++[bit]):=by simp [bools]
 have er:rows.map RwB.v++[Value.slice a2 (n+1) c2]=(rows++[s]).map RwB.v:=by simp [RwB.v,s]
 refine hK h32 ⟨u.i,⟨a3,u.s.n+1,c3⟩,u.lp⟩ (rows++[s]) rfl rfl rfl ⟨lp,?_,?_⟩
 ·rw [List.map_append,rl];rfl
 ·rw [eb,er] at m10
  refine m10.perm ?_
  have ei:itemsT ⟨u.i,⟨a3,u.s.n+1,c3⟩,u.lp⟩ ⟨R.init,R.ins++[l++[bit]],R.loop⟩ (rows++[s])++X=[⟨1,u.i.a,u.i.n,u.i.c,bools R.init⟩,⟨1,a3,u.s.n+1,c3,(rows++[s]).map RwB.v⟩]++(rows.map (fun r=>(⟨1,r.a,r.n,r.c,bools r.l⟩:Itm))++(⟨1,a2,n+1,c2,bools (l++[bit])⟩::X)):=by
   unfold itemsT
   rw [List.append_assoc]
   refine congrArg (fun z=>[_,_]++z) ?_
   rw [List.map_append,List.append_assoc]
   rfl
  rw [ei]
  exact (List.perm_middle (l₁:=_::_::_::rows.map (fun r=>(⟨1,r.a,r.n,r.c,bools r.l⟩:Itm)))).symm
end Go.Hx
namespace Go.Proofs.YtdpbdjdgdmheiaaGreat
open Go.Hx Go.Deep
def ForD (C:Circ) (j:Int) (T:Tr) (h:Heap) (w:Value) (h':Heap):Prop:=Ext h h'/\∃ u:TV,w=.tuple #[u.v,.int .i64 (forE C j T)]/\TIs h' u (forR C j T)
section
variable {h:Heap} {v:CV} {C:Circ} {j:Int} {w:TV} {T:Tr}
set_option maxRecDepth 4000 in
theorem c39 (r:CIs h v C) (ok:C.Ok) (q:TIs h w T) (tok:T.Ok):CallsH Tryz.prog 39 #[v.v,.int .i64 j,w.v] h (ForD C j T h):=by
 have ql:=q.i.ilen
 have qs:=q.s.len
 have qlp:=q.lp
 have q1:=r.len.i
 have q2:=r.len.l
 have ti:=tok.ins
 refine run39 v j w _ h ?_
 unfold VC39
 intro h1 h2 h3
 have e1:Ext h h1:=Ext.box h _
 have e2:Ext h h2:=e1.trans (Ext.push h1 _)
 have e3:Ext h h3:=e2.trans (Ext.push h2 _)
 have hs1:h1.size=h.size+1:=by simp [h1]
 have hs2:h2.size=h.size+2:=by simp [h2,hs1]
 have hb:Rd h3 (some ⟨h.size,0,none⟩) 11 v.cs:=((boxC v 29).ext (Ext.push h1 _)).ext (Ext.push h2 _)
 have hw:Rd h3 (some ⟨h1.size,0,none⟩) 3 w.cs:=(boxT w 49).ext (Ext.push h2 _)
 have fz:Fr h2 1 h3 (some ⟨h2.size,0,none⟩) 3 3 TV.zero.cs:=Fr.lit (.refl h2) TV.zero.cs 49 3 rfl
 have bad:∀ {hx:Heap} {e:Int},Ext h3 hx->forE C j T=e->e≠0->StoreH hx (Addr.mk h2.size 0 none) TV.zero.cs fun h4=>LdT h4 (Addr.mk h2.size 0 none) fun t=>
   ForD C j T h (.tuple #[t.v,.int .i64 e]) h4:=fun {hx e} u he hne=>by
  refine (fz.upd u).put (ws:=TV.zero.cs) rfl (TV.one _) fun h4 f4 u4=>ldT (v:=TV.zero) f4.rd ⟨e2.trans f4.ext,TV.zero,by rw [he],?_⟩
  rw [forE_ne he hne]
  exact (TNew.zero (.refl _)).tis
 refine ldC hb ((c69 (j:=j) (r.ext e3) ok).mono ?_)
 rintro _ h4 ⟨e4,v',rfl,cf⟩
 have cf:Far h4 h3.size h4.size fun h'=>CIs h' v' (safeC C j):=cf
 refine ⟨_,_,_,_,_,_,_,_,_,_,_,_,_,_,_,_,_,_,_,_,_,_,_,_,_,_,_,_,_,_,_,_,_,rfl,boxN (zs:=CV.zero.cs) (ws:=v'.cs) rfl (CV.one v') fun h6 e6 b6=>?_⟩
 have b6:Rd h6 (some ⟨h4.size,0,none⟩) 11 v'.cs:=b6
 have e36:Ext h3 h6:=e4.trans e6
 refine ⟨fun hz=>?_,fun hz=>bad e36 (by unfold forE;rw [if_pos hz]) hz⟩
 obtain ⟨hX,hm,hc,xl,xi,_,xb⟩:=lsX_facts hz
 rw [safeC_0 hz] at cf
 have lenl:=(cf.self.ext e6).len.l
 have hb6:=hb.ext e36
 have hw6:=hw.ext e36
 unfold J39_0
 refine ldT hw6 ⟨_,_,_,hb6.fld 2 rfl,_,_,_,hb6.fld 1 rfl,?_⟩
 refine useX (c79 (q.ext (e3.trans e36)) (nl:=v.l.n) (ni:=v.i.n) (most:=511) (by omega)) fun h7 e7=>⟨_,rfl,?_⟩
 have e37:=e36.trans e7
 rw [<- q2,<- q1]
 by_cases hN:FitN T C.lats.length C.ins.length 511
 rotate_left
 ·rw [decide_eq_false hN]
  refine BIf.t (bad e37 ?_ (by decide))
  unfold forE;rw [if_neg (by simp [hz]),if_pos hN]
 rw [decide_eq_true hN]
 refine BIf.f ?_
 obtain ⟨n1,n2,n3,n4⟩:=hN
 have hb7:=hb.ext e37
 have hw7:=hw.ext e37
 unfold J39_1
 refine ldC hb7 (ldT hw7 (useX (c29 (r.ext (e3.trans e37)) ok (q.ext (e3.trans e37)) j) fun h8 e8=>⟨_,_,rfl,fun hp=>?_,fun hp=>?_⟩))
 rotate_left
 ·refine bad (e37.trans e8) ?_ (by decide)
  unfold forE;rw [if_neg (by simp [hz]),if_neg (Decidable.not_not.2 ⟨n1,n2,n3,n4⟩),if_pos hp]
 have hE:forE C j T=0:=by unfold forE;rw [if_neg (by simp [hz]),if_neg (Decidable.not_not.2 ⟨n1,n2,n3,n4⟩),if_neg (Decidable.not_not.2 hp)]
 obtain ⟨l,_⟩:=lasso_of hp
 have hlp:=l.lp
 have hlt:=l.fit.2.2.2.2.1
 have e38:=e37.trans e8
 have b8:Rd h8 (some ⟨h4.size,0,none⟩) 11 v'.cs:=b6.ext (e7.trans e8)
 have nX:C.lats.length+(1+C.lats.length+(mustOf C j).length)=v'.l.n:=by omega
 have bd:=chk_bounds hc
 have bX:(lassoX C (mustOf C j)).lats.length≤16384:=(chk_bounds (C:=lassoX C (mustOf C j)) (by rw [hX])).2.2.1
 rw [xl] at bX
 unfold J39_2
 refine ⟨_,_,_,b8.fld 2 rfl,by omega,Int.le_refl _,by omega,?_⟩
 intro h9 h10
 have f9:Fr h8 1 h9 (some ⟨h8.size,0,none⟩) v'.l.n v'.l.n (bools (List.replicate v'.l.n false)):=by
  rw [show bools (List.replicate v'.l.n false)=List.replicate v'.l.n (Value.bool false) by rw [bools,List.map_replicate]]
  exact Fr.zeros (h:=h8) (.bool false) 4 v'.l.n
 have f10:Fr h9 1 h10 (some ⟨h9.size,0,none⟩) 3 3 TV.zero.cs:=Fr.lit (.refl h9) TV.zero.cs 49 3 rfl
 have m10:Mem h8 h10 [⟨1,some ⟨h9.size,0,none⟩,3,3,TV.zero.cs⟩,⟨1,some ⟨h8.size,0,none⟩,v'.l.n,v'.l.n,bools (List.replicate v'.l.n false)⟩]:=((Mem.nil (.refl h8)).add f9).add f10
 let u0:TV:=⟨⟨some ⟨h8.size,0,none⟩,v'.l.n,v'.l.n⟩,⟨none,0,0⟩,-1⟩
 refine (m10.get 0 rfl).put (ws:=u0.cs) rfl (TV.one _) fun h11 f11 u11=>?_
 have m11:=m10.setAt 0 (t':=⟨1,some ⟨h9.size,0,none⟩,3,3,u0.cs⟩) rfl f11 u11 (.inl rfl)
 have tb11:TB h8 h11 ⟨h9.size,0,none⟩ u0 ⟨List.replicate v'.l.n false,[],-1⟩ [] []:=by
  refine ⟨rfl,rfl,?_⟩
  have:=m11.add (t:=⟨1,none,0,0,[]⟩) (.nil (.refl h11))
  refine this.perm ?_
  have p:∀ (n b i:Itm),[n,b,i].Perm [b,i,n]:=fun n b i=>List.perm_append_comm (l₁:=[n]) (l₂:=[b,i])
  exact p _ _ _
 clear m10 f9 f10 m11 f11 u11
 have hw8:=hw.ext e38
 have q8:=q.ext (e3.trans e38)
 obtain ⟨rws,hrd,hrr,hrl⟩:=q8.s.ex
 have hrl:rws.map RwB.l=T.ins:=hrl
 have hn0:0<w.s.n:=by omega
 obtain ⟨rad,hrad⟩:=hrd.some hn0
 have hrad:w.s.a=some rad:=hrad
 have z1:h1.size<h8.size:=by have:=cellH_lt (hw8.fld 0 rfl);rwa [add_block] at this
 have zr:rad.block<h8.size:=by
  have h1:=hrd.read
  rw [hrad] at h1
  have hl:0<(rws.map RwB.v).length:=by rw [hrd.len];exact hn0
  have:=cellH_lt (h1 0 _ (List.getElem?_eq_getElem hl))
  rwa [add_block] at this
 have rowAt:∀ {i:Nat} (hi:i<T.ins.length),∃ s:RwB,cellH h8 (rad.add (i*1))=some s.v/\Rd h8 s.a s.n (bools T.ins[i])/\s.n=C.ins.length:=fun {i} hi=>by
  have hil:i<rws.length:=by have:=hrd.ilen;omega
  have h1:=hrd.read
  rw [hrad] at h1
  have h2:=h1 i _ (by rw [List.getElem?_map,List.getElem?_eq_getElem hil];rfl)
  have h3:=hrr _ (List.getElem_mem hil)
  have h4:rws[i].l=T.ins[i]:=by simp only [<- hrl,List.getElem_map]
  rw [h4] at h3
  refine ⟨rws[i],by rw [Nat.mul_one];exact h2,h3.1,?_⟩
  have:=h3.1.ilen
  have:=n4 _ (List.getElem_mem hi)
  omega
 refine LoopT.to (n:=T.init.length) (by omega) (fun i h'=>TB h8 h' ⟨h9.size,0,none⟩ u0 ⟨T.init.take i++List.replicate (v'.l.n-i) false,[],-1⟩ [] []) (by simpa using tb11) ?_
 rintro i h12 K hi tb hK
 have e12:=tb.mem.ext
 have hw12:=hw8.ext e12
 refine ⟨_,_,_,hw12.fld 0 rfl,fun hlt=>?_,fun hlt=>?_⟩
 ·have hlt:(i:Int)<(w.i.n:Nat):=hlt
  have hiT:i<T.init.length:=by omega
  unfold J39_4
  refine ⟨_,_,_,(tb.mem.get 0 rfl).rd.fld 0 rfl,_,_,_,hw12.fld 0 rfl,by omega,hlt,(q8.ext e12).i.getn (i:=i) (by omega) fun ad hl hc=>⟨_,hc,by omega,by show (i:Int)<(v'.l.n:Nat);omega,?_⟩⟩
  refine (tb.mem.get 1 rfl).set1 (j:=(i:Int)) (by omega) (by show (i:Int)<(v'.l.n:Nat);omega) rfl fun h13 u13 f13=>hK h13 hiT ⟨tb.lp,tb.rl,?_⟩
  have es:(bools (T.init.take i++List.replicate (v'.l.n-i) false)).set (Int.toNat (i:Int)) (.bool T.init[i])=bools (T.init.take (i+1)++List.replicate (v'.l.n-(i+1)) false):=by
   rw [Int.toNat_natCast,bools,bools,<- List.map_set,List.set_append_right _ _ (by simp;omega)]
   congr 1
   have:i-(T.init.take i).length=0:=by simp;omega
   rw [this,show v'.l.n-i=(v'.l.n-(i+1))+1 by omega,List.replicate_succ,List.set_cons_zero,List.take_succ_eq_append_getElem hiT,List.append_assoc]
   rfl
  have f13':Fr h8 1 h13 u0.i.a u0.i.n u0.i.c (bools (T.init.take (i+1)++List.replicate (v'.l.n-(i+1)) false)):=by rw [<- es];exact f13
  exact tb.mem.setAt 1 (t':=⟨1,u0.i.a,u0.i.n,u0.i.c,_⟩) rfl f13' u13 (.inl rfl)
 have hlt:¬ (i:Int)<(w.i.n:Nat):=hlt
 obtain rfl:i=T.init.length:=by omega
 have einit:T.init.take T.init.length++List.replicate (v'.l.n-T.init.length) false=T.init++List.replicate (1+C.lats.length+(mustOf C j).length) false:=by
  rw [List.take_length,n1,<- nX,Nat.add_sub_cancel_left]
 rw [einit] at tb
 clear hK hi hlt
 have kl:∀ {x:Addr} {L:List Addr},(∀ z∈L,z.block<h8.size)->∀ z∈L++[x],z=x∨z.block<h8.size:=fun hL z hz=>by
  rcases List.mem_append.1 hz with h | h
  ·exact .inr (hL z h)
  ·exact .inl (List.mem_singleton.1 h)
 unfold J39_3
 refine LoopT.to (n:=T.ins.length) (by omega) (fun i h'=>∃ (u:TV) (rw':List RwB),u.s.n=i/\TB h8 h' ⟨h9.size,0,none⟩ u ⟨T.init++List.replicate (1+C.lats.length+(mustOf C j).length) false,((prs T).take i).map lsRow,-1⟩ rw' []) ⟨u0,[],rfl,by simpa using tb⟩ ?_
 clear tb e12 hw12
 rintro i h16 K2 hi ⟨u,rw',hun,tb⟩ hK2
 have e16:=tb.mem.ext
 have hw16:=hw8.ext e16
 have kbl:=(tb.mem.get 0 rfl).own.lt
 have zle:∀ {L:List Addr},(∀ z∈L,z.block<h8.size)->Zone.Le h16.size (Zone.cl (L++[(Addr.mk h9.size 0 none).add 1])):=fun hL=>Zone.cl_le fun x hx=>by
  rcases kl hL x hx with rfl | h
  ·rw [add_block];exact kbl
  ·exact Nat.lt_of_lt_of_le h e16.1
 refine ⟨_,_,_,hw16.fld 1 rfl,fun hlt=>?_,fun hlt=>?_⟩
 ·have hlt:(i:Int)<(w.s.n:Nat):=hlt
  have hiT:i<T.ins.length:=by omega
  obtain ⟨s,s1,s2,s3⟩:=rowAt hiT
  let L:List Addr:=[(Addr.mk h1.size 0 none).add 1,(Addr.mk h1.size 0 none).add 2,rad.add (i*1)]
  have hL:∀ z∈L,z.block<h8.size:=fun z hz=>by
   simp only [L,List.mem_cons,List.not_mem_nil,or_false] at hz
   rcases hz with rfl | rfl | rfl <;> rw [add_block] <;> assumption
  unfold J39_6
  refine ⟨Zone.cl (L++[(Addr.mk h9.size 0 none).add 1]),zle hL,fun U h23 b g hU ho=>?_⟩
  have mu0:=(MemU.start tb.mem).grow g
  have mu1:=flt0 mu0 rfl hU ho 1
  have hw23:=hw16.ext g.ext
  refine ⟨Zone.cl_has (by simp [L]),_,_,_,hw23.fld 1 rfl,by omega,hlt,?_⟩
  show AtP w.s.a _
  refine AtP.mk hrad ⟨Zone.cl_has (by simp [L]),_,_,_,Ext.cell (e16.trans g.ext) s1,fun U1 h24 g1=>?_⟩
  have mu2:=mu1.grow g1
  have e24:Ext h8 h24:=mu2.mem.ext
  refine ⟨bools T.ins[i],(s2.ext e24).read,by rw [(s2.ext e24).len];omega,app0 (mu2.mem.get 0 rfl) (by rw [s2.len];show s.n=s.n*1;omega) bools_one (by omega) fun a25 c25 h25 f25 u25 hor=>?_⟩
  obtain ⟨k25,mu3⟩:=mu2.setAt 0 (t':=⟨1,a25,s.n,c25,bools T.ins[i]⟩) rfl f25 u25 hor
  have e25:=mu3.mem.ext
  refine ⟨keepsZ (kl hL) k25 mu2.mem.ext mu3.mem.ext ((mu2.mem.get 1 rfl).rd.fld 1 rfl) ((mu3.mem.get 1 rfl).rd.fld 1 rfl),Zone.cl_has (by simp [L]),_,(hw8.ext e25).fld 2 rfl,?_⟩
  have hp:=prs_at (T:=T) (i:=i) (r:=T.ins[i]) (by rw [List.getElem?_append_left hiT,List.getElem?_eq_getElem hiT])
  have fin:∀ bit:Bool,bit=decide ((i:Int)=T.loop)->∀ h' u' rows',u'.i=u.i->u'.lp=u.lp->u'.s.n=u.s.n+1->TB h8 h' ⟨h9.size,0,none⟩ u' ⟨T.init++List.replicate (1+C.lats.length+(mustOf C j).length) false,((prs T).take i).map lsRow++[T.ins[i]++[bit]],-1⟩ rows' []->K2 (IntKind.wrap .i64 ((i:Int)+1)) h':=fun bit hbit h' u' rows' _ _ hus tb'=>hK2 h' hiT ⟨u',rows',by omega,by
   have:(prs T).take (i+1)=(prs T).take i++[(T.ins[i],decide ((i:Int)=T.loop))]:=by rw [List.take_add_one,hp];rfl
   rw [this,List.map_append,List.map_singleton]
   rw [hbit] at tb'
   exact tb'⟩
  show PIf ((i:Int)=w.lp) _ _
  rw [qlp]
  exact ⟨fun he=>TB.fin mu3 tb.lp tb.rl (by omega) (by omega) (kl hL) (by simp) 46 true (fin true (decide_eq_true he).symm),fun hne=>TB.fin mu3 tb.lp tb.rl (by omega) (by omega) (kl hL) (by simp) 46 false (fin false (decide_eq_false hne).symm)⟩
 ·have hlt:¬ (i:Int)<(w.s.n:Nat):=hlt
  obtain rfl:i=T.ins.length:=by omega
  have hiT:T.loop.toNat<T.ins.length:=by omega
  obtain ⟨s,s1,s2,s3⟩:=rowAt hiT
  let L:List Addr:=[(Addr.mk h1.size 0 none).add 1,(Addr.mk h1.size 0 none).add 2,rad.add (T.loop.toNat*1)]
  have hL:∀ z∈L,z.block<h8.size:=fun z hz=>by
   simp only [L,List.mem_cons,List.not_mem_nil,or_false] at hz
   rcases hz with rfl | rfl | rfl <;> rw [add_block] <;> assumption
  unfold J39_5
  refine ⟨Zone.cl (L++[(Addr.mk h9.size 0 none).add 1]),zle hL,fun U h23 b g hU ho=>?_⟩
  have mu0:=(MemU.start tb.mem).grow g
  have mu1:=flt0 mu0 rfl hU ho 1
  have hw23:=hw16.ext g.ext
  refine ⟨Zone.cl_has (by simp [L]),_,_,_,hw23.fld 1 rfl,Zone.cl_has (by simp [L]),_,hw23.fld 2 rfl,?_⟩
  show 0≤w.lp/\w.lp<(w.s.n:Nat)/\AtP w.s.a _
  rw [qlp]
  refine ⟨hlp,by omega,AtP.mk hrad ⟨Zone.cl_has (by simp [L]),_,_,_,Ext.cell (e16.trans g.ext) s1,fun U1 h24 g1=>?_⟩⟩
  have mu2:=mu1.grow g1
  have e24:Ext h8 h24:=mu2.mem.ext
  refine ⟨bools T.ins[T.loop.toNat],(s2.ext e24).read,by rw [(s2.ext e24).len];omega,app0 (mu2.mem.get 0 rfl) (by rw [s2.len];show s.n=s.n*1;omega) bools_one (by omega) fun a25 c25 h25 f25 u25 hor=>?_⟩
  obtain ⟨k25,mu3⟩:=mu2.setAt 0 (t':=⟨1,a25,s.n,c25,bools T.ins[T.loop.toNat]⟩) rfl f25 u25 hor
  refine ⟨keepsZ (kl hL) k25 mu2.mem.ext mu3.mem.ext ((mu2.mem.get 1 rfl).rd.fld 1 rfl) ((mu3.mem.get 1 rfl).rd.fld 1 rfl),?_⟩
  refine TB.fin mu3 tb.lp tb.rl (by omega) (by omega) (kl hL) (by simp) 46 false fun h33 u' rows' _ _ hus tb'=>?_
  have hg:T.ins.getD T.loop.toNat []=T.ins[T.loop.toNat]:=by rw [List.getD_eq_getElem?_getD,List.getElem?_eq_getElem hiT];rfl
  have hp:=prs_at (T:=T) (i:=T.ins.length) (r:=T.ins.getD T.loop.toNat []) (by rw [List.getElem?_append_right (Nat.le_refl _),Nat.sub_self];rfl)
  have hall:(prs T).take T.ins.length++[(T.ins[T.loop.toNat],false)]=prs T:=by
   have h5:(prs T).take (T.ins.length+1)=prs T:=List.take_of_length_le (by rw [prs_len];omega)
   refine Eq.trans ?_ h5
   rw [List.take_add_one,hp,hg,decide_eq_false (by omega)]
   rfl
  have ef:((prs T).take T.ins.length).map lsRow++[T.ins[T.loop.toNat]++[false]]=(prs T).map lsRow:=by
   refine Eq.trans ?_ (congrArg (List.map lsRow) hall)
   rw [List.map_append,List.map_singleton]
   rfl
  rw [ef] at tb'
  refine ldT (tb'.mem.get 0 rfl).rd ((fz.upd (e38.trans tb'.mem.ext)).put (ws:=u'.cs) rfl (TV.one _) fun h34 f34 u34=>ldT f34.rd ⟨e2.trans f34.ext,u',by rw [hE],?_⟩)
  have:forR C j T=⟨T.init++List.replicate (1+C.lats.length+(mustOf C j).length) false,(prs T).map lsRow,-1⟩:=by unfold forR;rw [if_pos hE];rfl
  rw [this]
  have h28:h2.size<h8.size:=by have:=fz.own.lt;have:=e38.1;simp only at *;omega
  exact tb'.tnew.upd u34 fun b hb1 hb2 ⟨ad,ha,e⟩=>by cases ha;simp only at e;omega
end
end Go.Proofs.YtdpbdjdgdmheiaaGreat
namespace Go.Proofs.YtdpbdjdgdmheiaaGreat
open Go.Hx Go.Deep
section
variable {h:Heap} {v:CV} {C:Circ} {j:Int} {w:TV} {T:Tr}
theorem back_len (tok:T.Ok):(backL C j T).init.length<9223372036854775807/\(backL C j T).ins.length<9223372036854775807/\∀ r∈(backL C j T).ins,r.length<9223372036854775807:=by
 unfold backL
 split
 ·have h1:=tok.init
  have h2:=tok.ins
  refine ⟨by unfold backT;simp only [List.length_take];omega,by unfold backT;simp only [List.length_map,List.length_take];omega,fun r hr=>?_⟩
  unfold backT at hr
  obtain ⟨x,hx,rfl⟩:=List.mem_map.1 hr
  have:=tok.rows x (List.mem_of_mem_take hx)
  rw [List.length_take]
  omega
 ·exact ⟨by decide,by decide,fun r hr=>by cases hr⟩
theorem for_len (tok:T.Ok):(forR C j T).init.length<9223372036854775807/\(forR C j T).ins.length<9223372036854775807/\∀ r∈(forR C j T).ins,r.length<9223372036854775807:=by
 unfold forR
 split
 ·rename_i hE
  have hz:lsE C j=0:=by
   unfold forE at hE
   split at hE
   ·exact hE
   ·rename_i h;exact Decidable.not_not.1 h
  obtain ⟨hX,hm,hc,xl,xi,_,xb⟩:=lsX_facts hz
  have bX:(lassoX C (mustOf C j)).lats.length≤16384:=(chk_bounds (C:=lassoX C (mustOf C j)) (by rw [hX])).2.2.1
  have h1:=tok.init
  have h2:=tok.ins
  refine ⟨by unfold forthT;simp only [List.length_append,List.length_replicate];omega,by unfold forthT;simp only [List.length_map,prs_len];omega,fun r hr=>?_⟩
  unfold forthT at hr
  obtain ⟨x,hx,rfl⟩:=List.mem_map.1 hr
  have hx1:x.1∈(prs T).map (·.1):=List.mem_map.2 ⟨x,hx,rfl⟩
  rw [prs_fst] at hx1
  have hl:x.1.length≤140737488351232:=by
   rcases List.mem_append.1 hx1 with h | h
   ·exact tok.rows _ h
   ·rw [List.mem_singleton] at h
    rw [h,List.getD_eq_getElem?_getD]
    cases hg:T.ins[T.loop.toNat]? with
    | none=>simp
    | some y=>exact tok.rows _ (List.mem_of_getElem? hg)
  unfold lsRow
  rw [List.length_append]
  simp only [List.length_singleton]
  omega
 ·exact ⟨by decide,by decide,fun r hr=>by cases hr⟩
set_option maxRecDepth 4000 in
theorem c7 (r:CIs h v C) (ok:C.Ok) (q:TIs h w T) (tok:T.Ok) (hc1:w.i.n≤w.i.c):CallsH Tryz.prog 7 #[v.v,.int .i64 j,w.v] h (Xt (.bool true) h):=by
 refine run7 v j w _ h ?_
 unfold VC7
 intro h1 h2
 have e1:Ext h h1:=Ext.box h _
 have e2:Ext h h2:=e1.trans (Ext.push h1 _)
 have hs1:h1.size=h.size+1:=by simp [h1]
 have hs2:h2.size=h.size+2:=by simp [h2,hs1]
 have hb:Rd h2 (some ⟨h.size,0,none⟩) 11 v.cs:=(boxC v 29).ext (Ext.push h1 _)
 have hw:Rd h2 (some ⟨h1.size,0,none⟩) 3 w.cs:=boxT w 49
 have m:=MemU.start (Mem.nil (.refl h2))
 refine ⟨by simp only;omega,ldC hb fun U h3 g=>?_⟩
 have m1:=m.grow g
 refine (c8n (r.ext (e2.trans m1.mem.ext)) ok).mono ?_
 rintro _ h4 ⟨v2,rfl,ln,e4⟩
 obtain ⟨k,m2⟩:=m1.ext e4
 refine ⟨_,_,_,_,_,_,_,_,_,_,_,_,_,_,_,_,_,_,_,_,_,_,_,_,_,_,_,_,_,_,_,rfl,k,by simp only;omega,ldT (hw.ext m2.mem.ext) fun U1 h5 g1=>?_⟩
 have m3:=m2.grow g1
 refine (c35 (q.ext (e2.trans m3.mem.ext)) tok).mono ?_
 rintro _ h8 ⟨w2,rfl,tn⟩
 obtain ⟨rows,hrows,tm⟩:=tn.ex
 obtain ⟨k,m6⟩:=m3.add tm
 refine ⟨_,_,_,_,_,_,_,rfl,k,fun U3 h9 b g3 hU ho U4 h10 b1 g4 hU1 ho1 U5 h11 g5=>?_⟩
 have m7:=m6.grow g3
 have hb7:=m7.lt b hU
 have m8:=(m7.take hU hb7.1 (t:=⟨1,some ⟨b,0,none⟩,11,11,CV.zero.cs⟩) ⟨Own.row ho rfl,(fun ad ha=>by cases ha;exact hb7.1),m7.mem.ext⟩ fun ad ha=>by cases ha;rfl).grow g4
 have hb8:=m8.lt b1 hU1
 have m9:=(m8.take hU1 hb8.1 (t:=⟨1,some ⟨b1,0,none⟩,3,3,TV.zero.cs⟩) ⟨Own.row ho1 rfl,(fun ad ha=>by cases ha;exact hb8.1),m8.mem.ext⟩ fun ad ha=>by cases ha;rfl).grow g5
 have z1:h2.size≤h3.size:=g.size
 have z4:h3.size≤h4.size:=e4.1
 have z5:=g1.size
 have z6:h5.size≤h8.size:=tm.ext.1
 have z9:=g3.size
 have z10:=g4.size
 have z11:=g5.size
 have av0:∀ x,U x->¬ (h3.size≤x/\x<h4.size):=fun x hx hh=>by have:=(m1.lt x hx).2;omega
 have av1:∀ x,U1 x->¬ (h3.size≤x/\x<h4.size):=fun x hx hh=>by
  rcases g1.sup x hx with h | h
  ·exact av0 x h hh
  ·omega
 have av3:∀ x,U3 x->¬ (h3.size≤x/\x<h4.size):=fun x hx hh=>by
  rcases g3.sup x hx with h | h
  ·exact av1 x h hh
  ·omega
 have av4:¬ (h3.size≤b1/\b1<h4.size):=fun hh=>by
  rcases g4.sup b1 hU1 with h | h
  ·exact av3 b1 h.1 hh
  ·omega
 refine (m9.mem.get 1 rfl).put (ws:=v2.cs) rfl (CV.one v2) fun h12 f12 u12=>⟨u12.1,fun U6 h13 g6=>?_⟩
 have m10:=(m9.mem.setAt 1 (t':=⟨1,some ⟨b,0,none⟩,11,11,v2.cs⟩) rfl f12 u12 (.inl rfl)).ext' g6.ext
 refine (m10.get 0 rfl).put (ws:=w2.cs) rfl (TV.one w2) fun h14 f14 u14=>⟨u14.1,?_⟩
 have m12:=m10.setAt 0 (t':=⟨1,some ⟨b1,0,none⟩,3,3,w2.cs⟩) rfl f14 u14 (.inl rfl)
 have u4_14:Upd (fun x=>x=b∨x=b1) h4 h14:=by
  have ea:Ext h4 h11:=(((g1.ext.trans tm.ext).trans g3.ext).trans g4.ext).trans g5.ext
  have eb:Upd (fun x=>x=b∨x=b1) h11 h12:=u12.mono fun x _ ⟨ad,ha,e⟩=>by cases ha;exact .inl e
  have ec:Upd (fun x=>x=b∨x=b1) h13 h14:=u14.mono fun x _ ⟨ad,ha,e⟩=>by cases ha;exact .inr e
  exact (((Upd.wide ea).trans eb).trans (Upd.wide g6.ext)).trans ec
 have li:LIs h14 v2 C:=ln _ _ u4_14 fun x hx1 hx2 hx=>by
  rcases hx with rfl | rfl
  ·exact av3 _ hU ⟨hx1,hx2⟩
  ·exact av4 ⟨hx1,hx2⟩
 have own:TNew h2 h14 w2 T:=⟨tn.lp,rows,hrows,m12.sub (by rw [List.append_nil];exact .cons _ (.cons _ (.refl _)))⟩
 have oc1:w2.i.n≤w2.i.c:=(tm.get 0 rfl).own.cap
 have oc2:w2.s.n≤w2.s.c:=(tm.get 1 rfl).own.cap
 have bv:Rd h14 (some ⟨b,0,none⟩) 11 v2.cs:=(m12.get 1 rfl).rd
 have bw:Rd h14 (some ⟨b1,0,none⟩) 3 w2.cs:=(m12.get 0 rfl).rd
 have e14:Ext h2 h14:=m12.ext
 clear m12 f14 u14 m10 g6 f12 u12 m9 m8 m7 hb7 hb8 m6 m3 m2 m1 m ln av0 av1 av3 av4 u4_14 k
 have ot:=own.tis
 have ti:=tok.ins
 refine ldC bv (ldT bw ((n36 (j:=j) li.cis ok ot ti oc1 oc2).mono ?_))
 rintro _ h15 ⟨ua,rfl,ta⟩
 refine ⟨_,_,_,_,_,_,_,_,rfl,boxN (zs:=TV.zero.cs) (ws:=ua.cs) rfl (TV.one ua) fun h17 e17 b17=>?_⟩
 have y17:Ext h14 h17:=ta.heap.trans e17
 have x17:=e14.trans y17
 refine ldC (hb.ext x17) (ldT (hw.ext x17) ((c37 (j:=j) (r.ext (e2.trans x17)) ok (q.ext (e2.trans x17)) ti hc1).mono ?_))
 rintro _ h18 ⟨e18,ub,rfl,tb⟩
 refine ⟨_,_,_,_,_,_,_,_,rfl,boxN (zs:=TV.zero.cs) (ws:=ub.cs) rfl (TV.one ub) fun h20 e20 b20=>?_⟩
 have y1720:Ext h17 h20:=e18.trans e20
 have y20:=y17.trans y1720
 have x20:=e14.trans y20
 refine ldC (bv.ext y20) (ldT (bw.ext y20) ((n38 (j:=j) (li.cis.ext y20) ok (ot.ext y20) tok).mono ?_))
 rintro _ h21 ⟨ux,rfl,tx⟩
 refine ⟨_,_,_,_,_,_,_,_,rfl,boxN (zs:=TV.zero.cs) (ws:=ux.cs) rfl (TV.one ux) fun h23 e23 b23=>?_⟩
 have y2023:Ext h20 h23:=tx.heap.trans e23
 have y23:=y20.trans y2023
 have x23:=e14.trans y23
 refine ldC (hb.ext x23) (ldT (hw.ext x23) ((c39 (j:=j) (r.ext (e2.trans x23)) ok (q.ext (e2.trans x23)) tok).mono ?_))
 rintro _ h24 ⟨e24,uy,rfl,ty⟩
 refine ⟨_,_,_,_,_,_,_,_,rfl,boxN (zs:=TV.zero.cs) (ws:=uy.cs) rfl (TV.one uy) fun h26 e26 b26=>?_⟩
 have y2326:Ext h23 h26:=e24.trans e26
 have y2026:=y2023.trans y2326
 have y1726:=y1720.trans y2026
 have a26:TIs h26 ua (backL C j T):=ta.tis.ext (e17.trans y1726)
 have c26:TIs h26 ub (backL C j T):=tb.ext (e20.trans y2026)
 refine ldT (b17.ext y1726) (ldT (b20.ext y2026) (useX (c23 a26 c26 (back_len tok)) fun h27 e27=>⟨true,rfl,BIf.f ⟨fun _=>?_,fun h=>absurd rfl h⟩⟩))
 have d26:TIs h26 ux (forR C j T):=tx.tis.ext (e23.trans y2326)
 have g26:TIs h26 uy (forR C j T):=ty.ext e26
 refine ldT ((b23.ext y2326).ext e27) (ldT (b26.ext e27) (useX (c23 (d26.ext e27) (g26.ext e27) (for_len tok)) fun h28 e28=>⟨true,rfl,BIf.f ⟨fun _=>?_,fun h=>absurd rfl h⟩⟩))
 unfold J7_0
 have y2628:Ext h26 h28:=e27.trans e28
 have y1528:Ext h15 h28:=e17.trans (y1726.trans y2628)
 have y28:Ext h14 h28:=ta.heap.trans y1528
 refine ldT (b17.ext (y1726.trans y2628)) ((c25 ta y1528 (back_len tok)).mono ?_)
 rintro _ h29 ⟨rfl,u29⟩
 have z1517:h15.size≤h17.size:=e17.1
 have z1720:h17.size≤h20.size:=y1720.1
 have z2021:h20.size≤h21.size:=tx.heap.1
 have b23_29:Rd h29 (some ⟨h21.size,0,none⟩) 3 ux.cs:=((b23.ext y2326).ext y2628).upd u29 fun ad ha hS=>by cases ha;have:=hS.2;simp only at this;omega
 obtain ⟨xlp,xrows,hxr,xm⟩:=tx.ext (e23.trans (y2326.trans y2628))
 have tx29:TNew h14 h29 ux (forR C j T):=⟨xlp,xrows,hxr,xm.over y20 u29 fun b hb=>⟨hb.1,by have:=hb.2;omega⟩⟩
 refine ⟨rfl,ldT b23_29 ((c25 tx29 (.refl _) (for_len tok)).mono ?_)⟩
 rintro _ h30 ⟨rfl,u30⟩
 have y29:Ext h14 h29:=y28.newer u29 fun i hi hS=>by have:=hS.1;omega
 have y30:Ext h14 h30:=y29.newer u30 fun i hi hS=>by have:=hS.1;omega
 have x30:=e14.trans y30
 refine ⟨rfl,ldC (bv.ext y30) (ldC (hb.ext x30) (useX (c12 (li.ext y30) (r.ext (e2.trans x30)) (Circ.Ok.sm ok)) fun h31 e31=>⟨true,rfl,BIf.t ?_⟩))⟩
 have y31:=y30.trans e31
 have x31:=e14.trans y31
 refine ldT (bw.ext y31) (ldT (hw.ext x31) (useX (c23 (ot.ext y31) (q.ext (e2.trans x31)) (tOk3P tok)) fun h32 e32=>⟨true,rfl,BIf.t ?_⟩))
 exact useX (c34) fun h33 e33=>⟨true,rfl,rfl,(e2.trans (x31.trans e32)).trans e33⟩
end
end Go.Proofs.YtdpbdjdgdmheiaaGreat
