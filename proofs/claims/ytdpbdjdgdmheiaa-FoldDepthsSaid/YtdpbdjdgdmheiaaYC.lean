/- Words and facts that the claim's proof leans on. No condition. -/
import Derived.Test.YtdpbdjdgdmheiaaXU
import Derived.Test.YtdpbdjdgdmheiaaFA
import Derived.Test.YtdpbdjdgdmheiaaXL
import Derived.Test.YtdpbdjdgdmheiaaDL
set_option linter.unusedVariables false
set_option linter.unusedSimpArgs false
namespace Go.Proofs.Ytdpbdjdgdmheiaa
open Go.Hx
section
variable {C:Circ}
abbrev okV (C:Circ) (V:List Bool):Bool:=C.cons.all (lit V)
theorem fold_lats:(foldC C).lats.length=C.lats.length+1:=by obtain ⟨G,f⟩:=foldC_is C;rw [f.eq];simp
theorem fold_ins:(foldC C).ins=C.ins:=by obtain ⟨G,f⟩:=foldC_is C;rw [f.eq]
theorem fold_cons:(foldC C).cons=[]:=by obtain ⟨G,f⟩:=foldC_is C;rw [f.eq]
def fst (st:List Bool) (b:Bool):Nat:=numN (st++[b])
theorem fst_inj {st st':List Bool} {b b':Bool} (hl:st.length=st'.length) (h:fst st b=fst st' b'):st=st'/\b=b':=by
 have h1:bitsN (numN (st++[b])) (st++[b]).length=bitsN (numN (st'++[b'])) (st'++[b']).length:=by
  unfold fst at h
  rw [h,List.length_append,List.length_append,hl]
  rfl
 rw [bits_num,bits_num] at h1
 have:=List.append_inj h1 hl
 exact ⟨this.1,by simpa using this.2⟩
theorem fold_arcs (h:(chk C).2=0) (hl:¬ FLong C) {st:List Bool} (hs:st.length=C.lats.length) {b:Bool} {a:Arc}:a∈(wdC (foldC C)).arcs (fst st b)↔∃ r,r<2 ^ C.ins.length/\a=⟨r,fst (nextL C (valsOf C st (bitsN r C.ins.length))) (b && okV C (valsOf C st (bitsN r C.ins.length))),VF (valsOf C st (bitsN r C.ins.length)) C b⟩:=by
 have hb:bitsN (fst st b) (foldC C).lats.length=st++[b]:=by
  have:(foldC C).lats.length=(st++[b]).length:=by rw [fold_lats,List.length_append,hs];rfl
  rw [this]
  exact bits_num
 have hw:∀ r,warc (foldC C) (fst st b) r=some ⟨r,fst (nextL C (valsOf C st (bitsN r C.ins.length))) (b && okV C (valsOf C st (bitsN r C.ins.length))),VF (valsOf C st (bitsN r C.ins.length)) C b⟩:=fun r=>by
  have hv:wvals (foldC C) (fst st b) r=VF (valsOf C st (bitsN r C.ins.length)) C b:=by
   unfold wvals
   rw [hb,fold_ins,vals_fold h hl hs bitsN_len]
  unfold warc
  rw [hv,fold_cons,if_pos (by rfl),nextL_fold h (valsOf_len h hs bitsN_len)]
  rfl
 constructor
 ·intro ha
  obtain ⟨r,hr,e⟩:=mem_warcs.1 ha
  rw [fold_ins] at hr
  rw [hw] at e
  exact ⟨r,hr,(Option.some.inj e).symm⟩
 ·rintro ⟨r,hr,rfl⟩
  exact mem_warcs.2 ⟨r,by rw [fold_ins];exact hr,hw r⟩
theorem base_arcs {st:List Bool} (hs:st.length=C.lats.length) {a:Arc}:a∈(wdC C).arcs (numN st)↔∃ r,r<2 ^ C.ins.length/\okV C (valsOf C st (bitsN r C.ins.length))=true/\a=⟨r,numN (nextL C (valsOf C st (bitsN r C.ins.length))),valsOf C st (bitsN r C.ins.length)⟩:=by
 have hv:∀ r,wvals C (numN st) r=valsOf C st (bitsN r C.ins.length):=fun r=>by
  unfold wvals
  rw [<- hs,bits_num]
 constructor
 ·intro ha
  obtain ⟨r,hr,e⟩:=mem_warcs.1 ha
  obtain ⟨hc,rfl⟩:=warc_some e
  rw [hv] at hc ⊢
  exact ⟨r,hr,hc,rfl⟩
 ·rintro ⟨r,hr,hc,rfl⟩
  refine mem_warcs.2 ⟨r,hr,?_⟩
  unfold warc
  rw [hv,if_pos hc]
theorem iniF_snoc:∀ {L:List L3} {S:List Bool} {x:L3} {b:Bool} {o:Nat},L.length=S.length->((iniF (L++[x]) (S++[b]) o).isNone=true↔(iniF L S o).isNone=true/\¬ (x.c<2/\b≠decide (x.c=1)))
 | [],[],x,b,o,_=>by
  simp only [List.nil_append,iniF]
  split <;> simp_all
 | y::L,c::S,x,b,o,h=>by
  simp only [List.cons_append,iniF]
  split
  ·simp
  ·exact iniF_snoc (by simpa using h)
 | [],_::_,_,_,_,h=>by simp at h
 | _::_,[],_,_,_,h=>by simp at h
theorem fold_st {st:List Bool} (hs:st.length=C.lats.length) {b:Bool}:fst st b∈(wdC (foldC C)).st↔numN st∈(wdC C).st/\b=true:=by
 have hin:∀ {D:Circ} {s:Nat},s∈(wdC D).st↔s<2 ^ D.lats.length/\(iniF D.lats (bitsN s D.lats.length) 0).isNone=true:=fun {D s}=>by
  show s∈(List.range (2 ^ D.lats.length)).filter (wst D)↔_
  rw [List.mem_filter,List.mem_range]
  exact Iff.rfl
 rw [hin,hin]
 have e1:bitsN (fst st b) (foldC C).lats.length=st++[b]:=by
  have:(foldC C).lats.length=(st++[b]).length:=by rw [fold_lats,List.length_append,hs];rfl
  rw [this]
  exact bits_num
 have e2:bitsN (numN st) C.lats.length=st:=by rw [<- hs];exact bits_num
 have l1:fst st b<2 ^ (foldC C).lats.length:=by
  have:(foldC C).lats.length=(st++[b]).length:=by rw [fold_lats,List.length_append,hs];rfl
  rw [this]
  exact numN_lt
 have l2:numN st<2 ^ C.lats.length:=by rw [<- hs];exact numN_lt
 rw [e1,e2]
 obtain ⟨G,f⟩:=foldC_is C
 have hlats:(foldC C).lats=C.lats++[⟨2*(C.mx+1),2*(C.mx+1+C.cons.length),1⟩]:=by rw [f.eq]
 have key:=iniF_snoc (L:=C.lats) (S:=st) (x:=⟨2*(C.mx+1),2*(C.mx+1+C.cons.length),1⟩) (b:=b) (o:=0) hs.symm
 rw [hlats,key]
 refine ⟨fun ⟨_,h1,h2⟩=>⟨⟨l2,h1⟩,?_⟩,fun ⟨⟨_,h1⟩,h2⟩=>⟨by rw [hlats] at l1;exact l1,h1,by subst h2;simp⟩⟩
 cases b with
 | true=>rfl
 | false=>exact absurd ⟨by simp,by simp⟩ h2
theorem fold_rch (h:(chk C).2=0) (hl:¬ FLong C) {t d:Nat} (r:Rch (wdC (foldC C)) d t):∃ st b,st.length=C.lats.length/\t=fst st b/\(b=true->Rch (wdC C) d (numN st)):=by
 induction r with
 | @zero t ht=>
  have hlt:t<2 ^ (foldC C).lats.length:=(wd_ok (foldC C)).st t ht
  have hb:numN (bitsN t (foldC C).lats.length)=t:=num_bits hlt
  have hne:(bitsN t (foldC C).lats.length).length=C.lats.length+1:=by rw [bitsN_len,fold_lats]
  have e:bitsN t (foldC C).lats.length=(bitsN t (foldC C).lats.length).take C.lats.length++[(bitsN t (foldC C).lats.length)[C.lats.length]'(by omega)]:=by
   rw [<- List.take_succ_eq_append_getElem (by omega),List.take_of_length_le (by omega)]
  have hs:((bitsN t (foldC C).lats.length).take C.lats.length).length=C.lats.length:=by rw [List.length_take,hne];omega
  have hT:fst ((bitsN t (foldC C).lats.length).take C.lats.length) ((bitsN t (foldC C).lats.length)[C.lats.length]'(by omega))=t:=by unfold fst;rw [<- e,hb]
  refine ⟨_,_,hs,hT.symm,fun hb'=>?_⟩
  refine .zero ((fold_st hs (b:=(bitsN t (foldC C).lats.length)[C.lats.length]'(by omega))).1 ?_).1
  rw [hT]
  exact ht
 | @step d t a r ha ih=>
  obtain ⟨st,b,hs,rfl,hr⟩:=ih
  obtain ⟨q,hq,rfl⟩:=(fold_arcs h hl hs).1 ha
  refine ⟨_,_,next_len,rfl,fun hb=>?_⟩
  rw [Bool.and_eq_true] at hb
  exact .step (hr hb.1) ((base_arcs hs).2 ⟨q,hq,hb.2,rfl⟩)
theorem rch_fold (h:(chk C).2=0) (hl:¬ FLong C) {s d:Nat} (r:Rch (wdC C) d s):Rch (wdC (foldC C)) d (fst (bitsN s C.lats.length) true):=by
 induction r with
 | @zero s hs=>
  refine .zero ((fold_st bitsN_len).2 ⟨?_,rfl⟩)
  rwa [num_bits ((wd_ok C).st s hs)]
 | @step d s a r ha ih=>
  have hs:numN (bitsN s C.lats.length)=s:=num_bits (r.lt (wd_ok C))
  rw [<- hs] at ha
  obtain ⟨q,hq,hc,rfl⟩:=(base_arcs bitsN_len).1 ha
  have:=Rch.step ih ((fold_arcs h hl bitsN_len).2 ⟨q,hq,rfl⟩)
  rw [hc] at this
  have e:bitsN (numN (nextL C (valsOf C (bitsN s C.lats.length) (bitsN q C.ins.length)))) C.lats.length=nextL C (valsOf C (bitsN s C.lats.length) (bitsN q C.ins.length)):=by
   have:=bits_num (l:=nextL C (valsOf C (bitsN s C.lats.length) (bitsN q C.ins.length)))
   rwa [next_len] at this
  show Rch _ _ (fst (bitsN (numN _) _) true)
  rw [e]
  exact this
end
end Go.Proofs.Ytdpbdjdgdmheiaa
namespace Go.Proofs.Ytdpbdjdgdmheiaa
open Go.Hx
section
variable {C:Circ}
theorem base_st {s:Nat} (h:s<2 ^ C.lats.length):numN (bitsN s C.lats.length)=s:=num_bits h
theorem next_bits {V:List Bool}:bitsN (numN (nextL C V)) C.lats.length=nextL C V:=by
 have:=bits_num (l:=nextL C V)
 rwa [next_len] at this
theorem IsDep.ex {W:Wd} {s d:Nat} (r:Rch W d s):∃ e,e≤d/\IsDep W s e:=IsDep.of r
theorem bad_fold (h:(chk C).2=0) (hl:¬ FLong C) {i:Nat} {x x':Int} (hx:C.bads[i]?=some x) (hx':(foldC C).bads[i]?=some x') {z:Int} (b:BadIs (wdC C) (fun a=>lit a.vl x=true) z):BadIs (wdC (foldC C)) (fun a=>lit a.vl x'=true) z:=by
 have hm:=(gok h).mx0
 obtain ⟨G,f⟩:=foldC_is C
 have hi:i<C.bads.length:=(List.getElem?_eq_some_iff.1 hx).1
 have hxe:x=C.bads[i]:=by rw [List.getElem?_eq_getElem hi] at hx;exact (Option.some.inj hx).symm
 have hx'e:x'=2*(C.mx+1+C.cons.length+1+(i:Nat)):=by
  rw [f.eq] at hx'
  simp only at hx'
  rw [List.getElem?_map,List.getElem?_range hi] at hx'
  exact (Option.some.inj hx').symm
 have hlit:∀ {st:List Bool} {q:Nat} {hd:Bool},st.length=C.lats.length->lit (VF (valsOf C st (bitsN q C.ins.length)) C hd) x'=((hd && okV C (valsOf C st (bitsN q C.ins.length))) && lit (valsOf C st (bitsN q C.ins.length)) x):=fun {st q hd} hs=>by
  rw [hx'e,lit_bad hm (valsOf_len h hs bitsN_len) hi,conAll_all,hxe]
 have down:∀ {t e:Nat} {a:Arc},IsDep (wdC (foldC C)) t e->a∈(wdC (foldC C)).arcs t->lit a.vl x'=true->∃ s e' a',e'≤e/\IsDep (wdC C) s e'/\a'∈(wdC C).arcs s/\lit a'.vl x=true:=fun {t e a} ht ha hp=>by
  obtain ⟨st,hd,hs,rfl,hr⟩:=fold_rch h hl ht.1
  obtain ⟨q,hq,rfl⟩:=(fold_arcs h hl hs).1 ha
  have:=hlit (q:=q) (hd:=hd) hs
  rw [this,Bool.and_eq_true,Bool.and_eq_true] at hp
  obtain ⟨e',hle,he'⟩:=IsDep.of (hr hp.1.1)
  exact ⟨_,e',_,hle,he',(base_arcs hs).2 ⟨q,hq,hp.1.2,rfl⟩,hp.2⟩
 rcases b with ⟨rfl,hno⟩ | ⟨d,rfl,⟨s,a,hd,ha,hp⟩,hmin⟩
 ·refine .inl ⟨rfl,fun t e ht a ha hp=>?_⟩
  obtain ⟨s,e',a',_,k1,k2,k3⟩:=down ht ha hp
  exact hno s e' k1 a' k2 k3
 ·refine .inr ⟨d,rfl,?_,fun t e a ht ha hp=>?_⟩
  ·have hsn:=hd.1.lt (wd_ok C)
   have hs:=base_st hsn
   rw [<- hs] at ha
   obtain ⟨q,hq,hc,rfl⟩:=(base_arcs bitsN_len).1 ha
   refine ⟨fst (bitsN s C.lats.length) true,_,⟨rch_fold h hl hd.1,fun e he=>?_⟩,(fold_arcs h hl bitsN_len).2 ⟨q,hq,rfl⟩,?_⟩
   ·obtain ⟨st,hd',hs',he',hr⟩:=fold_rch h hl he
    obtain ⟨rfl,rfl⟩:=fst_inj (by rw [bitsN_len,hs']) he'
    have:=hr rfl
    rw [hs] at this
    exact hd.2 e this
   ·show lit (VF (valsOf C (bitsN s C.lats.length) (bitsN q C.ins.length)) C true) x'=true
    rw [hlit bitsN_len,hc]
    exact hp
  ·obtain ⟨s,e',a',hle,k1,k2,k3⟩:=down ht ha hp
   exact Nat.le_trans (hmin s e' a' k1 k2 k3) hle
theorem fold_must {j:Int}:mustOf (foldC C) j=mustOf C j++[2*(C.mx+1+C.cons.length)]:=by
 obtain ⟨G,f⟩:=foldC_is C
 have h1:(foldC C).just=C.just:=by rw [f.eq]
 have h2:(foldC C).fair=C.fair++[2*(C.mx+1+C.cons.length)]:=by rw [f.eq]
 unfold mustOf
 rw [h1,h2,List.append_assoc]
theorem fair_fold (h:(chk C).2=0) (hl:¬ FLong C) {must:List Int} (hmu:∀ l∈must,0≤l/\l≤2*C.mx+1):(∃ s,FairG (wdC C) (mustP must) s)↔∃ s,FairG (wdC (foldC C)) (mustP (must++[2*(C.mx+1+C.cons.length)])) s:=by
 have hm:=(gok h).mx0
 have wk:=wd_ok C
 have lold:∀ {st:List Bool} {q:Nat} {hd:Bool} {l:Int},st.length=C.lats.length->l∈must->lit (VF (valsOf C st (bitsN q C.ins.length)) C hd) l=lit (valsOf C st (bitsN q C.ins.length)) l:=fun {st q hd l} hs hml=>lit_old hm (valsOf_len h hs bitsN_len) (hmu l hml)
 have lk:∀ {st:List Bool} {q:Nat} {hd:Bool},st.length=C.lats.length->lit (VF (valsOf C st (bitsN q C.ins.length)) C hd) (2*(C.mx+1+C.cons.length))=(hd && okV C (valsOf C st (bitsN q C.ins.length))):=fun {st q hd} hs=>by
  rw [lit_new hm (valsOf_len h hs bitsN_len) (Nat.le_refl _),conAll_all]
 constructor
 ·rintro ⟨s0,G,hG,hL,h0⟩
  have glt:∀ s,G s->numN (bitsN s C.lats.length)=s:=fun s hs=>by
   obtain ⟨d,hd⟩:=hG s hs
   exact base_st (hd.lt wk)
  let G':Nat->Prop:=fun t=>∃ s,G s/\t=fst (bitsN s C.lats.length) true
  have arc':∀ {s:Nat} {a:Arc},G s->a∈(wdC C).arcs s->∃ a',a'∈(wdC (foldC C)).arcs (fst (bitsN s C.lats.length) true)/\a'.nx=fst (bitsN a.nx C.lats.length) true/\(∀ l∈must,lit a'.vl l=lit a.vl l)/\lit a'.vl (2*(C.mx+1+C.cons.length))=true:=fun {s a} hs ha=>by
   rw [<- glt s hs] at ha
   obtain ⟨q,hq,hc,rfl⟩:=(base_arcs bitsN_len).1 ha
   refine ⟨_,(fold_arcs h hl bitsN_len).2 ⟨q,hq,rfl⟩,?_,fun l hml=>lold bitsN_len hml,?_⟩
   ·show fst _ (true && okV C _)=fst (bitsN (numN _) _) true
    rw [next_bits,hc];rfl
   ·show lit (VF _ C true) _=true
    rw [lk bitsN_len,hc];rfl
  have cans:∀ {P P':Arc->Prop},(∀ {s:Nat} {a a':Arc},(∀ l∈must,lit a'.vl l=lit a.vl l)->lit a'.vl (2*(C.mx+1+C.cons.length))=true->P a->P' a')->∀ {s:Nat},Go.Hx.Can (wdC C) G P s->Go.Hx.Can (wdC (foldC C)) G' P' (fst (bitsN s C.lats.length) true):=fun {P P'} hP {s} c=>by
   induction c with
   | @now s a h1 h2 h3 h4=>
    obtain ⟨a',k1,k2,k3,k4⟩:=arc' h1 h2
    exact .now ⟨s,h1,rfl⟩ k1 ⟨a.nx,h3,k2⟩ (hP (s:=s) k3 k4 h4)
   | @on s a h1 h2 h3 _ ih=>
    obtain ⟨a',k1,k2,k3,k4⟩:=arc' h1 h2
    exact .on ⟨s,h1,rfl⟩ k1 ⟨a.nx,h3,k2⟩ (by rw [k2];exact ih)
  refine ⟨fst (bitsN s0 C.lats.length) true,G',?_,?_,s0,h0,rfl⟩
  ·rintro _ ⟨s,hs,rfl⟩
   obtain ⟨d,hd⟩:=hG s hs
   exact ⟨d,rch_fold h hl hd⟩
  ·rintro P hP _ ⟨s,hs,rfl⟩
   rcases List.mem_cons.1 hP with rfl | hP
   ·exact cans (P:=fun _=>True) (fun _ _ _=>trivial) (hL _ (List.mem_cons_self ..) s hs)
   ·obtain ⟨l,hl',rfl⟩:=List.mem_map.1 hP
    rcases List.mem_append.1 hl' with hl' | hl'
    ·exact cans (P:=fun a=>lit a.vl l=true) (fun k _ hp=>by rw [k l hl'];exact hp) (hL _ (List.mem_cons_of_mem _ (List.mem_map.2 ⟨l,hl',rfl⟩)) s hs)
    ·rw [List.mem_singleton] at hl'
     subst hl'
     exact cans (P:=fun _=>True) (fun _ k _=>k) (hL _ (List.mem_cons_self ..) s hs)
 ·rintro ⟨t0,G',hG,hL,h0⟩
  have hkP:(fun a:Arc=>lit a.vl (2*(C.mx+1+C.cons.length))=true)∈mustP (must++[2*(C.mx+1+C.cons.length)]):=List.mem_cons_of_mem _ (List.mem_map.2 ⟨_,List.mem_append_right _ (List.mem_singleton.2 rfl),rfl⟩)
  have hold:∀ {t:Nat},Go.Hx.Can (wdC (foldC C)) G' (fun a=>lit a.vl (2*(C.mx+1+C.cons.length))=true) t->∀ {st:List Bool} {b:Bool},st.length=C.lats.length->t=fst st b->b=true:=fun {t} c=>by
   induction c with
   | @now t a h1 h2 h3 h4=>
    rintro st b hs rfl
    obtain ⟨q,hq,rfl⟩:=(fold_arcs h hl hs).1 h2
    have:=lk (q:=q) (hd:=b) hs
    rw [this,Bool.and_eq_true] at h4
    exact h4.1
   | @on t a h1 h2 h3 _ ih=>
    rintro st b hs rfl
    obtain ⟨q,hq,rfl⟩:=(fold_arcs h hl hs).1 h2
    have:=ih next_len rfl
    rw [Bool.and_eq_true] at this
    exact this.1
  have form:∀ {t:Nat},G' t->∃ st,st.length=C.lats.length/\t=fst st true/\∃ d,Rch (wdC C) d (numN st):=fun {t} ht=>by
   obtain ⟨d,hd⟩:=hG t ht
   obtain ⟨st,b,hs,rfl,hr⟩:=fold_rch h hl hd
   obtain rfl:=hold (hL _ hkP _ ht) hs rfl
   exact ⟨st,hs,rfl,d,hr rfl⟩
  let G:Nat->Prop:=fun s=>∃ st,st.length=C.lats.length/\s=numN st/\G' (fst st true)
  have back:∀ {st:List Bool} {a:Arc},st.length=C.lats.length->a∈(wdC (foldC C)).arcs (fst st true)->G' a.nx->∃ a',a'∈(wdC C).arcs (numN st)/\(∃ st',st'.length=C.lats.length/\a'.nx=numN st'/\a.nx=fst st' true)/\∀ l∈must,lit a'.vl l=lit a.vl l:=fun {st a} hs ha hn=>by
   obtain ⟨q,hq,rfl⟩:=(fold_arcs h hl hs).1 ha
   have hc:=hold (hL _ hkP _ hn) next_len rfl
   refine ⟨_,(base_arcs hs).2 ⟨q,hq,by simpa using hc,rfl⟩,⟨_,next_len,rfl,?_⟩,fun l hml=>(lold hs hml).symm⟩
   show fst _ (true && okV C _)=fst _ true
   rw [show (true && okV C _)=true from hc]
  have cans:∀ {P P':Arc->Prop},(∀ {a a':Arc},(∀ l∈must,lit a'.vl l=lit a.vl l)->P' a->P a')->∀ {t:Nat},Go.Hx.Can (wdC (foldC C)) G' P' t->∀ {st:List Bool},st.length=C.lats.length->t=fst st true->Go.Hx.Can (wdC C) G P (numN st):=fun {P P'} hP {t} c=>by
   induction c with
   | @now t a h1 h2 h3 h4=>
    rintro st hs rfl
    obtain ⟨a',k1,⟨st',k2,k3,k4⟩,k5⟩:=back hs h2 h3
    exact .now ⟨st,hs,rfl,h1⟩ k1 ⟨st',k2,k3,k4▸h3⟩ (hP k5 h4)
   | @on t a h1 h2 h3 _ ih=>
    rintro st hs rfl
    obtain ⟨a',k1,⟨st',k2,k3,k4⟩,k5⟩:=back hs h2 h3
    exact .on ⟨st,hs,rfl,h1⟩ k1 ⟨st',k2,k3,k4▸h3⟩ (by rw [k3];exact ih k2 k4)
  obtain ⟨st0,hs0,rfl,_⟩:=form h0
  refine ⟨numN st0,G,?_,?_,st0,hs0,rfl,h0⟩
  ·rintro _ ⟨st,hs,rfl,hg⟩
   obtain ⟨st',hs',e,d,hd⟩:=form hg
   obtain ⟨rfl,_⟩:=fst_inj (by rw [hs,hs']) e
   exact ⟨d,hd⟩
  ·rintro P hP _ ⟨st,hs,rfl,hg⟩
   rcases List.mem_cons.1 hP with rfl | hP
   ·exact cans (P':=fun _=>True) (fun _ _=>trivial) (hL _ (List.mem_cons_self ..) _ hg) hs rfl
   ·obtain ⟨l,hl',rfl⟩:=List.mem_map.1 hP
    exact cans (P':=fun a=>lit a.vl l=true) (fun k hp=>by rw [k l hl'];exact hp) (hL _ (List.mem_cons_of_mem _ (List.mem_map.2 ⟨l,List.mem_append_left _ hl',rfl⟩)) _ hg) hs rfl
end
end Go.Proofs.Ytdpbdjdgdmheiaa
namespace Go.Proofs.Ytdpbdjdgdmheiaa
open Go.Hx
theorem c10 (h:Heap):CallsH Try.prog 10 #[] h (Xt (.bool true) h):=by
 refine run10 _ h ?_
 unfold VC10
 intro h1 h2 h3 h4 h5
 have e1:Ext h h1:=Ext.push _ _
 have e2:Ext h1 h2:=Ext.push _ _
 have e3:Ext h2 h3:=Ext.push _ _
 have e4:Ext h3 h4:=Ext.push _ _
 have r1:Rd h1 (some ⟨h.size,0,none⟩) 1 [.int .i64 2]:=(Fr.lit (.refl h) [.int .i64 2] 3 1 rfl).rd
 have r2:Rd h2 (some ⟨h1.size,0,none⟩) 3 (L3.cs ⟨4,2,0⟩):=(Fr.lit (.refl h1) (L3.cs ⟨4,2,0⟩) 63 3 rfl).rd
 have r3:Rd h3 (some ⟨h2.size,0,none⟩) 1 [.int .i64 4]:=(Fr.lit (.refl h2) [.int .i64 4] 3 1 rfl).rd
 have r4:Rd h4 (some ⟨h3.size,0,none⟩) 1 [.int .i64 3]:=(Fr.lit (.refl h3) [.int .i64 3] 3 1 rfl).rd
 let v:CV:=⟨2,⟨some ⟨h.size,0,none⟩,1,1⟩,⟨some ⟨h1.size,0,none⟩,1,1⟩,⟨none,0,0⟩,⟨some ⟨h2.size,0,none⟩,1,1⟩,⟨some ⟨h3.size,0,none⟩,1,1⟩,⟨none,0,0⟩,⟨none,0,0⟩,⟨none,0,0⟩,⟨none,0,0⟩,⟨none,0,0⟩⟩
 refine boxN (zs:=CV.zero.cs) (ws:=v.cs) rfl (CV.one v) fun h6 e6 b6=>?_
 have c10004:CIs h4 v WC:=⟨rfl,((r1.ext e2).ext e3).ext e4,(r2.ext e3).ext e4,.nil,r3.ext e4,r4,RdRs.nil,.nil,.nil,.nil,.nil⟩
 have e06:Ext h h6:=(((e1.trans e2).trans e3).trans e4).trans e6
 refine ldC b6 ((c11 (c10004.ext e6) WC_ok).mono ?_)
 rintro _ h7 ⟨v',rfl,cn⟩
 rw [WC_fold] at cn ⊢
 refine ⟨_,_,_,_,_,_,_,_,_,_,_,_,_,_,_,_,_,_,_,_,_,_,_,_,_,_,_,_,_,_,_,_,rfl,?_⟩
 intro h8
 refine boxN (zs:=CV.zero.cs) (ws:=v'.cs) rfl (CV.one v') fun h9 e9 b9=>?_
 have c10009:=cn.cis.ext e9
 have hl:=c10009.len
 have e09:Ext h h9:=(e06.trans cn.heap).trans e9
 have fw:foldC WC=⟨5,[2],[⟨4,2,0⟩,⟨6,8,1⟩],[],[10],[],[],[8],[⟨8,6,3⟩,⟨10,8,4⟩],[],[]⟩:=by kernel_rfl
 have hmx:=c10009.mx
 obtain ⟨q1,q2,q3,q4,q5,q6,q7,q8,q9,q10⟩:=hl
 rw [fw] at hmx q2 q4 q5
 have rl:=c10009.l
 have rb:=c10009.b
 rw [fw] at rl rb
 simp only [List.length_cons,List.length_nil] at q2 q4 q5
 have fls:∀ {P:Prop},P->P:=fun h=>h
 refine ⟨fun _=>⟨_,b9.fld 0 rfl,fun _=>⟨_,_,_,b9.fld 2 rfl,fun _=>⟨_,_,_,b9.fld 2 rfl,by omega,by omega,rl.elem L3.csl (by omega) (i:=1) (by omega) fun ad hl1 re=>⟨_,_,_,re.cells,fun _=>⟨_,_,_,b9.fld 4 rfl,fun _=>⟨_,_,_,b9.fld 4 rfl,by omega,by omega,rb.getn (i:=0) (by omega) fun ad1 hl2 hc=>⟨_,hc,fun _=>⟨_,_,_,b9.fld 5 rfl,fun _=>⟨rfl,e09⟩,fun e=>?_⟩,fun e=>?_⟩⟩,fun e=>?_⟩,fun e=>?_⟩⟩,fun e=>?_⟩,fun e=>?_⟩,fun e=>?_⟩
 ·exact absurd (by omega) e
 ·exact absurd rfl e
 ·exact absurd (by omega) e
 ·exact absurd rfl e
 ·exact absurd (by omega) e
 ·exact absurd hmx e
 ·exact absurd rfl e
section
variable {h:Heap} {v:CV} {C:Circ}
theorem fold_len:(foldC C).bads.length=C.bads.length/\(foldC C).just=C.just/\(foldC C).ands.length=C.ands.length+(C.cons.length+C.bads.length):=by
 obtain ⟨G,f⟩:=foldC_is C
 refine ⟨by rw [f.eq];simp,by rw [f.eq],?_⟩
 rw [f.eq]
 simp only [List.length_append,f.len]
set_option maxRecDepth 4000 in
theorem c3 (r:CIs h v C) (ok:C.Ok):CallsH Try.prog 3 #[v.v] h (Xt (.bool true) h):=by
 obtain ⟨q1,q2,q3,q4,q5,q6,q7,q8,q9,q10⟩:=r.len
 refine run3 v _ h ?_
 unfold VC3
 intro h1
 have e1:Ext h h1:=Ext.box h _
 have hb:Rd h1 (some ⟨h.size,0,none⟩) 11 v.cs:=boxC v 29
 refine useX (c10 h1) fun h2 e2=>⟨_,rfl,BIf.f ?_⟩
 have e02:=e1.trans e2
 unfold J3_0
 refine ldC (hb.ext e2) ((c11 (r.ext e02) ok).mono ?_)
 rintro _ h3 ⟨v',rfl,cn⟩
 refine ⟨_,_,_,_,_,_,_,_,_,_,_,_,_,_,_,_,_,_,_,_,_,_,_,_,_,_,_,_,_,_,_,_,rfl,?_⟩
 refine boxN (zs:=CV.zero.cs) (ws:=v'.cs) rfl (CV.one v') fun h5 e5 b5=>?_
 have e05:=(e02.trans cn.heap).trans e5
 have hb5:=hb.ext ((e2.trans cn.heap).trans e5)
 have tt:Xt (.bool true) h (.bool true) h5:=⟨rfl,e05⟩
 refine ⟨fun hz=>⟨_,_,_,hb5.fld 2 rfl,fun _=>tt,fun s1=>⟨_,_,_,hb5.fld 1 rfl,fun _=>tt,fun s2=>⟨_,_,_,hb5.fld 8 rfl,fun _=>tt,fun s3=>⟨_,_,_,hb5.fld 4 rfl,_,_,_,hb5.fld 6 rfl,fun _=>tt,fun s4=>⟨_,_,_,hb5.fld 5 rfl,fun _=>tt,fun s5=>?_⟩⟩⟩⟩⟩,fun _=>tt⟩
 obtain ⟨hR,hc,hl⟩:=foldR_ok2 hz
 have cis:=cn.cis.ext e5
 rw [hR] at cis
 simp only at cis
 have b5:Rd h5 (some ⟨h3.size,0,none⟩) 11 v'.cs:=b5
 obtain ⟨⟨b0,b1⟩,b2,b3,b4,b5',b6,b7,b8,b9,b10,b11,b12⟩:=chk_bounds hc
 rw [w64 (by omega) (by omega)] at s4
 obtain ⟨l1,l2,l3⟩:=fold_len (C:=C)
 have hF:(chk (foldC C)).2=0:=by rw [chk_fold hc hl]
 have fe:fewE C=0:=by unfold fewE;rw [if_neg (by simp [hc]),if_neg (by omega)]
 have fe':fewE (foldC C)=0:=by unfold fewE;rw [if_neg (by simp [hF]),if_neg (by rw [fold_lats,fold_ins,l3];omega)]
 have okF:=fold_Ok ok hc hl
 have r5:=r.ext e05
 unfold J3_1
 refine ⟨_,_,_,hb5.fld 4 rfl,LoopT.to (n:=v.b.n) (by omega) (fun i h'=>Ext h5 h') (.refl _) ?_⟩
 intro i h7 K hi e7 hK
 refine ⟨fun hlt=>?_,fun hlt=>?_⟩
 ·unfold J3_3
  have hil:i<C.bads.length:=by omega
  have hE:badE C i=0:=by unfold badE;rw [if_neg (by simp [fe]),if_pos (by omega)]
  have hE':badE (foldC C) i=0:=by unfold badE;rw [if_neg (by simp [fe']),if_pos (by rw [l1];omega)]
  refine ldC (hb5.ext e7) ((c12 (r5.ext e7) ok _).mono ?_)
  rintro _ h9 ⟨e9,⟨_,z,x,hx,rfl,hz1⟩ | ⟨hn,_⟩⟩
  rotate_left
  ·exact absurd hE hn
  refine ⟨_,_,rfl,ldC (b5.ext (e7.trans e9)) ((c12 (cis.ext (e7.trans e9)) okF _).mono ?_)⟩
  rintro _ h10 ⟨e10,⟨_,z',x',hx',rfl,hz2⟩ | ⟨hn,_⟩⟩
  rotate_left
  ·exact absurd hE' hn
  obtain rfl:z=z':=(bad_fold hc hl hx hx' hz1).uniq hz2
  exact ⟨_,_,rfl,fun _=>⟨fun _=>⟨fun _=>hK h10 (by omega) ((e7.trans e9).trans e10),fun hh=>absurd rfl hh⟩,fun hh=>absurd rfl hh⟩,fun hh=>absurd rfl hh⟩
 ·unfold J3_2
  refine ⟨_,_,_,(hb5.ext e7).fld 6 rfl,LoopT.to (n:=v.j.n) (by omega) (fun i h'=>Ext h5 h') e7 ?_⟩
  intro j h12 K' hj e12 hK'
  refine ⟨fun hlt2=>?_,fun hlt2=>⟨rfl,e05.trans e12⟩⟩
  unfold J3_6
  have hJ:jusE C j=0:=by unfold jusE;rw [if_neg (by simp [fe]),if_pos (by omega)]
  have hJ':jusE (foldC C) j=0:=by unfold jusE;rw [if_neg (by simp [fe']),if_pos (by rw [l2];omega)]
  refine ldC (hb5.ext e12) ((c13 (r5.ext e12) ok _).mono ?_)
  rintro _ h14 ⟨e14,⟨_,x,rfl,hx⟩ | ⟨hn,_⟩⟩
  rotate_left
  ·exact absurd hJ hn
  refine ⟨_,_,rfl,ldC (b5.ext (e12.trans e14)) ((c13 (cis.ext (e12.trans e14)) okF _).mono ?_)⟩
  rintro _ h15 ⟨e15,⟨_,y,rfl,hy⟩ | ⟨hn,_⟩⟩
  rotate_left
  ·exact absurd hJ' hn
  have ml:=must_lits hc (j:=(j:Int)) (by omega) (by omega)
  obtain rfl:x=y:=by
   rw [fold_must,<- fair_fold hc hl ml.2,<- hx] at hy
   cases x <;> cases y <;> simp_all
  exact ⟨_,_,rfl,fun _=>⟨fun _=>⟨fun _=>hK' h15 (by omega) ((e12.trans e14).trans e15),fun hh=>absurd rfl hh⟩,fun hh=>absurd rfl hh⟩,fun hh=>absurd rfl hh⟩
end
end Go.Proofs.Ytdpbdjdgdmheiaa
