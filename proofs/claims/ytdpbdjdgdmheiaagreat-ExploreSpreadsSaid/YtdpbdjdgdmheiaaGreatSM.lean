/- A lasso goes round. No condition. -/
import Derived.Test.YtdpbdjdgdmheiaaGreatSI
set_option linter.unusedVariables false
set_option linter.unusedSimpArgs false
namespace Go.Proofs.YtdpbdjdgdmheiaaGreat
open Go.Hx Go.Deep
noncomputable def endS (C:Circ):List Bool->List (List Bool)->List Bool
 | st,[]=>st
 | st,r::rs=>endS C (nextL C (valsOf C st r)) rs
theorem movs_app {C:Circ}:∀ {A B:List (List Bool)} {st:List Bool},movs C st (A++B)=movs C st A++movs C (endS C st A) B
 | [],B,st=>rfl
 | r::A,B,st=>by rw [List.cons_append,movs,movs,endS,List.cons_append,movs_app]
theorem endS_app {C:Circ}:∀ {A B:List (List Bool)} {st:List Bool},endS C st (A++B)=endS C (endS C st A) B
 | [],B,st=>rfl
 | r::A,B,st=>by rw [List.cons_append,endS,endS,endS_app]
theorem endS_take {C:Circ}:∀ {rs:List (List Bool)} {st:List Bool} {k:Nat} {M:Mo},(movs C st rs)[k]?=some M->endS C st (rs.take k)=M.st
 | [],_,_,_,h=>by simp [movs] at h
 | r::rs,st,0,M,h=>by
  simp only [movs,List.getElem?_cons_zero,Option.some.injEq] at h
  subst h
  rfl
 | r::rs,st,k+1,M,h=>by
  simp only [movs,List.getElem?_cons_succ] at h
  rw [List.take_succ_cons,endS]
  exact endS_take h
theorem endS_last {C:Circ} {rs:List (List Bool)} {st:List Bool} {k:Nat} {M:Mo} {r:List Bool} (hk:k+1=rs.length) (h:(movs C st rs)[k]?=some M) (hr:rs[k]?=some r):endS C st rs=nextL C (valsOf C M.st r):=by
 have h1:rs=rs.take k++[r]:=by
  have:=List.take_add_one (l:=rs) (i:=k)
  rw [hr,List.take_of_length_le (by omega)] at this
  exact this
 have h2:=endS_take h
 conv=>lhs;rw [h1]
 rw [endS_app,h2]
 rfl
theorem missF_none {came:Mk->Prop} {a:Int}:∀ {n i:Nat},missF came a n i=none↔∀ k,k<n->came (a,((i+k:Nat):Int))
 | 0,i=>by simp [missF]
 | n+1,i=>by
  rw [missF]
  split
  ·rename_i h
   rw [missF_none]
   constructor
   ·intro hh k hk
    cases k with
    | zero=>exact h
    | succ k=>
     have:=hh k (by omega)
     rw [show i+1+k=i+(k+1) by omega] at this
     exact this
   ·intro hh k hk
    have:=hh (k+1) (by omega)
    rw [show i+(k+1)=i+1+k by omega] at this
    exact this
  ·rename_i h
   refine iff_of_false (by simp) fun hh=>h ?_
   exact hh 0 (by omega)
structure Lasso (C:Circ) (j:Int) (T:Tr):Prop where
 chk:(chk C).2=0
 j0:0≤j
 j1:j<C.just.length
 fit:Fit C T
 ini:iniF C.lats T.init 0=none
 ok:∀ m∈movs C T.init T.ins,m.ok=true
 lp:0≤T.loop
 round:∀ M,(movs C T.init T.ins)[T.loop.toNat]?=some M->endS C T.init T.ins=M.st
 came:∀ k,k<(C.just.getD j.toNat []).length->cameIn (movs C T.init T.ins) T.loop.toNat (j,(k:Int))
 fair:∀ k,k<C.fair.length->cameIn (movs C T.init T.ins) T.loop.toNat (-1,(k:Int))
theorem runQ_of {C:Circ} {T:Tr} (hc:(chk C).2=0) (hf:Fit C T) (hi:iniF C.lats T.init 0=none) (ho:∀ m∈movs C T.init T.ins,m.ok=true):runQ C T=(movs C T.init T.ins,0,0):=by
 have hR:runR C T=(movs C T.init T.ins,0):=by unfold runR;rw [if_neg (by simp [hc]),if_pos hf]
 unfold runQ
 rw [hR,if_neg (by simp),hi]
 simp only
 rw [(brkF_none (i:=0)).2 ho]
theorem last_eq {C:Circ} {T:Tr} (hf:Fit C T):∃ M row,(movs C T.init T.ins)[T.ins.length-1]?=some M/\T.ins[T.ins.length-1]?=some row/\lastM (movs C T.init T.ins)=M/\T.ins.getD (T.ins.length-1) []=row/\endS C T.init T.ins=nextL C (valsOf C M.st row):=by
 have h1:=hf.2.1
 obtain ⟨M,hM⟩:∃ M,(movs C T.init T.ins)[T.ins.length-1]?=some M:=⟨_,List.getElem?_eq_getElem (by rw [movs_len];omega)⟩
 obtain ⟨row,hr⟩:∃ row,T.ins[T.ins.length-1]?=some row:=⟨_,List.getElem?_eq_getElem (by omega)⟩
 refine ⟨M,row,hM,hr,?_,?_,endS_last (by omega) hM hr⟩
 ·unfold lastM
  rw [List.getD_eq_getElem?_getD,movs_len,hM];rfl
 ·rw [List.getD_eq_getElem?_getD,hr];rfl
theorem of_lasso {C:Circ} {j:Int} {T:Tr} (l:Lasso C j T):propQ C 106 j T=(T.loop,0):=by
 have hQ:=runQ_of l.chk l.fit l.ini l.ok
 have hz:(runQ C T).2.2=0:=by rw [hQ]
 unfold propQ
 rw [if_neg (by simp [l.chk]),if_neg (by simp),if_pos ⟨rfl,l.j0,l.j1⟩,justQ_at hz,hQ,if_neg (by have:=l.lp;omega)]
 simp only
 obtain ⟨M,row,hM,hr,e1,e2,e3⟩:=last_eq l.fit
 have hlp:T.loop.toNat<(movs C T.init T.ins).length:=by rw [movs_len];have:=l.fit.2.2.2.2.1;have:=l.lp;omega
 rw [e1,e2,<- e3,l.round _ (List.getElem?_eq_getElem hlp),List.getD_eq_getElem?_getD,List.getElem?_eq_getElem hlp,if_neg (by simp),
  missF_none.2 fun k hk=>by rw [Nat.zero_add];exact l.came k hk]
 simp only
 rw [missF_none.2 fun k hk=>by rw [Nat.zero_add];exact l.fair k hk]
theorem Lasso.again {C:Circ} {j:Int} {T:Tr} (l:Lasso C j T) (hn:T.ins.length≤200) {lp:Int} (hlp:lp=T.loop∨lp=T.ins.length):Lasso C j ⟨T.init,T.ins++T.ins.drop T.loop.toNat,lp⟩:=by
 have h0:=l.lp
 have h1:=l.fit.2.2.2.2.1
 have hlo:T.loop.toNat<T.ins.length:=by omega
 have hll:T.loop.toNat<(movs C T.init T.ins).length:=by rw [movs_len];exact hlo
 have hst:=l.round _ (List.getElem?_eq_getElem hll)
 have hdr:movs C (endS C T.init T.ins) (T.ins.drop T.loop.toNat)=(movs C T.init T.ins).drop T.loop.toNat:=by
  have h2:movs C T.init T.ins=movs C T.init (T.ins.take T.loop.toNat)++movs C (endS C T.init (T.ins.take T.loop.toNat)) (T.ins.drop T.loop.toNat):=by
   rw [<- movs_app,List.take_append_drop]
  rw [hst,<- endS_take (List.getElem?_eq_getElem hll)]
  conv=>rhs;rw [h2]
  exact (List.drop_left' (by rw [movs_len];simp;omega)).symm
 have hL:movs C T.init (T.ins++T.ins.drop T.loop.toNat)=movs C T.init T.ins++(movs C T.init T.ins).drop T.loop.toNat:=by rw [movs_app,hdr]
 have hE:endS C T.init (T.ins++T.ins.drop T.loop.toNat)=endS C T.init T.ins:=by
  rw [endS_app]
  have h2:endS C T.init T.ins=endS C (endS C T.init (T.ins.take T.loop.toNat)) (T.ins.drop T.loop.toNat):=by
   rw [<- endS_app,List.take_append_drop]
  rw [endS_take (List.getElem?_eq_getElem hll),<- hst] at h2
  exact h2.symm
 have hlen:=movs_len (C:=C) (rs:=T.ins) (st:=T.init)
 have sup:∀ s,cameIn (movs C T.init T.ins) T.loop.toNat s->cameIn (movs C T.init T.ins++(movs C T.init T.ins).drop T.loop.toNat) lp.toNat s:=by
  rintro s ⟨m,hm,hs⟩
  refine ⟨m,?_,hs⟩
  rcases hlp with rfl | rfl
  ·rw [List.drop_append_of_le_length (by omega)]
   exact List.mem_append_left _ hm
  ·rw [Int.toNat_natCast,<- hlen,List.drop_left]
   exact hm
 refine ⟨l.chk,l.j0,l.j1,⟨l.fit.1,?_,?_,?_,?_,fun r hr=>?_⟩,l.ini,?_,?_,?_,?_,?_⟩
 ·simp only [List.length_append];have:=l.fit.2.1;omega
 ·simp only [List.length_append,List.length_drop];omega
 ·simp only;omega
 ·simp only [List.length_append,List.length_drop];omega
 ·rcases List.mem_append.1 hr with hr | hr
  ·exact l.fit.2.2.2.2.2 r hr
  ·exact l.fit.2.2.2.2.2 r (List.mem_of_mem_drop hr)
 ·simp only
  rw [hL]
  intro m hm
  rcases List.mem_append.1 hm with hm | hm
  ·exact l.ok m hm
  ·exact l.ok m (List.mem_of_mem_drop hm)
 ·simp only;omega
 ·simp only
  rw [hL,hE]
  intro M hM
  refine l.round M ?_
  rcases hlp with rfl | rfl
  ·rwa [List.getElem?_append_left hll] at hM
  ·rw [Int.toNat_natCast,List.getElem?_append_right (by omega),hlen,Nat.sub_self,List.getElem?_drop] at hM
   exact hM
 ·simp only
  rw [hL]
  exact fun k hk=>sup _ (l.came k hk)
 ·simp only
  rw [hL]
  exact fun k hk=>sup _ (l.fair k hk)
end Go.Proofs.YtdpbdjdgdmheiaaGreat
