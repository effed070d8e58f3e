/- Words and facts that the claim's proof leans on. No condition. -/
import Derived.Test.YtdpbdjdgdmheiaaGreatCB
set_option linter.unusedVariables false
set_option linter.unusedSimpArgs false
namespace Go.Proofs.YtdpbdjdgdmheiaaGreat
open Go.Hx
theorem perm_nI {l:List Int} {m:List Nat} (h:l.Perm (nI m)):∃ m':List Nat,l=nI m'/\m'.Perm m:=by
 refine ⟨l.map Int.toNat,?_,?_⟩
 ·rw [nI,List.map_map]
  conv=>lhs;rw [<- List.map_id l]
  refine List.map_congr_left fun x hx=>?_
  obtain ⟨n,_,rfl⟩:=List.mem_map.1 (h.mem_iff.1 hx)
  simp
 ·have:=h.map Int.toNat
  have e:(nI m).map Int.toNat=m:=by
   rw [nI,List.map_map]
   conv=>rhs;rw [<- List.map_id m]
   exact List.map_congr_left fun x _=>by simp
  rwa [e] at this
structure P1 (n:Nat) (bl:Nat->List Nat) (i t:Nat) (lack:List Int) (AB:List (List Nat)):Prop where
 llen:lack.length=n
 alen:AB.length=n
 lack:∀ j,j<n->lack[j]?=some (((if j<i then (bl j).length else if j=i then t else 0):Nat):Int)
 cnt:∀ x (hx:x<AB.length) j,(AB[x]).count j=if j<i then (bl j).count x else if j=i then ((bl i).take t).count x else 0
 lt:∀ x (hx:x<AB.length),∀ y∈AB[x],y<n
 bd:∀ x (hx:x<AB.length),(AB[x]).length≤2*i+t
theorem P1.start (n:Nat) (bl:Nat->List Nat):P1 n bl 0 0 (List.replicate n 0) (List.replicate n []):=by
 refine ⟨by simp,by simp,fun j hj=>?_,fun x hx j=>?_,fun x hx y hy=>by simp at hy,fun x hx=>by simp⟩
 ·rw [List.getElem?_replicate,if_pos hj];simp
 ·simp
theorem P1.next {n:Nat} {bl:Nat->List Nat} {i t:Nat} {lack:List Int} {AB:List (List Nat)} (p:P1 n bl i t lack AB) (ht:t=(bl i).length) (h2:(bl i).length≤2):P1 n bl (i+1) 0 lack AB:=by
 subst ht
 refine ⟨p.llen,p.alen,fun j hj=>?_,fun x hx j=>?_,p.lt,fun x hx=>by have:=p.bd x hx;omega⟩
 ·rw [p.lack j hj]
  rcases Nat.lt_trichotomy j i with h | h | h
  ·rw [if_pos h,if_pos (by omega)]
  ·subst h;rw [if_neg (by omega),if_pos rfl,if_pos (by omega)]
  ·rw [if_neg (by omega),if_neg (by omega),if_neg (by omega)];simp
 ·rw [p.cnt x hx j]
  rcases Nat.lt_trichotomy j i with h | h | h
  ·rw [if_pos h,if_pos (by omega)]
  ·subst h;rw [if_neg (by omega),if_pos rfl,if_pos (by omega),List.take_of_length_le (Nat.le_refl _)]
  ·rw [if_neg (by omega),if_neg (by omega),if_neg (by omega)];simp
theorem P1.step {n:Nat} {bl:Nat->List Nat} {i t:Nat} {lack:List Int} {AB:List (List Nat)} (p:P1 n bl i t lack AB) (hi:i<n) (ht:t<(bl i).length) (hx:(bl i)[t]<AB.length) :
  P1 n bl i (t+1) (lack.set i ((t+1:Nat):Int)) (AB.set (bl i)[t] (AB[(bl i)[t]]++[i])):=by
 refine ⟨by rw [List.length_set];exact p.llen,by rw [List.length_set];exact p.alen,fun j hj=>?_,fun x hx2 j=>?_,fun x hx2 y hy=>?_,fun x hx2=>?_⟩
 ·by_cases h:i=j
  ·subst h
   rw [List.getElem?_set_self (by rw [p.llen];exact hi),if_neg (by omega),if_pos rfl]
  ·rw [List.getElem?_set_ne h,p.lack j hj]
   split
   ·rfl
   ·rw [if_neg (fun e=>h e.symm),if_neg (fun e=>h e.symm)]
 ·rw [List.length_set] at hx2
  have hc:=p.cnt x hx2 j
  rw [List.getElem_set]
  by_cases hxx:(bl i)[t]=x
  ·subst hxx
   rw [if_pos rfl,List.count_append,hc]
   by_cases hj:j<i
   ·rw [if_pos hj,if_pos hj];simp [show i≠j by omega]
   ·rw [if_neg hj,if_neg hj]
    by_cases hji:j=i
    ·subst hji
     rw [if_pos rfl,if_pos rfl,List.take_succ_eq_append_getElem ht,List.count_append];simp
    ·rw [if_neg hji,if_neg hji];simp [Ne.symm hji]
  ·rw [if_neg hxx,hc]
   by_cases hj:j<i
   ·rw [if_pos hj,if_pos hj]
   ·rw [if_neg hj,if_neg hj]
    by_cases hji:j=i
    ·rw [if_pos hji,if_pos hji,List.take_succ_eq_append_getElem ht,List.count_append];simp [hxx]
    ·rw [if_neg hji,if_neg hji]
 ·rw [List.length_set] at hx2
  rw [List.getElem_set] at hy
  split at hy
  ·rcases List.mem_append.1 hy with h | h
   ·exact p.lt _ _ y h
   ·simp at h;subst h;exact hi
  ·exact p.lt x hx2 y hy
 ·rw [List.length_set] at hx2
  have:=p.bd x hx2
  rw [List.getElem_set]
  split
  ·rename_i e;subst e;rw [List.length_append,List.length_singleton];omega
  ·omega
structure OA (h h':Heap) (n:Nat) (lack:List Int) (AB:List (List Nat)) (av:Option Addr):Prop where
 ext:Ext h h'
 lack:Own 1 h' (some ⟨h.size,0,none⟩) n n (ints lack)
 rows:∃ rows:List Rw,Own 1 h' (some ⟨h.size+1,0,none⟩) n n (rows.map Rw.v)/\rows.map Rw.l=AB.map nI/\(∀ r∈rows,Own 1 h' r.a r.n r.c (ints r.l))/\(∀ r∈rows,∀ x,r.a=some x->h.size+1<x.block) /\
  (∀ i j (hi:i<rows.length) (hj:j<rows.length),i≠j->∀ x y,rows[i].a=some x->rows[j].a=some y->x.block≠y.block)/\(∀ r∈rows,∀ x y,r.a=some x->av=some y->x.block≠y.block)
theorem OA.upd {h h' h'':Heap} {n:Nat} {lack:List Int} {AB:List (List Nat)} {av:Option Addr} (o:OA h h' n lack AB av) (u:Ext h' h''):OA h h'' n lack AB av:=by
 obtain ⟨rows,h1,h2,h3,h4,h5,h6⟩:=o.rows
 exact ⟨o.ext.trans u,o.lack.ext u,rows,h1.ext u,h2,fun r hr=>(h3 r hr).ext u,h4,h5,h6⟩
theorem OA.avoid {h h':Heap} {n:Nat} {lack:List Int} {AB:List (List Nat)} {av av':Option Addr} (o:OA h h' n lack AB av) (hn:∀ y,av'=some y->h'.size≤y.block):OA h h' n lack AB av':=by
 obtain ⟨rows,h1,h2,h3,h4,h5,h6⟩:=o.rows
 refine ⟨o.ext,o.lack,rows,h1,h2,h3,h4,h5,fun r hr x y hx hy e=>?_⟩
 have h7:=(h3 r hr)
 rw [hx] at h7
 have:=h7.lt
 have:=hn y hy
 omega
theorem OA.avoid_next {h h' h'':Heap} {n:Nat} {lack:List Int} {AB:List (List Nat)} {av av':Option Addr} (o:OA h h' n lack AB av) (u:Ext h' h'') (hn:∀ y,av'=some y->h'.size≤y.block):OA h h'' n lack AB av':=(o.avoid hn).upd u
section
variable {h:Heap} {n:Nat} {bl:Nat->List Nat}
theorem OA.use {h6:Heap} {lack:List Int} {AB:List (List Nat)} {av:Option Addr} (o:OA h h6 n lack AB av) {x i:Nat} (hx:x<AB.length) (hi:i<lack.length) (hln:lack.length=n) (hAn:AB.length=n) (hb:(AB[x]).length≤1000000000) (hav:∀ y,av=some y->h.size+1<y.block/\y.block<h6.size)
  {z:Int} {R:Heap->Prop} (hR:∀ h10,OA h h10 n (lack.set i z) (AB.set x (AB[x]++[i])) av->(∀ m vs,Rd h6 av m vs->Rd h10 av m vs)->h6.size≤h10.size->R h10) :
  StoreH h6 (Addr.add ⟨h.size,0,none⟩ (i*1)) [.int .i64 z] fun h7=>0≤((x:Nat):Int)/\((x:Nat):Int)<(n:Nat)/\∃ A2:Option Addr,∃ N2:Nat,∃ C2:Nat,cellH h7 (Addr.add ⟨h.size+1,0,none⟩ (x*1))=some (.slice A2 N2 C2)/\let h8:Heap:=h7.push (.cells #[.int .i64 (i:Nat)] 3);∃ ys:List Value,ReadL h8 (some (Addr.mk h7.size 0 none)) ys/\ys.length=1*1 /\
   AppS h8 A2 N2 C2 3 8 1 #[.int .i64 0] ys 1 fun apA apN apC h9=>0≤((x:Nat):Int)/\((x:Nat):Int)<(n:Nat)/\StoreH h9 (Addr.add ⟨h.size+1,0,none⟩ (x*1)) [.slice apA apN apC] R:=by
 obtain ⟨rows,r1,r2,r3,r4,r5,r6⟩:=o.rows
 have hrl:rows.length=AB.length:=by have:=congrArg List.length r2;simpa using this
 have hxr:x<rows.length:=by omega
 have o1:=Own.write o.lack (i*1) [.int .i64 z] (by simp <;> omega) (by simp [Value.oneCell']) (K:=fun h7=>0≤((x:Nat):Int)/\((x:Nat):Int)<(n:Nat)/\∃ A2:Option Addr,∃ N2:Nat,∃ C2:Nat,cellH h7 (Addr.add ⟨h.size+1,0,none⟩ (x*1))=some (.slice A2 N2 C2)/\let h8:Heap:=h7.push (.cells #[.int .i64 (i:Nat)] 3);∃ ys:List Value,ReadL h8 (some (Addr.mk h7.size 0 none)) ys/\ys.length=1*1 /\
   AppS h8 A2 N2 C2 3 8 1 #[.int .i64 0] ys 1 fun apA apN apC h9=>0≤((x:Nat):Int)/\((x:Nat):Int)<(n:Nat)/\StoreH h9 (Addr.add ⟨h.size+1,0,none⟩ (x*1)) [.slice apA apN apC] R) ?_
 ·exact o1
 intro h7 u7 w7
 have l7:Own 1 h7 (some ⟨h.size,0,none⟩) n n (ints (lack.set i z)):=by
  refine w7 n _ (by simp <;> omega) (Nat.le_refl _) fun j hj=>?_
  rw [ints,List.map_set]
  by_cases hij:j=i
  ·subst hij
   rw [if_pos (by simp <;> omega),List.getElem?_set_self (by simp <;> omega)]
   simp
  ·rw [if_neg (by simp <;> omega),List.getElem?_set_ne (Ne.symm hij)]
 have nb:∀ ad:Addr,h.size+1≤ad.block->¬ ad.block=h.size:=fun ad h1 h2=>by omega
 have r17:=r1.upd u7 (fun ad e=>by cases e;exact nb _ (Nat.le_refl _))
 have r37:∀ r∈rows,Own 1 h7 r.a r.n r.c (ints r.l):=fun r hr=>(r3 r hr).upd u7 fun ad e=>nb ad (Nat.le_of_lt (r4 r hr ad e))
 have hrd:Rd h7 (some ⟨h.size+1,0,none⟩) n (rows.map Rw.v):=by have:=r17.rd;rwa [Nat.mul_one] at this
 have hlx:rows[x].l=nI AB[x]:=by
  have e:=congrArg (·[x]?) r2
  simp only [List.getElem?_map,List.getElem?_eq_getElem hxr,List.getElem?_eq_getElem hx,Option.map_some,Option.some.injEq] at e
  exact e
 have hxn:rows[x].n=(AB[x]).length:=by
  have:=(r3 _ (List.getElem_mem hxr)).rd.len
  rw [hlx] at this
  simp at this
  omega
 refine ⟨by omega,by omega,_,_,_,hrd.getN (f:=Rw.v) (List.getElem?_eq_getElem hxr),?_⟩
 have e8:Ext h7 (h7.push (.cells #[.int .i64 (i:Nat)] 3)):=Ext.push _ _
 have f8:=(Fr.lit (.refl h7) [Value.int .i64 (i:Nat)] 3 1 rfl).rd
 refine ⟨[.int .i64 (i:Nat)],f8.read,rfl,?_⟩
 refine AppS.own ((r37 _ (List.getElem_mem hxr)).ext e8) rfl (by simp [Value.oneCell']) (by rw [hxn];omega) fun a' c' h9 o9 u9 hor=>?_
 have hxa:∀ ad,rows[x].a=some ad->h.size+1<ad.block:=r4 _ (List.getElem_mem hxr)
 have ha':∀ ad,a'=some ad->h.size+1<ad.block:=fun ad e=>by
  rcases hor with h1 | ⟨ad',h1,h2⟩
  ·exact hxa ad (h1▸e)
  ·rw [h1] at e;cases e
   have:=r17.lt
   have:=e8.1
   simp only at *
   omega
 have ub:∀ ad:Addr,ad.block≤h.size+1->¬ atb rows[x].a ad.block:=fun ad h1 ⟨y,hy,e⟩=>by have:=hxa y hy;omega
 have l9:=(l7.ext e8).upd u9 (fun ad e=>by cases e;exact ub _ (Nat.le_succ _))
 have r19:=(r17.ext e8).upd u9 (fun ad e=>by cases e;exact ub _ (Nat.le_refl _))
 have o10:=Own.write r19 (x*1) [.slice a' (rows[x].n+1) c'] (by simp <;> omega) (by simp [Value.oneCell']) (K:=R) ?_
 ·exact ⟨by omega,by omega,o10⟩
 intro h10 u10 w10
 let row:Rw:=⟨a',rows[x].n+1,c',nI (AB[x]++[i])⟩
 have nb1:∀ ad:Addr,h.size+1<ad.block->¬ ad.block=h.size+1:=fun ad h1 h2=>by omega
 have hrow:Own 1 h10 row.a row.n row.c (ints row.l):=by
  have:=o9.upd u10 fun ad e=>nb1 ad (ha' ad e)
  have e1:ints row.l=ints rows[x].l++[Value.int .i64 (i:Nat)]:=by rw [hlx];simp [row,nI,ints]
  rw [e1];exact this
 have hkeep:∀ r∈rows,(∀ ad y,r.a=some ad->rows[x].a=some y->ad.block≠y.block)->Own 1 h10 r.a r.n r.c (ints r.l):=fun r hr hne=>by
  have h1:=((r37 r hr).ext e8).upd u9 fun ad e ⟨y,hy,e2⟩=>hne ad y e hy e2
  exact h1.upd u10 fun ad e=>nb1 ad (r4 r hr ad e)
 have hmem:∀ r∈rows.set x row,r=row∨∃ j,∃ hj:j<rows.length,j≠x/\r=rows[j]:=fun r hr=>by
  obtain ⟨j,hj,rfl⟩:=List.getElem_of_mem hr
  rw [List.length_set] at hj
  rw [List.getElem_set]
  by_cases hjx:x=j
  ·rw [if_pos hjx];exact .inl rfl
  ·rw [if_neg hjx];exact .inr ⟨j,hj,Ne.symm hjx,rfl⟩
 have ext10:Ext h h10:=by
  refine o.ext.newer (Upd.trans (S:=fun b=>h.size≤b) (u7.mono fun b _ e=>by simp only at e;omega) (Upd.trans (Upd.wide e8) (Upd.trans (u9.mono fun b _ ⟨y,hy,e⟩=>by have:=hxa y hy;omega) (u10.mono fun b _ e=>by simp only at e;omega)))) fun b hb hs=>by omega
 refine hR h10 ⟨ext10,l9.upd u10 (fun ad e=>by cases e;intro e;simp only at e;omega),rows.set x row,?_,?_,?_,?_,?_,?_⟩ ?_ (Nat.le_trans u7.1 (Nat.le_trans e8.1 (Nat.le_trans u9.1 u10.1)))
 ·refine w10 n _ (by simp <;> omega) (Nat.le_refl _) fun j hj=>?_
  rw [List.map_set]
  by_cases hjx:j=x
  ·subst hjx
   rw [if_pos (by simp <;> omega),List.getElem?_set_self (by simp <;> omega)]
   simp [row,Rw.v]
  ·rw [if_neg (by simp <;> omega),List.getElem?_set_ne (Ne.symm hjx)]
 ·rw [List.map_set,List.map_set,r2]
 ·intro r hr
  rcases hmem r hr with rfl | ⟨j,hj,hjx,rfl⟩
  ·exact hrow
  ·exact hkeep _ (List.getElem_mem hj) fun ad y h1 h2=>r5 j x hj hxr hjx ad y h1 h2
 ·intro r hr ad e
  rcases hmem r hr with rfl | ⟨j,hj,hjx,rfl⟩
  ·exact ha' ad e
  ·exact r4 _ (List.getElem_mem hj) ad e
 ·have old:∀ j (hj:j<rows.length),j≠x->∀ ad y,row.a=some ad->rows[j].a=some y->ad.block≠y.block:=fun j hj hjx ad y h1 h2=>by
   rcases hor with h3 | ⟨ad',h3,h4⟩
   ·exact r5 x j hxr hj (Ne.symm hjx) ad y (by rw [<- h3];exact h1) h2
   ·have e:a'=some ad:=h1
    rw [h3] at e;cases e
    have h5:=(r37 _ (List.getElem_mem hj)).ext e8
    rw [h2] at h5
    have:=h5.lt
    omega
  intro i1 j1 hi1 hj1 hne ad y h1 h2
  rw [List.length_set] at hi1 hj1
  rw [List.getElem_set] at h1 h2
  by_cases h3:x=i1
  ·rw [if_pos h3] at h1
   rw [if_neg (by omega)] at h2
   exact old j1 hj1 (by omega) ad y h1 h2
  ·rw [if_neg h3] at h1
   by_cases h4:x=j1
   ·rw [if_pos h4] at h2
    exact fun e=>old i1 hi1 (by omega) y ad h2 h1 e.symm
   ·rw [if_neg h4] at h2
    exact r5 i1 j1 hi1 hj1 hne ad y h1 h2
 ·intro r hr ad y h1 h2
  rcases hmem r hr with rfl | ⟨j,hj,hjx,rfl⟩
  ·rcases hor with h3 | ⟨ad',h3,h4⟩
   ·exact r6 _ (List.getElem_mem hxr) ad y (by rw [<- h3];exact h1) h2
   ·have e:a'=some ad:=h1
    rw [h3] at e;cases e
    have:=(hav y h2).2
    have:=u7.1
    have:=e8.1
    omega
  ·exact r6 _ (List.getElem_mem hj) ad y h1 h2
 ·intro m vs hr
  have nav:∀ ad,av=some ad->¬ atb rows[x].a ad.block:=fun ad e ⟨y,hy,e2⟩=>r6 _ (List.getElem_mem hxr) y ad hy e e2.symm
  have h1:=(hr.upd u7 fun ad e=>nb ad (Nat.le_of_lt (hav ad e).1)).ext e8
  exact (h1.upd u9 nav).upd u10 fun ad e=>nb1 ad (hav ad e).1
end
end Go.Proofs.YtdpbdjdgdmheiaaGreat
namespace Go.Proofs.YtdpbdjdgdmheiaaGreat
open Go.Hx
structure OB (h h':Heap) (n bx:Nat) (lack:List Int) (rows:List Rw) (ready out:List Nat) (oa:Option Addr) (oc:Nat):Prop where
 ext:Ext h h'
 lack:Own 1 h' (some ⟨h.size,0,none⟩) n n (ints lack)
 rows:Rd h' (some ⟨h.size+1,0,none⟩) n (rows.map Rw.v)/\(∀ r∈rows,Rd h' r.a r.n (ints r.l))/\(∀ r∈rows,∀ x,r.a=some x->h.size+1<x.block/\x.block<bx)
 box:∃ ra rc,Own 1 h' (some ⟨bx,0,none⟩) 1 1 [.slice ra ready.length rc]/\Own 1 h' ra ready.length rc (ints (nI ready))/\(∀ x,ra=some x->bx<x.block)/\(∀ x y,ra=some x->oa=some y->x.block≠y.block)
 out:Own 1 h' oa out.length oc (ints (nI out))/\∀ y,oa=some y->bx<y.block
 bx:h.size+1<bx
section
variable {h h':Heap} {n bx:Nat} {lack:List Int} {rows:List Rw} {ready out:List Nat} {oa:Option Addr} {oc:Nat}
theorem OB.push (o:OB h h' n bx lack rows ready out oa oc) (hr:ready.length≤1000000) (x:Nat) :
  CallsH Tryz.prog 189 #[.int .i64 (x:Nat),.pointer (some ⟨bx,0,none⟩)] h' fun v h''=>v=.tuple #[]/\∃ ready',ready'.Perm (x::ready)/\OB h h'' n bx lack rows ready' out oa oc:=by
 obtain ⟨ra,rc,b1,b2,b3,b4⟩:=o.box
 obtain ⟨r1,r3,r4⟩:=o.rows
 have hbx:=o.bx
 refine (c189 b1 b2 (fun ad e=>by have:=b3 ad e;omega) (by omega) x).mono ?_
 rintro _ h2 ⟨rfl,a',c',l',o1,o2,hp,hor,u⟩
 obtain ⟨m',rfl,hm⟩:=perm_nI (m:=x::ready) (by simpa using hp)
 have hl:m'.length=ready.length+1:=by rw [hm.length_eq];rfl
 refine ⟨rfl,m',hm,?_⟩
 have low:∀ ad:Addr,ad.block<bx->¬ (ad.block=bx∨atb ra ad.block):=fun ad h1 h2=>by
  rcases h2 with h2 | ⟨y,hy,h2⟩
  ·omega
  ·have:=b3 y hy;omega
 have ol:=o.out.1
 refine ⟨o.ext.newer u fun b hb hs=>?_,o.lack.upd u fun ad e=>by cases e;exact low _ (by simp only;omega),⟨r1.upd u fun ad e=>by cases e;exact low _ (by simp only;omega),fun r hr=>(r3 r hr).upd u fun ad e=>low _ (r4 r hr ad e).2,r4⟩,⟨a',c',by rw [hl];exact o1,by rw [hl];exact o2,fun ad e=>?_,fun ad y e1 e2=>?_⟩,
  ⟨ol.upd u fun ad e hs=>?_,o.out.2⟩,hbx⟩
 ·rcases hs with hs | ⟨y,hy,hs⟩
  ·omega
  ·have:=b3 y hy;omega
 ·rcases hor with h3 | ⟨ad',h3,h4⟩
  ·exact b3 ad (h3▸e)
  ·rw [h3] at e;cases e;have:=b1.lt;simp only at this;omega
 ·rcases hor with h3 | ⟨ad',h3,h4⟩
  ·exact b4 ad y (h3▸e1) e2
  ·rw [h3] at e1;cases e1
   rw [e2] at ol
   have:=ol.lt
   omega
 ·rcases hs with hs | ⟨y,hy,hs⟩
  ·have:=o.out.2 ad e;omega
  ·exact b4 y ad hy e hs.symm
theorem OB.upd {h'':Heap} (o:OB h h' n bx lack rows ready out oa oc) (u:Ext h' h''):OB h h'' n bx lack rows ready out oa oc:=by
 obtain ⟨ra,rc,b1,b2,b3,b4⟩:=o.box
 obtain ⟨r1,r3,r4⟩:=o.rows
 exact ⟨o.ext.trans u,o.lack.ext u,⟨r1.ext u,fun r hr=>(r3 r hr).ext u,r4⟩,⟨ra,rc,b1.ext u,b2.ext u,b3,b4⟩,⟨o.out.1.ext u,o.out.2⟩,o.bx⟩
theorem OB.dec (o:OB h h' n bx lack rows ready out oa oc) {i:Nat} (hi:i<n) (hln:lack.length=n) {z:Int} {R:Heap->Prop} (hR:∀ h'',OB h h'' n bx (lack.set i z) rows ready out oa oc->Upd (fun b=>b=h.size) h' h''->R h'') :
  StoreH h' (Addr.add ⟨h.size,0,none⟩ (i*1)) [.int .i64 z] R:=by
 obtain ⟨ra,rc,b1,b2,b3,b4⟩:=o.box
 obtain ⟨r1,r3,r4⟩:=o.rows
 have hbx:=o.bx
 refine o.lack.write (i*1) [.int .i64 z] (by simp <;> omega) (by simp [Value.oneCell']) fun h'' u w=>hR h'' ⟨o.ext.newer u fun b hb e=>by simp only at e;omega,?_,⟨r1.upd u fun ad e=>by cases e;simp,fun r hr=>(r3 r hr).upd u fun ad e=>by have:=r4 r hr ad e;simp only;omega,r4⟩,
  ⟨ra,rc,b1.upd u fun ad e=>by cases e;simp only;omega,b2.upd u fun ad e=>by have:=b3 ad e;simp only;omega,b3,b4⟩,⟨o.out.1.upd u fun ad e=>by have:=o.out.2 ad e;simp only;omega,o.out.2⟩,hbx⟩ u
 refine w n _ (by simp <;> omega) (Nat.le_refl _) fun j hj=>?_
 rw [ints,List.map_set]
 by_cases hij:j=i
 ·subst hij
  rw [if_pos (by simp <;> omega),List.getElem?_set_self (by simp <;> omega)]
  simp
 ·rw [if_neg (by simp <;> omega),List.getElem?_set_ne (Ne.symm hij)]
theorem OB.lackAt (o:OB h h' n bx lack rows ready out oa oc) {i:Nat} {z:Int} (hz:lack[i]?=some z):cellH h' (Addr.add ⟨h.size,0,none⟩ (i*1))=some (.int .i64 z):=by
 have:Rd h' (some ⟨h.size,0,none⟩) n (ints lack):=by have:=o.lack.rd;rwa [Nat.mul_one] at this
 exact this.getN hz
theorem OB.pop {x:Nat} (o:OB h h' n bx lack rows (ready++[x]) out oa oc) (hlen:ready.length≤1000000) {Q:Int->Heap->Prop} (hQ:∀ h'',OB h h'' n bx lack rows ready out oa oc->Q (x:Nat) h'') :
  ∃ A4:Option Addr,∃ N4:Nat,∃ C4:Nat,cellH h' ⟨bx,0,none⟩=some (.slice A4 N4 C4)/\∃ A5:Option Addr,∃ N5:Nat,∃ C5:Nat,cellH h' ⟨bx,0,none⟩=some (.slice A5 N5 C5)/\0≤((IntKind.wrap .i64 (((N5:Nat):Int)-1)):Int)/\((IntKind.wrap .i64 (((N5:Nat):Int)-1)):Int)<(N4:Nat) /\
   AtP A4 fun ad2=>∃ t6:Int,cellH h' (Addr.add ad2 (Int.toNat (IntKind.wrap .i64 (((N5:Nat):Int)-1))*1))=some (.int .i64 t6)/\∃ A6:Option Addr,∃ N6:Nat,∃ C6:Nat,cellH h' ⟨bx,0,none⟩=some (.slice A6 N6 C6)/\∃ A7:Option Addr,∃ N7:Nat,∃ C7:Nat,cellH h' ⟨bx,0,none⟩=some (.slice A7 N7 C7) /\
   0≤(0:Int)/\(0:Int)≤(IntKind.wrap .i64 (((N7:Nat):Int)-1))/\((IntKind.wrap .i64 (((N7:Nat):Int)-1)):Int)≤(C6:Nat)/\StoreH h' ⟨bx,0,none⟩ [.slice (cutA 1 A6 C6 (Int.toNat 0)) (Int.toNat (IntKind.wrap .i64 (((N7:Nat):Int)-1))-Int.toNat 0) (C6-Int.toNat 0)] fun h20=>Q t6 h20:=by
 obtain ⟨ra,rc,b1,b2,b3,b4⟩:=o.box
 obtain ⟨r1,r3,r4⟩:=o.rows
 have hbx:=o.bx
 have hl:(ready++[x]).length=ready.length+1:=by simp
 rw [hl] at b1 b2
 have rb:cellH h' ⟨bx,0,none⟩=some (.slice ra (ready.length+1) rc):=by have:=b1.rd.read 0 _ rfl;rwa [addr_add0] at this
 have hrd:Rd h' ra (ready.length+1) (ints (nI (ready++[x]))):=by have:=b2.rd;rwa [Nat.mul_one] at this
 have hcap:=b2.cap
 have e1:IntKind.wrap .i64 (((ready.length+1:Nat):Int)-1)=(ready.length:Nat):=by rw [w64 (by omega) (by omega)];omega
 refine ⟨_,_,_,rb,_,_,_,rb,?_⟩
 rw [e1]
 refine ⟨by omega,by omega,hrd.getn (i:=ready.length) (by omega) fun ad hl1 hc=>⟨((x:Nat):Int),?_,_,_,_,rb,_,_,_,rb,?_⟩⟩
 ·have e2:(nI (ready++[x]))[ready.length]=(x:Int):=by simp [nI]
  rw [e2] at hc
  exact hc
 rw [e1]
 simp only [Int.toNat_natCast,Int.toNat_zero,Nat.sub_zero,cutA_zero]
 refine ⟨by omega,by omega,by omega,?_⟩
 have:=b1.write 0 [.slice ra ready.length rc] (by simp) (by simp [Value.oneCell']) (K:=fun h20=>Q (x:Nat) h20) fun h20 u w=>hQ h20 ?_
 ·rwa [addr_add0] at this
 refine ⟨o.ext.newer u fun b hb e=>by simp only at e;omega,o.lack.upd u fun ad e=>by cases e;simp only;omega,⟨r1.upd u fun ad e=>by cases e;simp only;omega,fun r hr=>(r3 r hr).upd u fun ad e=>by have:=r4 r hr ad e;simp only;omega,r4⟩,
  ⟨ra,rc,w 1 _ rfl (by omega) fun i hi=>by rw [if_pos (by simp <;> omega),Nat.sub_zero],?_,b3,b4⟩,⟨o.out.1.upd u fun ad e=>by have:=o.out.2 ad e;simp only;omega,o.out.2⟩,hbx⟩
 have h1:=(b2.take (m:=ready.length) (by omega)).upd u fun ad e=>by have:=b3 ad e;simp only;omega
 have e3:(ints (nI (ready++[x]))).take (ready.length*1)=ints (nI ready):=by rw [Nat.mul_one,<- List.map_take,<- List.map_take,List.take_left]
 rwa [e3] at h1
theorem OB.tell (o:OB h h' n bx lack rows ready out oa oc) (hlen:out.length≤1000000) (x:Nat) {K:Option Addr->Nat->Nat->Heap->Prop} (hK:∀ a' c' h'',OB h h'' n bx lack rows ready (out++[x]) a' c'->K a' (out.length+1) c' h'') :
  ∃ ys1:List Value,ReadL (h'.push (.cells #[.int .i64 (x:Nat)] 3)) (some (Addr.mk h'.size 0 none)) ys1/\ys1.length=1*1/\AppS (h'.push (.cells #[.int .i64 (x:Nat)] 3)) oa out.length oc 3 8 1 #[.int .i64 0] ys1 1 K:=by
 have u1:Ext h' (h'.push (.cells #[.int .i64 (x:Nat)] 3)):=Ext.push _ _
 have o1:=o.upd u1
 have f1:=(Fr.lit (.refl h') [Value.int .i64 (x:Nat)] 3 1 rfl).rd
 refine ⟨[.int .i64 (x:Nat)],f1.read,rfl,AppS.own o1.out.1 rfl (by simp [Value.oneCell']) (by omega) fun a' c' h'' o' u hor=>hK a' c' h'' ?_⟩
 obtain ⟨ra,rc,b1,b2,b3,b4⟩:=o1.box
 obtain ⟨r1,r3,r4⟩:=o1.rows
 have hbx:=o1.bx
 have hob:=o1.out.2
 have low:∀ ad:Addr,ad.block≤bx->¬ atb oa ad.block:=fun ad h1 ⟨y,hy,h2⟩=>by have:=hob y hy;omega
 have ha':∀ y,a'=some y->bx<y.block:=fun y e=>by
  rcases hor with h3 | ⟨ad',h3,h4⟩
  ·exact hob y (h3▸e)
  ·rw [h3] at e;cases e;have:=b1.lt;simp only at this;omega
 refine ⟨o1.ext.newer u fun b hb ⟨y,hy,e⟩=>by have:=hob y hy;omega,o1.lack.upd u fun ad e=>by cases e;exact low _ (by simp only;omega),⟨r1.upd u fun ad e=>by cases e;exact low _ (by simp only;omega),fun r hr=>(r3 r hr).upd u fun ad e=>low _ (by have:=(r4 r hr ad e).2;omega),r4⟩,
  ⟨ra,rc,b1.upd u fun ad e=>by cases e;exact low _ (Nat.le_refl _),b2.upd u fun ad e ⟨y,hy,e2⟩=>b4 ad y e hy e2,b3,fun z y e1 e2=>?_⟩,⟨?_,ha'⟩,hbx⟩
 ·rcases hor with h3 | ⟨ad',h3,h4⟩
  ·exact b4 z y e1 (h3▸e2)
  ·rw [h3] at e2;cases e2
   rw [e1] at b2
   have:=b2.lt
   omega
 ·rw [List.length_append,nI,ints,List.map_append,List.map_append]
  exact o'
end
end Go.Proofs.YtdpbdjdgdmheiaaGreat
namespace Go.Proofs.YtdpbdjdgdmheiaaGreat
open Go.Hx
theorem hok:callOkP Tryz.prog 189:=show callOk Tryz.prog 189=true by kernel_rfl
theorem nI_at {l:List Nat} {i:Nat} (hi:i<l.length):(nI l)[i]'(by simpa using hi)=((l[i]:Nat):Int):=by simp
section
variable {h0 h:Heap} {k:Addr} {v:CV} {b:Addr} {B:List Mk} {C:Circ}
def OPost (C:Circ) (B:List Mk) (h:Heap) (w:Value) (h':Heap):Prop:=
 ∃ out a c,Topo C.ands.length (bel C B) out/\w=.slice a out.length c/\Fr h 1 h' a out.length c (ints (nI out))
theorem o3 (g:GOk C B) {n bx:Nat} (hn:n=C.ands.length) {lack:List Int} {AB:List (List Nat)} {rows:List Rw} {ready:List Nat} {h_ h12 h17:Heap} (hs:h_.size=h.size+1) (hbx:h12.size=bx) (o:OB h h17 n bx lack rows ready [] none 0) (r2:rows.map Rw.l=AB.map nI) (q:Ord n (bel C B) [] [] ready lack)
  (hA:AB.length=n) (hcnt:∀ x (hx:x<AB.length) j,j<n->(AB[x]).count j=(bel C B j).count x) (hlt:∀ x (hx:x<AB.length),∀ y∈AB[x],y<n) (hbd:∀ x (hx:x<AB.length),(AB[x]).length≤2*n):J180_7 Tryz.prog (OPost C B h) h n h_ h12 h17:=by
 subst hbx
 have hgn:=g.n
 refine ⟨fun st h' m=>∃ lack ready out oc,st.2.1=out.length/\st.2.2=oc/\m=n-out.length/\OB h h' n h12.size lack rows ready out st.1 oc/\Ord n (bel C B) out [] ready lack,⟨_,lack,ready,[],0,rfl,rfl,rfl,o,q⟩,?_⟩
 rintro ⟨oa,on,oc⟩ h18 m ⟨lack,ready,out,oc',hon,hoc,rfl,o,q⟩
 dsimp only at hon hoc o ⊢
 subst hon;subst hoc
 have hol:=q.olen
 obtain ⟨ra,rc,b1,b2,b3,b4⟩:=o.box
 have rb:cellH h18 ⟨h12.size,0,none⟩=some (.slice ra ready.length rc):=by have:=b1.rd.read 0 _ rfl;rwa [addr_add0] at this
 refine ⟨_,_,_,rb,fun hlt2=>?_,fun hlt2=>?_⟩
 ·have hne:ready≠[]:=fun e=>by subst e;simp at hlt2
  obtain ⟨r0,x,rfl⟩:∃ r0 x,ready=r0++[x]:=⟨ready.dropLast,ready.getLast hne,(List.dropLast_concat_getLast hne).symm⟩
  have hxn:x<n:=q.lt x (by simp)
  have hxA:x<AB.length:=by omega
  have q1:=q.pop (ab:=AB[x]) fun i hi=>hcnt x hxA i hi
  simp only [List.length_append,List.length_singleton] at hol
  unfold J180_11
  refine o.pop (by omega) fun h20 o20=>?_
  refine o20.tell (by omega) x fun a' c' h22 o22=>?_
  refine ⟨by omega,by omega,?_⟩
  obtain ⟨r1,r3,r4⟩:=o22.rows
  have hrl:rows.length=AB.length:=by have:=congrArg List.length r2;simpa using this
  have hxr:x<rows.length:=by omega
  have hlx:rows[x].l=nI AB[x]:=by
   have e:=congrArg (·[x]?) r2
   simp only [List.getElem?_map,List.getElem?_eq_getElem hxr,List.getElem?_eq_getElem hxA,Option.map_some,Option.some.injEq] at e
   exact e
  have hrx:=r3 _ (List.getElem_mem hxr)
  have hrn:rows[x].n=(AB[x]).length:=by have:=hrx.len;rw [hlx] at this;simpa using this.symm
  rw [hs]
  refine ⟨_,_,_,r1.getN (f:=Rw.v) (i:=x) (List.getElem?_eq_getElem hxr),?_⟩
  have hABn:=hbd x hxA
  refine LoopT.to (n:=rows[x].n) (by omega) (fun t h'=>∃ lack ready,OB h h' n h12.size lack rows ready (out++[x]) a' c'/\Ord n (bel C B) (out++[x]) ((AB[x]).drop t) ready lack) ⟨lack,r0,o22,q1⟩ ?_
  rintro t h23 K ht ⟨lack,ready,o23,q23⟩ hK
  have r23:Rd h23 rows[x].a rows[x].n (ints (nI AB[x])):=by rw [<- hlx];exact o23.rows.2.1 _ (List.getElem_mem hxr)
  refine ⟨fun hl=>?_,fun hl=>?_⟩
  ·have htl:t<(AB[x]).length:=by omega
   obtain ⟨y,hy⟩:∃ y,y=(AB[x])[t]:=⟨_,rfl⟩
   have hyn:y<n:=by rw [hy];exact hlt x hxA _ (List.getElem_mem htl)
   rw [List.drop_eq_getElem_cons htl,<- hy] at q23
   have hly:=q23.lack y hyn
   have hc1:(y::(AB[x]).drop (t+1)).count y=((AB[x]).drop (t+1)).count y+1:=by simp
   rw [hc1] at hly
   obtain ⟨z,hz⟩:∃ z,z=lk (bel C B) (out++[x]) y+((AB[x]).drop (t+1)).count y:=⟨_,rfl⟩
   have hz1:lk (bel C B) (out++[x]) y+(((AB[x]).drop (t+1)).count y+1)=z+1:=by omega
   rw [hz1] at hly
   have hzb:z≤10000000:=by
    have h1:lk (bel C B) (out++[x]) y≤(bel C B y).length:=List.length_filter_le _ _
    have h2:=bel_two (C:=C) (B:=B) y
    have h3:((AB[x]).drop (t+1)).count y≤((AB[x]).drop (t+1)).length:=List.count_le_length
    rw [List.length_drop] at h3
    omega
   refine ⟨by omega,by omega,r23.getn (i:=t) (by omega) fun ad hl1 hc=>⟨(y:Nat),?_,by omega,by omega,_,o23.lackAt hly,by omega,by omega,?_⟩⟩
   ·rw [Int.toNat_natCast,hc,nI_at htl,<- hy]
   rw [Int.toNat_natCast]
   have e1:IntKind.wrap .i64 (((z+1:Nat):Int)-1)=(z:Nat):=by rw [w64 (by omega) (by omega)];omega
   rw [e1]
   refine o23.dec hyn q23.len fun h25 o25 u25=>?_
   have hl25:(lack.set y ((z:Nat):Int))[y]?=some ((z:Nat):Int):=List.getElem?_set_self (by rw [q23.len];exact hyn)
   have hrl23:=q23.olen
   refine ⟨by omega,by omega,_,o25.lackAt hl25,fun h0=>⟨hok,(o25.push (by omega) y).mono ?_⟩,fun h0=>?_⟩
   ·rintro _ h26 ⟨rfl,ready',hp,o26⟩
    refine ⟨rfl,hK _ (by omega) ⟨_,ready',o26,?_⟩⟩
    have:=q23.dec hyn (ready':=ready') (by rw [if_pos (by omega)];exact hp)
    rw [<- hz] at this
    exact this
   ·refine hK _ (by omega) ⟨_,ready,o25,?_⟩
    have:=q23.dec hyn (ready':=ready) (by rw [if_neg (by omega)])
    rw [<- hz] at this
    exact this
  ·rw [List.drop_of_length_le (by omega)] at q23
   exact ⟨n-(out++[x]).length,by simp;omega,lack,ready,out++[x],c',by simp,rfl,rfl,o23,q23⟩
 ·have hr:ready=[]:=by
   cases ready with
   | nil=>rfl
   | cons y l=>simp at hlt2
  subst hr
  exact ⟨out,oa,oc,by rw [<- hn];exact q.done,rfl,⟨o.out.1,fun ad e=>by have:=o.out.2 ad e;have:=o.bx;omega,o.ext⟩⟩
theorem o2 (g:GOk C B) {n:Nat} (hn:n=C.ands.length) {lack:List Int} {AB:List (List Nat)} {h_ h12:Heap} (hs:h_.size=h.size+1) (A:OA h h12 n lack AB none) (p:P1 n (bel C B) n 0 lack AB):J180_0 Tryz.prog (OPost C B h) h n h_ h12:=by
 have hgn:=g.n
 obtain ⟨rows,r1,r2,r3,r4,r5,r6⟩:=A.rows
 have e1:Ext h12 (h12.push (.cells #[.slice none 0 0] 22)):=Ext.push _ _
 have f1:=Fr.lit (.refl h12) [Value.slice none 0 0] 22 1 rfl
 have hlk:∀ j,lk (bel C B) [] j=(bel C B j).length:=fun j=>by unfold lk;rw [List.filter_eq_self.2];intro y _;simp
 have hbx:h.size+1<h12.size:=r1.lt
 have hrows:∀ r∈rows,∀ x,r.a=some x->h.size+1<x.block/\x.block<h12.size:=fun r hr x e=>⟨r4 r hr x e,by have:=r3 r hr;rw [e] at this;exact this.lt⟩
 have r1':Rd h12 (some ⟨h.size+1,0,none⟩) n (rows.map Rw.v):=by have:=r1.rd;rwa [Nat.mul_one] at this
 have r3':∀ r∈rows,Rd h12 r.a r.n (ints r.l):=fun r hr=>by have:=(r3 r hr).rd;rwa [Nat.mul_one] at this
 have o0:OB h (h12.push (.cells #[.slice none 0 0] 22)) n h12.size lack rows [] [] none 0:=
  ⟨A.ext.trans e1,A.lack.ext e1,⟨r1'.ext e1,fun r hr=>(r3' r hr).ext e1,hrows⟩,⟨none,0,f1.own,.nil,(fun _ e=>by cases e),(fun _ _ e=>by cases e)⟩,⟨.nil,fun _ e=>by cases e⟩,hbx⟩
 unfold J180_0
 intro h13
 refine LoopT.to (n:=n) (by omega) (fun t h'=>∃ ready,OB h h' n h12.size lack rows ready [] none 0/\ready.Nodup/\ready.length≤t/\∀ i,i∈ready↔i<t/\(bel C B i).length=0) ⟨[],o0,List.nodup_nil,Nat.le_refl _,fun i=>by simp⟩ ?_
 rintro t h14 K ht ⟨ready,o14,hnd,hle,hmem⟩ hK
 refine ⟨fun hlt=>?_,fun hlt=>?_⟩
 ·have hl:=p.lack t (by omega)
  rw [if_pos (by omega)] at hl
  have hb2:=bel_two (C:=C) (B:=B) t
  refine ⟨by omega,by omega,_,by rw [Int.toNat_natCast];exact o14.lackAt hl,fun h0=>⟨hok,(o14.push (by omega) t).mono ?_⟩,fun h0=>hK _ (by omega) ⟨ready,o14,hnd,by omega,fun i=>?_⟩⟩
  ·rintro _ h16 ⟨rfl,ready',hp,o16⟩
   refine ⟨rfl,hK _ (by omega) ⟨ready',o16,?_,by rw [hp.length_eq];simpa using hle,fun i=>?_⟩⟩
   ·rw [hp.nodup_iff,List.nodup_cons]
    exact ⟨fun hm=>by have:=(hmem t).1 hm;omega,hnd⟩
   ·rw [hp.mem_iff,List.mem_cons,hmem]
    constructor
    ·rintro (rfl | hh)
     ·exact ⟨by omega,by omega⟩
     ·exact ⟨by omega,hh.2⟩
    ·intro hh
     by_cases hit:i=t
     ·exact .inl hit
     ·exact .inr ⟨by omega,hh.2⟩
  ·rw [hmem]
   constructor
   ·intro hh;exact ⟨by omega,hh.2⟩
   ·intro hh
    by_cases hit:i=t
    ·subst hit;omega
    ·exact ⟨by omega,hh.2⟩
 ·have htn:t=n:=by omega
  subst htn
  refine o3 g hn hs rfl o14 r2 ⟨p.llen,fun i hi=>?_,fun i hi=>?_,by simpa using hnd,fun i hi=>by simp only [List.nil_append] at hi;exact ((hmem i).1 hi).1,fun k hk=>by simp at hk⟩ p.alen (fun x hx j hj=>?_) p.lt fun x hx=>by have:=p.bd x hx;omega
  ·have:=p.lack i hi
   rw [if_pos hi] at this
   rw [this,hlk];simp
  ·rw [hlk,hmem]
   simp only [List.not_mem_nil,false_or,List.count_nil,Nat.add_zero]
   exact ⟨fun hh=>hh.2,fun hh=>⟨hi,hh⟩⟩
  ·have:=p.cnt x hx j
   rw [if_pos hj] at this
   exact this
theorem c180 (L:Lk h0 h k v b B) (m:MxOk v B) (r:CIs h0 v C) (g:GOk C B):CallsH Tryz.prog 180 #[.pointer (some k)] h (OPost C B h):=by
 have hgn:=g.n
 have hl:=r.len
 have hg:=hl.g
 refine run180 (some k) _ h ⟨_,_,_,L.fld0 8 rfl,by omega,by omega,by omega,?_⟩
 intro h_
 refine ⟨by omega,by omega,by omega,?_⟩
 intro h1
 have hs:h_.size=h.size+1:=by simp [h_]
 obtain ⟨n,hn⟩:∃ n,n=v.g.n:=⟨_,rfl⟩
 have f1:Fr h 1 h_ (some ⟨h.size,0,none⟩) n n (List.replicate n (.int .i64 0)):=by
  have:=Fr.zeros (h:=h) (.int .i64 0) 3 n
  rw [hn] at this ⊢
  exact this
 have f2:Fr h_ 1 h1 (some ⟨h_.size,0,none⟩) n n (List.replicate n (.slice none 0 0)):=by
  have:=Fr.zeros (h:=h_) (.slice none 0 0) 22 n
  rw [hn] at this ⊢
  exact this
 rw [hs] at f2
 have A0:OA h h1 n (List.replicate n 0) (List.replicate n []) none:=by
  refine ⟨f1.ext.trans f2.ext,?_,List.replicate n ⟨none,0,0,[]⟩,?_,?_,?_,?_,?_,?_⟩
  ·have:=f1.own.ext f2.ext
   rw [ints,List.map_replicate];exact this
  ·have:=f2.own
   rw [List.map_replicate];exact this
  ·simp
  ·intro r hr;rw [(List.mem_replicate.1 hr).2];exact .nil
  ·intro r hr x e;rw [(List.mem_replicate.1 hr).2] at e;cases e
  ·intro i j hi hj _ x y e;simp at e
  ·intro r hr x y e;rw [(List.mem_replicate.1 hr).2] at e;cases e
 have hnC:n=C.ands.length:=by omega
 rw [<- hn]
 refine LoopT.to (n:=n) (by omega) (fun i h'=>∃ lack AB,OA h h' n lack AB none/\P1 n (bel C B) i 0 lack AB) ⟨_,_,A0,P1.start n _⟩ ?_
 rintro i h2 K hi ⟨lack,AB,A,p⟩ hK
 refine ⟨fun hlt=>?_,fun hlt=>?_⟩
 ·have hin:i<n:=by omega
  refine (c185 (L.upd A.ext) m r g (i:=i) (by omega)).mono ?_
  rintro _ h4 ⟨a,c,rfl,f4⟩
  refine ⟨_,_,_,rfl,?_⟩
  have hb2:=bel_two (C:=C) (B:=B) i
  have hav:∀ y,a=some y->h.size+1<y.block/\y.block<h4.size:=fun y e=>by
   have h1:=f4.new y e
   have h2:=f4.own
   rw [e] at h2
   have h3:=h2.lt
   obtain ⟨rows,r1,_⟩:=A.rows
   have:=r1.lt
   simp only at this
   omega
  have A4:OA h h4 n lack AB a:=A.avoid_next f4.ext f4.new
  refine LoopT.to (n:=(bel C B i).length) (by omega) (fun t h'=>∃ lack AB,OA h h' n lack AB a/\P1 n (bel C B) i t lack AB/\Rd h' a (bel C B i).length (ints (nI (bel C B i)))/\h4.size≤h'.size) ⟨lack,AB,A4,p,f4.rd,Nat.le_refl _⟩ ?_
  rintro t h6 K2 ht ⟨lack,AB,A6,p6,r6,hsz⟩ hK2
  refine ⟨fun hl=>?_,fun hl=>?_⟩
  ·have htl:t<(bel C B i).length:=by omega
   obtain ⟨x,hx⟩:∃ x,x=(bel C B i)[t]:=⟨_,rfl⟩
   have hxn:x<n:=by rw [hx,hnC];exact bel_lt g i _ (List.getElem_mem htl)
   have hxA:x<AB.length:=by rw [p6.alen];exact hxn
   have hla:=p6.lack i hin
   rw [if_neg (by omega),if_pos rfl] at hla
   have hrl:Rd h6 (some ⟨h.size,0,none⟩) n (ints lack):=by have:=A6.lack.rd;rwa [Nat.mul_one] at this
   refine ⟨by omega,by omega,r6.getn (i:=t) (by omega) fun ad hl1 hc=>⟨(x:Nat),?_,by omega,by omega,_,by rw [Int.toNat_natCast];exact hrl.getN hla,by omega,by omega,?_⟩⟩
   ·rw [Int.toNat_natCast,hc,nI_at htl,<- hx]
   have e9:IntKind.wrap .i64 (((t:Nat):Int)+1)=((t+1:Nat):Int):=by rw [w64 (by omega) (by omega)];rfl
   rw [e9]
   simp only [Int.toNat_natCast]
   have:=A6.use (z:=((t+1:Nat):Int)) hxA (show i<lack.length by rw [p6.llen];exact hin) p6.llen p6.alen (by have:=p6.bd x hxA;omega) (fun y e=>⟨(hav y e).1,by have:=(hav y e).2;omega⟩)
    (R:=fun h10=>K2 ((t+1:Nat):Int) h10) fun h10 A10 hr10 hsz10=>?_
   ·rw [hs];exact this
   ·rw [<- e9]
    refine hK2 _ (by omega) ⟨_,_,A10,?_,hr10 _ _ r6,by omega⟩
    have:=p6.step hin htl (by rw [<- hx];exact hxA)
    simp only [<- hx] at this
    exact this
  ·have hte:t=(bel C B i).length:=by omega
   exact hK _ (by omega) ⟨lack,AB,⟨A6.ext,A6.lack,(by obtain ⟨rows,q1,q2,q3,q4,q5,q6⟩:=A6.rows;exact ⟨rows,q1,q2,q3,q4,q5,fun _ _ _ _ _ e=>by cases e⟩)⟩,p6.next hte (by omega)⟩
 ·have:i=n:=by omega
  subst this
  exact o2 g hnC hs A p
end
end Go.Proofs.YtdpbdjdgdmheiaaGreat
namespace Go.Proofs.YtdpbdjdgdmheiaaGreat
open Go.Hx
theorem natBools {n:Nat}:bools (List.replicate n false)=List.replicate n (Value.bool false):=by rw [bools,List.map_replicate]
noncomputable def cycV (C:Circ) (B:List Mk):Int:=match cyc C B with | some i=>(i:Nat) | none =>-1
theorem cycV_some {C:Circ} {B:List Mk} {i:Nat} (h:cyc C B=some i):cycV C B=(i:Nat):=by unfold cycV;rw [h]
theorem cycV_none {C:Circ} {B:List Mk} (h:cyc C B=none):cycV C B = -1:=by unfold cycV;rw [h]
section
variable {h0 h:Heap} {k:Addr} {v:CV} {b:Addr} {B:List Mk} {C:Circ}
theorem c173 (L:Lk h0 h k v b B) (m:MxOk v B) (r:CIs h0 v C) (g:GOk C B):CallsH Tryz.prog 173 #[.pointer (some k)] h (Xt (.int .i64 (cycV C B)) h):=by
 have hl:=r.len
 have hg:=hl.g
 have hgn:=g.n
 have hb:∀ i y,y∈bel C B i->y<C.ands.length:=bel_lt g
 refine run173 (some k) _ h ⟨.old h.size,(c180 L m r g).mono ?_⟩
 rintro _ h1 ⟨out,a,c,t,rfl,f⟩
 have L1:=L.upd f.ext
 have hklt:k.block<h.size:=by have:=cellH_lt (L.fld 0 rfl);rwa [add_block] at this
 refine ⟨_,_,_,rfl,fun b hb=>f.ext.2 b hb fun x=>x,Zone.has.cell (fun h'' hz=>hz _ (by rw [add_block,add_block];exact Nat.lt_of_lt_of_le hklt (Nat.le_refl _))),_,_,_,L1.fld0 8 rfl,fun he=>?_,fun he=>?_⟩
 ·refine ⟨by rw [cycV_none (cyc_none fun j hj=>t.none (by omega) hj)],f.ext⟩
 refine ⟨_,_,_,L1.fld0 8 rfl,LoopT.to (n:=v.g.n) (by omega) (fun i h'=>Ext h h'/\∀ j,j<i->¬ Rnd C B j) ⟨f.ext,fun j hj=>by omega⟩ ?_⟩
 rintro i h2 K hi ⟨u2,hno⟩ hK
 have L2:=L.upd u2
 refine ⟨fun hlt=>?_,fun hlt=>?_⟩
 ·have hin:i<C.ands.length:=by omega
  refine ⟨_,_,_,L2.fld0 8 rfl,by omega,by omega,by omega,?_⟩
  intro h4
  have f4:Fr h2 1 h4 (some ⟨h2.size,0,none⟩) v.g.n v.g.n (bools (List.replicate v.g.n false)):=by rw [natBools];exact Fr.zeros (h:=h2) (.bool false) 4 v.g.n
  refine (c185 (L2.upd f4.ext) m r g (i:=i) hin).mono ?_
  rintro _ h5 ⟨wa,wc,rfl,f5⟩
  refine ⟨_,_,_,rfl,?_⟩
  have h5n:h2.size<h4.size:=f4.own.lt
  refine ⟨fun st h' m=>∃ seen work,st.2.1=work.length/\Ext h h'/\Srch C.ands.length (bel C B) i seen work/\m=3*cntF seen+work.length/\Own 1 h' (some ⟨h2.size,0,none⟩) v.g.n v.g.n (bools seen)/\Own 1 h' st.1 work.length st.2.2 (ints (nI work))/\(∀ ad,st.1=some ad->h2.size<ad.block)/\work.length≤5*1000000-3*cntF seen,
   ⟨_,_,_,rfl,u2.trans (f4.ext.trans f5.ext),Srch.start hb i,rfl,by rw [<- hg];rw [<- hg] at f4;exact f4.own.ext f5.ext,f5.own,fun ad e=>by have:=f5.new ad e;omega,?_⟩,?_⟩
  ·have:=cntF_le (List.replicate C.ands.length false)
   have:=bel_two (C:=C) (B:=B) i
   simp at *
   omega
  rintro ⟨oa,on,oc⟩ h6 _ ⟨seen,work,hon,u6,s,rfl,o1,o2,hne,hwl⟩
  dsimp only at hon o2 hne ⊢
  subst hon
  refine ⟨fun hl6=>?_,fun hl6=>?_⟩
  ·have hne2:work≠[]:=fun e=>by subst e;simp at hl6
   obtain ⟨w0,x,rfl⟩:∃ w0 x,work=w0++[x]:=⟨work.dropLast,work.getLast hne2,(List.dropLast_concat_getLast hne2).symm⟩
   have hlen:(w0++[x]).length=w0.length+1:=by simp
   rw [hlen] at o2 hwl ⊢
   have e1:IntKind.wrap .i64 (((w0.length+1:Nat):Int)-1)=(w0.length:Nat):=by rw [w64 (by omega) (by omega)];omega
   have hxn:=s.lt x (by simp)
   have hrd:Rd h6 oa (w0.length+1) (ints (nI (w0++[x]))):=by have:=o2.rd;rwa [Nat.mul_one] at this
   have hcap:=o2.cap
   unfold J173_5
   rw [e1]
   refine ⟨by omega,by omega,hrd.getn (i:=w0.length) (by omega) fun ad hl1 hc=>⟨((x:Nat):Int),?_,by omega,by omega,by omega,fun hxi=>?_,fun hxi=>?_⟩⟩
   ·rw [Int.toNat_natCast,hc]
    simp [nI]
   ·have hxi2:x=i:=by omega
    subst hxi2
    exact ⟨by rw [cycV_some (cyc_some hxn (s.rw_ x (by simp)) hno)],u6⟩
   have hxi2:x≠i:=fun e=>hxi (by rw [e])
   have hsl:x<seen.length:=by rw [s.len];exact hxn
   have hsd:Rd h6 (some ⟨h2.size,0,none⟩) v.g.n (bools seen):=by have:=o1.rd;rwa [Nat.mul_one] at this
   have o2':Own 1 h6 oa w0.length oc (ints (nI w0)):=by
    have h1:=o2.take (m:=w0.length) (by omega)
    have e3:(ints (nI (w0++[x]))).take (w0.length*1)=ints (nI w0):=by rw [Nat.mul_one,<- List.map_take,<- List.map_take,List.take_left]
    rwa [e3] at h1
   unfold J173_6
   rw [e1]
   simp only [Int.toNat_natCast,Int.toNat_zero,Nat.sub_zero,cutA_zero]
   refine ⟨by omega,by omega,seen[x],hsd.getN (List.getElem?_eq_getElem hsl),?_⟩
   cases hsx:seen[x] with
   | true=>
    have hsx':seen[x]?=some true:=by rw [List.getElem?_eq_getElem hsl,hsx]
    refine BIf.f ?_
    exact ⟨3*cntF seen+w0.length,by omega,seen,w0,rfl,u6,s.skip hsx',rfl,o1,o2',hne,by omega⟩
   | false=>
    have hsx':seen[x]?=some false:=by rw [List.getElem?_eq_getElem hsl,hsx]
    refine BIf.t ⟨by omega,by omega,?_⟩
    have hcf:=cntF_set hsx'
    refine o1.write (x*1) [.bool true] (by simp <;> omega) (by simp [Value.oneCell']) fun h9 u9 w9=>?_
    have o19:Own 1 h9 (some ⟨h2.size,0,none⟩) v.g.n v.g.n (bools (seen.set x true)):=by
     refine w9 _ _ (by have:=s.len;simp <;> omega) (Nat.le_refl _) fun j hj=>?_
     rw [bools,List.map_set]
     by_cases hij:j=x
     ·subst hij
      rw [if_pos (by simp <;> omega),List.getElem?_set_self (by simp <;> omega)]
      simp
     ·rw [if_neg (by simp <;> omega),List.getElem?_set_ne (Ne.symm hij)]
    have h2h:h.size≤h2.size:=u2.1
    have u69:Ext h h9:=u6.newer u9 fun b hb e=>by simp only at e;omega
    have o29:=o2'.upd u9 fun ad e=>by have:=hne ad e;simp only;omega
    refine (c185 (L.upd u69) m r g (i:=x) hxn).mono ?_
    rintro _ h10 ⟨ba,bc,rfl,f10⟩
    refine ⟨_,_,_,rfl,ints (nI (bel C B x)),f10.rd.read,by simp,?_⟩
    have hb2:=bel_two (C:=C) (B:=B) x
    refine AppS.own (o29.ext f10.ext) (by simp) ints_one (by omega) fun a' c' h11 o11 u11 hor=>?_
    refine ⟨3*cntF (seen.set x true)+(w0++bel C B x).length,by simp <;> omega,seen.set x true,w0++bel C B x,by simp,(u69.trans f10.ext).newer u11 fun b hb ⟨y,hy,e⟩=>by have:=hne y hy;omega,s.look hb hxi2,rfl,
     (o19.ext f10.ext).upd u11 fun ad e ⟨y,hy,e2⟩=>by cases e;have:=hne y hy;simp only at e2;omega,?_,fun ad e=>?_,by simp <;> omega⟩
    ·rw [List.length_append,nI,ints,List.map_append,List.map_append]
     exact o11
    ·rcases hor with h3 | ⟨ad',h3,h4⟩
     ·exact hne ad (h3▸e)
     ·rw [h3] at e;cases e
      have:=o19.lt
      have:=f10.ext.1
      simp only at *
      omega
  ·have hw:work=[]:=by
    cases work with
    | nil=>rfl
    | cons y l=>simp at hl6
   subst hw
   refine hK _ (by omega) ⟨u6,fun j hj=>?_⟩
   by_cases hji:j=i
   ·subst hji;exact s.done
   ·exact hno j (by omega)
 ·exact ⟨by rw [cycV_none (cyc_none fun j hj=>hno j (by omega))],u2⟩
end
end Go.Proofs.YtdpbdjdgdmheiaaGreat
namespace Go.Proofs.YtdpbdjdgdmheiaaGreat
open Go.Hx
section
variable {h0 h:Heap} {v:CV} {C:Circ}
theorem c186 (r:CIs h v C) (k:Int):CallsH Tryz.prog 186 #[v.v,.int .u8 k] h (Xt (.int .i64 (many C k)) h):=by
 have hl:=r.len
 refine run186 v k _ h ?_
 have hb:=boxC (h:=h) v 29
 have hu:=Ext.box h (.cells (Value.cells v.v) 29)
 unfold VC186
 intro h1
 refine ⟨fun e=>⟨_,_,_,hb.fld 1 rfl,?_,hu⟩,fun e1=>⟨fun e=>⟨_,_,_,hb.fld 2 rfl,?_,hu⟩,fun e2=>⟨fun e=>⟨_,_,_,hb.fld 3 rfl,?_,hu⟩,fun e3=>⟨fun e=>⟨_,_,_,hb.fld 4 rfl,?_,hu⟩,fun e4=>⟨fun e=>⟨_,_,_,hb.fld 5 rfl,?_,hu⟩,fun e5=>⟨fun e=>⟨_,_,_,hb.fld 6 rfl,?_,hu⟩,fun e6=>⟨fun e=>⟨_,_,_,hb.fld 7 rfl,?_,hu⟩,fun e7=>⟨?_,hu⟩⟩⟩⟩⟩⟩⟩⟩
 ·rw [many,if_pos e,hl.i]
 ·rw [many,if_neg e1,if_pos e,hl.l]
 ·rw [many,if_neg e1,if_neg e2,if_pos e,hl.o]
 ·rw [many,if_neg e1,if_neg e2,if_neg e3,if_pos e,hl.b]
 ·rw [many,if_neg e1,if_neg e2,if_neg e3,if_neg e4,if_pos e,hl.c]
 ·rw [many,if_neg e1,if_neg e2,if_neg e3,if_neg e4,if_neg e5,if_pos e,hl.j]
 ·rw [many,if_neg e1,if_neg e2,if_neg e3,if_neg e4,if_neg e5,if_neg e6,if_pos e,hl.f]
 ·rw [many,if_neg e1,if_neg e2,if_neg e3,if_neg e4,if_neg e5,if_neg e6,if_neg e7]
end
theorem c187 {a:Option Addr} {n c:Nat} {l:List UInt8} {h:Heap} (r:Rd h a n (l.map u8v)) (hn:n≤140737488355328) (x:UInt8):CallsH Tryz.prog 187 #[.slice a n c,.int .u8 (x.toNat:Int)] h fun v h'=>h'=h/\∃ z:Int,v=.int .i64 z/\(0≤z↔x∈l):=by
 have hlen:=r.ilen
 refine run187 a n c (x.toNat:Int) _ h (LoopT.to (n:=n) (by omega) (fun i h'=>h'=h/\∀ j (hj:j<l.length),j<i->l[j]≠x) ⟨rfl,fun j _ hj=>by omega⟩ ?_)
 rintro i _ K hi ⟨rfl,hno⟩ hK
 refine ⟨fun hlt=>?_,fun hlt=>?_⟩
 ·refine ⟨by omega,hlt,r.getn (i:=i) (by omega) fun ad hl1 hc=>⟨_,hc,fun he=>⟨rfl,i,rfl,?_⟩,fun he=>hK _ (by omega) ⟨rfl,fun j hj hji=>?_⟩⟩⟩
  ·have:l[i]=x:=by apply UInt8.toNat_inj.1;omega
   exact ⟨fun _=>this▸List.getElem_mem hl1,fun _=>by omega⟩
  ·by_cases hje:j=i
   ·subst hje;intro e;rw [e] at he;exact he rfl
   ·exact hno j hj (by omega)
 ·refine ⟨rfl,-1,rfl,⟨fun hh=>by omega,fun hx=>?_⟩⟩
  obtain ⟨j,hj,e⟩:=List.getElem_of_mem hx
  exact absurd e (hno j hj (by omega))
theorem c175 {a:Option Addr} {n c:Nat} {l:List UInt8} {h:Heap} (r:Rd h a n (l.map u8v)) (hn:n≤140737488355328) (x:UInt8):CallsH Tryz.prog 175 #[.slice a n c,.int .u8 (x.toNat:Int)] h (Ret (.bool (l.contains x)) h):=by
 refine run175 a n c _ _ h ((c187 r hn x).mono ?_)
 rintro _ _ ⟨rfl,z,rfl,hz⟩
 refine ⟨_,rfl,fun hh=>⟨?_,rfl⟩,fun hh=>⟨?_,rfl⟩⟩
 ·rw [List.contains_iff_mem.2 (hz.1 hh)]
 ·have:l.contains x=false:=by
   cases hc:l.contains x with
   | false=>rfl
   | true=>exact absurd (hz.2 (List.contains_iff_mem.1 hc)) hh
  rw [this]
open Classical in
theorem symF_cons {C:Circ} {l:List Sy} {i:Nat} (hi:i<l.length):symF C (l.take i) (l.drop i) i=if SymBad C (l.take i) l[i] then some i else symF C (l.take (i+1)) (l.drop (i+1)) (i+1):=by
 rw [List.drop_eq_getElem_cons hi,symF,List.take_succ_eq_append_getElem hi]
def oI:Option Nat->Int
 | some i=>(i:Nat)
 | none =>-1
abbrev skey (p:Int×Int):Value:=.agg #[.int .u8 p.1,.int .i64 p.2]
def sk (s:Sy):Int×Int:=(s.k,s.i)
theorem box3s {h:Heap} {e:TypeId} {z1 z2 z3:Value} (x:Sy) {K:Heap->Prop} (hK:∀ h',Ext h h'->Rd h' (some ⟨h.size,0,none⟩) 3 x.cs->K h') :
  StoreH (h.push (.cells #[z1,z2,z3] e)) ⟨h.size,0,none⟩ [.int .u8 x.k,.int .i64 x.i,.string x.s] K:=boxN (zs:=[z1,z2,z3]) (ws:=x.cs) rfl (by simp [Value.oneCell']) hK
theorem empty_size {s:ByteArray}:s=ByteArray.mk #[]↔s.size=0:=by
 constructor
 ·rintro rfl;rfl
 ·intro h
  have:B s=[]:=List.eq_nil_of_length_eq_zero h
  rw [<- mk_B s,this]
theorem ext_of_map {h h1 h2:Heap} {b:Nat} (u1:Ext h h1) (hb:h.size≤b) (u2:Upd (fun i=>i=b) h1 h2):Ext h h2:=u1.newer u2 fun i hi e=>by omega
section
variable {h:Heap} {v:CV} {C:Circ}
theorem c174 (r:CIs h v C) (ok:C.Ok):CallsH Tryz.prog 174 #[v.v] h (Xt (.int .i64 (oI (syF C))) h):=by
 have hl:=r.len
 have hls:=hl.s
 have hon:=ok.n
 refine run174 v _ h ?_
 have hb:=boxC (h:=h) v 29
 have hu:=Ext.box h (.cells (Value.cells v.v) 29)
 unfold VC174
 intro h1 h2
 have hs1:h1.size=h.size+1:=by simp [h1]
 have u12:Ext h1 h2:=Ext.push _ _
 have u02:Ext h h2:=hu.trans u12
 have b2:=hb.ext u12
 have kr:=KeyR.two .u8
 have m0:IsM skey (Value.int .i64) h2 h1.size []:=IsM.new h1
 refine ⟨_,_,_,b2.fld 9 rfl,LoopT.to (n:=v.s.n) (by omega) (fun i h'=>∃ l:List ((Int×Int)×Int),Ext h h'/\Rd h' (some ⟨h.size,0,none⟩) 11 v.cs/\IsM skey (Value.int .i64) h' h1.size l/\symF C (C.syms.take i) (C.syms.drop i) i=syF C/\(∀ x,atM l x=if x∈(C.syms.take i).map sk then some 1 else none))
  ⟨[],u02,b2,m0,rfl,fun x=>by simp [atM]⟩ ?_⟩
 rintro i h3 K hi ⟨l,u3,b3,m3,hF,hat⟩ hK
 have hlt3:=m3.lt
 refine ⟨fun hlt=>?_,fun hlt=>?_⟩
 ·refine ⟨by omega,hlt,(r.s.ext u3).elem Sy.csl (by omega) (i:=i) (by omega) fun ad hl1 re=>⟨_,_,_,re.cells,box3s C.syms[i] fun h5 e5 x5=>?_⟩⟩
  rw [symF_cons hl1] at hF
  obtain ⟨s,hs⟩:∃ s,s=C.syms[i]:=⟨_,rfl⟩
  rw [<- hs] at hF x5
  have hsok:=ok.syms _ (List.getElem_mem hl1)
  rw [<- hs] at hsok
  have u5:=u3.trans e5
  have hbl:h3.size<h5.size:=by have:=cellH_lt (x5.fld 0 rfl);rwa [add_block] at this
  have b5:=b3.ext e5
  have m5:IsM skey (Value.int .i64) h5 h1.size l:=m3.upd e5 fun h=>h
  have bad:∀ h',Ext h h'->SymBad C (C.syms.take i) s->Xt (.int .i64 (oI (syF C))) h (.int .i64 (i:Nat)) h':=fun h' u hB=>by
   rw [if_pos hB] at hF
   exact ⟨by rw [<- hF];rfl,u⟩
  have hbk:h.size<h5.size:=by have:=u5.1;omega
  refine ⟨by rw [add_block];exact hbl,_,x5.fld 1 rfl,fun g1=>bad _ u5 (.inl g1),fun g1=>⟨by rw [add_block];exact hbl,_,x5.fld 1 rfl,hbk,?_⟩⟩
  refine ldC b5 ⟨by rw [add_block];exact hbl,_,x5.fld 0 rfl,(c186 (r.ext u5) s.k).mono ?_⟩
  rintro _ h6 ⟨rfl,e6⟩
  have u6:=u5.trans e6
  have x6:=x5.ext e6
  have m6:IsM skey (Value.int .i64) h6 h1.size l:=m5.upd e6 fun h=>h
  refine ⟨_,rfl,fun b hb2=>e6.2 b hb2 fun x=>x,fun g2=>bad _ u6 (.inr (.inl g2)),fun g2=>⟨by rw [add_block];exact hbl,_,x6.fld 2 rfl,fun g3=>bad _ u6 (.inr (.inr (.inl (empty_size.1 g3)))),fun g3=>⟨by rw [add_block];exact hbl,_,x6.fld 2 rfl,fun g4=>bad _ u6 (.inr (.inr (.inr (.inl (by omega))))),fun g4=>⟨by rw [add_block];exact hbl,_,x6.fld 0 rfl,by rw [add_block];exact hbl,_,x6.fld 1 rfl,?_⟩⟩⟩⟩
  have hin:sk s∈(C.syms.take i).map sk->SymBad C (C.syms.take i) s:=fun hh=>by
   obtain ⟨p,hp,e⟩:=List.mem_map.1 hh
   exact .inr (.inr (.inr (.inr (.inl ⟨p,hp,congrArg Prod.fst e,congrArg Prod.snd e⟩))))
  have rest:atM l (sk s)=none->J174_3 (Xt (.int .i64 (oI (syF C))) h) h1 (i:Nat) K h3 h6:=by
   intro hnone
   have hnin:sk s∉(C.syms.take i).map sk:=fun hh=>by
    have:=hat (sk s)
    rw [if_pos hh,hnone] at this
    cases this
   refine ⟨_,x6.fld 2 rfl,LoopT.to (n:=s.s.size) (by omega) (fun t h'=>h'=h6/\∀ j (hj:j<(B s.s).length),j<t->¬ (B s.s)[j].toNat<32) ⟨rfl,fun j _ hj=>by omega⟩ ?_⟩
   rintro t _ K2 ht ⟨rfl,hno⟩ hK2
   rename_i h6
   refine ⟨fun hlt2=>?_,fun hlt2=>?_⟩
   ·have htl:t<(B s.s).length:=by rw [B_len];omega
    have hby:=byteAt_eq s.s (t:Nat) (by omega) (by simpa using htl)
    refine ⟨_,x6.fld 2 rfl,by omega,hlt2,?_⟩
    rw [hby]
    refine ⟨fun g5=>bad _ u6 (.inr (.inr (.inr (.inr (.inr ⟨_,List.getElem_mem htl,by simp only [Int.toNat_natCast] at g5;omega⟩))))),fun g5=>hK2 _ (by omega) ⟨rfl,fun j hj hjt=>?_⟩⟩
    by_cases hje:j=t
    ·subst hje
     simp only [Int.toNat_natCast] at g5
     omega
    ·exact hno j hj (by omega)
   ·have hgood:¬ SymBad C (C.syms.take i) s:=by
     rintro (hh | hh | hh | hh | ⟨p,hp,e1,e2⟩ | ⟨x,hx,hx2⟩)
     ·exact g1 hh
     ·exact g2 hh
     ·exact g3 (empty_size.2 hh)
     ·exact g4 (by omega)
     ·exact hnin (List.mem_map.2 ⟨p,hp,by unfold sk;rw [e1,e2]⟩)
     ·obtain ⟨j,hj,rfl⟩:=List.getElem_of_mem hx
      exact hno j hj (by rw [B_len] at hj;omega) hx2
    rw [if_neg hgood] at hF
    unfold J174_4
    have hm6lt:=m6.lt
    refine ⟨⟨fun a c=>(∀ j,j<h6.size->j≠h1.size->c[j]?=a[j]?)/\∀ u,LookAs (.flat [.int .u8,.int .i64]) (skey (sk s)) (.int .i64 0) a h1.size u↔LookAs (.flat [.int .u8,.int .i64]) (skey (sk s)) (.int .i64 0) c h1.size u,
     fun a=>⟨fun _ _ _=>rfl,fun _=>.rfl⟩,fun hh=>⟨fun j hj hn=>(hh.1 j hj hn).symm,fun u=>(hh.2 u).symm⟩,fun hh kk=>⟨fun j hj hn=>(kk.1 j hj hn).trans (hh.1 j hj hn),fun u=>(hh.2 u).trans (kk.2 u)⟩⟩,?_⟩
    have hx3:h3.size<h6.size:=Nat.lt_of_lt_of_le hbl e6.1
    refine ⟨Zone.has.cell fun h' hh=>hh.1 _ (by rw [add_block];exact hx3) (by rw [add_block];simp only;omega),_,x6.fld 0 rfl,Zone.has.cell fun h' hh=>hh.1 _ (by rw [add_block];exact hx3) (by rw [add_block];simp only;omega),_,x6.fld 1 rfl,?_⟩
    refine ⟨0,fun h' hh=>(hh.2 _).1 ((m6.lookAs kr (sk s) 0 _).2 (by rw [hnone] <;> rfl)),?_⟩
    refine m6.ent kr (sk s) 0 (fun _ st h7 u7 m7 hset=>⟨⟨fun j hj hn=>u7.2 j hj hn,fun u=>?_⟩,?_⟩) (fun u hu=>by rw [hnone] at hu;cases hu)
    ·rw [m6.lookAs kr (sk s) 0 u,m7.lookAs kr (sk s) 0 u,hnone]
     have:atM (l++[(sk s,(0:Int))]) (sk s)=some 0:=by
      unfold atM at hnone ⊢
      rw [List.find?_append]
      rw [Option.map_eq_none_iff] at hnone
      rw [hnone]
      simp
     rw [this];rfl
    ·rw [show IntKind.wrap .i64 (0+1)=1 from rfl]
     refine hset 1 _ fun h8 m8 u8=>?_
     have u68:=u7.trans u8
     have u8':Ext h h8:=ext_of_map u6 (by omega) u68
     refine hK _ (by omega) ⟨_,u8',((b5.ext e6).upd u68 fun ad e=>by cases e;simp only;omega),m8,hF,fun x=>?_⟩
     have hmm:x∈(C.syms.take (i+1)).map sk↔x∈(C.syms.take i).map sk∨x=sk s:=by
      rw [List.take_succ_eq_append_getElem hl1,List.map_append,List.mem_append,<- hs];simp
     rw [atM_putM]
     by_cases hx:x=sk s
     ·rw [if_pos hx,if_pos (hmm.2 (.inr hx))]
     ·rw [if_neg hx,hat x]
      by_cases hx2:x∈(C.syms.take i).map sk
      ·rw [if_pos hx2,if_pos (hmm.2 (.inl hx2))]
      ·rw [if_neg hx2,if_neg fun hh=>(hmm.1 hh).elim hx2 hx]
  refine m6.lookE kr (by have:=m5.lt;omega) (sk s) (fun hnone=>⟨fun hh=>by omega,fun _=>rest hnone⟩) fun z hz=>⟨z,rfl,?_⟩
  have h1z:=hat (sk s)
  rw [hz] at h1z
  split at h1z
  ·rename_i hmem
   obtain rfl:=Option.some.inj h1z
   exact ⟨fun _=>bad _ u6 (hin hmem),fun hh=>absurd (by omega) hh⟩
  ·cases h1z
 ·have:C.syms.length≤i:=by omega
  rw [List.drop_of_length_le this,symF] at hF
  exact ⟨by rw [<- hF];rfl,u3⟩
end
end Go.Proofs.YtdpbdjdgdmheiaaGreat
namespace Go.Proofs.YtdpbdjdgdmheiaaGreat
open Go.Hx
theorem getElem?_set_eq {α:Type} {l:List α} {i j:Nat} {x:α}:(l.set i x)[j]?=if i=j/\i<l.length then some x else l[j]?:=by
 by_cases h:i=j
 ·subst h
  by_cases hl:i<l.length
  ·rw [if_pos ⟨rfl,hl⟩,List.getElem?_set_self hl]
  ·rw [if_neg (fun hh=>hl hh.2),List.set_eq_of_length_le (by omega)]
 ·rw [if_neg (fun hh=>h hh.1),List.getElem?_set_ne h]
theorem defG_inv {α:Type} {mx k:Int} {f g:α->Int} (P:Int->List Mk->Prop) (K:List Mk->DR) (D:DR) (hok:D.2.1=0) :
  ∀ (l:List α) (i:Int) (B:List Mk),defG mx k f g l i B K=D->P i B->(∀ x i B,P i B->mk1 mx B (f x)=0->P (i+1) (put1 B (f x) k i))->∃ B',K B'=D/\P (i+l.length) B'
 | [],i,B,hD,hP,_=>⟨B,hD,by simpa using hP⟩
 | x::r,i,B,hD,hP,hs=>by
  unfold defG at hD
  split at hD
  ·rename_i h1
   split at hD
   ·obtain ⟨B',h2,h3⟩:=defG_inv P K D hok r (i+1) _ hD (hs x i B hP h1) hs
    exact ⟨B',h2,by rw [List.length_cons];rw [show i+((r.length+1:Nat):Int)=i+1+(r.length:Nat) by omega];exact h3⟩
   ·rename_i h2
    subst hD;exact absurd hok h2
  ·rename_i h1
   subst hD;exact absurd hok h1
theorem put1_mem {B:List Mk} {l k i:Int} {p:Mk} (h:p∈put1 B l k i):p∈B∨p=(k,i):=by
 obtain ⟨j,hj,rfl⟩:=List.getElem_of_mem h
 simp only [put1] at hj ⊢
 rw [List.getElem_set]
 split
 ·exact .inr rfl
 ·exact .inl (List.getElem_mem _)
theorem defs_gates {C:Circ} (h:(defs C).2.1=0):(defs C).2.2.length=(C.mx+1).toNat/\∀ p∈(defs C).2.2,p.1=3->0≤p.2/\p.2<C.ands.length:=by
 have hl:∀ (B:List Mk) (l k i:Int),(put1 B l k i).length=B.length:=put1_len
 obtain ⟨B1,h1,p1,q1⟩:=defG_inv (fun _ B=>B.length=(C.mx+1).toNat/\∀ p∈B,p.1≠3) _ _ h C.ins 0 _ rfl ⟨by simp,fun p hp=>by rw [(List.mem_replicate.1 hp).2];simp⟩ fun x i B hB _=>⟨by rw [hl];exact hB.1,fun p hp=>by
  rcases put1_mem hp with hp | rfl
  ·exact hB.2 p hp
  ·simp⟩
 obtain ⟨B2,h2,p2,q2⟩:=defG_inv (fun _ B=>B.length=(C.mx+1).toNat/\∀ p∈B,p.1≠3) _ _ h C.lats 0 _ h1 ⟨p1,q1⟩ fun x i B hB _=>⟨by rw [hl];exact hB.1,fun p hp=>by
  rcases put1_mem hp with hp | rfl
  ·exact hB.2 p hp
  ·simp⟩
 obtain ⟨B3,h3,p3,q3,r3⟩:=defG_inv (fun i B=>0≤i/\B.length=(C.mx+1).toNat/\∀ p∈B,p.1=3->0≤p.2/\p.2<i) _ _ h C.ands 0 _ h2 ⟨Int.le_refl _,p2,fun p hp e=>absurd e (q2 p hp)⟩ fun x i B hB _=>⟨by have:=hB.1;omega,by rw [hl];exact hB.2.1,fun p hp e=>by
  rcases put1_mem hp with hp | rfl
  ·have:=hB.2.2 p hp e;omega
  ·have:=hB.1;simp only;omega⟩
 have e:(defs C).2.2=B3:=by rw [<- h3]
 rw [e]
 refine ⟨q3,fun p hp e=>?_⟩
 have:=r3 p hp e
 omega
theorem firstE_ok {α:Type} {f:α->Int}:∀ {l:List α} {i:Int} {z:Int×Int},(firstE f l i z).2=0->(∀ x∈l,f x=0)/\z.2=0
 | [],_,_,h=>⟨(fun x hx=>by cases hx),h⟩
 | x::r,i,z,h=>by
  unfold firstE at h
  split at h
  ·rename_i h1
   obtain ⟨h2,h3⟩:=firstE_ok h
   exact ⟨fun y hy=>by rcases List.mem_cons.1 hy with rfl | hy;exact h1;exact h2 y hy,h3⟩
  ·rename_i h1
   exact absurd h h1
theorem us1_ok {mx:Int} {B:List Mk} {l:Int} (h:us1 mx B l=0):0≤l/\l≤2*mx+1:=by
 unfold us1 at h
 split at h
 ·omega
 ·omega
theorem uses_gates {C:Circ} {B:List Mk} (h:(uses C B).2=0):∀ x∈C.ands,(0≤x.b/\x.b≤2*C.mx+1)/\0≤x.c/\x.c≤2*C.mx+1:=by
 have h1:=(firstE_ok (firstE_ok (firstE_ok (firstE_ok (firstE_ok (firstE_ok (firstE_ok h).2).2).2).2).2).2).1
 intro x hx
 have:=(firstE_ok (h1 x hx)).1
 exact ⟨us1_ok (this x.b (by simp)),us1_ok (this x.c (by simp))⟩
theorem sizeE_zero {C:Circ} (h:sizeE C=0):(0≤C.mx/\C.mx≤16384)/\¬ Big C:=by
 by_cases h1:C.mx<0∨16384<C.mx
 ·unfold sizeE at h;rw [if_pos h1] at h;omega
 ·by_cases h2:Big C
  ·rw [sizeE_two h1 h2] at h;omega
  ·exact ⟨by omega,h2⟩
theorem gok_of {C:Circ} (h1:sizeE C=0) (h2:(defs C).2.1=0) (h3:(uses C (defs C).2.2).2=0):GOk C (defs C).2.2:=by
 obtain ⟨h4,h5⟩:=sizeE_zero h1
 obtain ⟨h6,h7⟩:=defs_gates h2
 exact ⟨h6,h4.1,h4.2,h7,uses_gates h3,by unfold Big at h5;omega⟩
theorem zeroRow_two:∀ n:Nat,zeroRow #[.int .i64 0,.int .i64 0] (n*2)=(List.replicate n ((0:Int),(0:Int))).flatMap cs2
 | 0=>rfl
 | n+1=>by
  have e:zeroRow #[.int .i64 0,.int .i64 0] ((n+1)*2)=zeroRow #[.int .i64 0,.int .i64 0] (n*2)++[.int .i64 0,.int .i64 0]:=by
   unfold zeroRow
   rw [show (n+1)*2=n*2+1+1 by omega,List.range_succ,List.range_succ,List.map_append,List.map_append,List.append_assoc]
   congr 1
   simp [show (n*2+1) % 2=1 by omega]
  rw [e,zeroRow_two n,List.replicate_succ',List.flatMap_append]
  simp
theorem comF_at {C:Circ} {i:Nat} (hi:i<C.coms.length) (h:(B C.coms[i]).contains 10=true) (hn:∀ j (hj:j<C.coms.length),j<i->(B C.coms[j]).contains 10=false):comF C=some i:=by
 unfold comF
 rw [List.findIdx?_eq_some_iff_getElem]
 exact ⟨hi,h,fun j hj=>by rw [hn j (by omega) hj];simp⟩
theorem comF_none {C:Circ} (hn:∀ j (hj:j<C.coms.length),(B C.coms[j]).contains 10=false):comF C=none:=by
 unfold comF
 rw [List.findIdx?_eq_none_iff]
 intro x hx
 obtain ⟨j,hj,rfl⟩:=List.getElem_of_mem hx
 exact hn j hj
def LPost (C:Circ) (h:Heap) (v:CV) (w:Value) (h':Heap):Prop:=
 Ext h h'/\∃ p:Option Addr,w=.tuple #[.pointer p,.int .i64 (chk C).1,.int .i64 (chk C).2]/\((chk C).2=0->∃ k b,p=some k/\Lk h h' k v b (defs C).2.2/\MxOk v (defs C).2.2/\GOk C (defs C).2.2)
theorem c146 {h:Heap} {v:CV} {C:Circ} (r:CIs h v C) (ok:C.Ok):CallsH Tryz.prog 146 #[v.v] h (LPost C h v):=by
 have hl:=r.len
 have hm:=r.mx
 refine run146 v _ h ?_
 have hb:=boxC (h:=h) v 29
 have hu:=Ext.box h (.cells (Value.cells v.v) 29)
 have none0:∀ (at_ e:Int) (h':Heap),Ext h h'->chk C=(at_,e)->e≠0->LPost C h v (.tuple #[.pointer none,.int .i64 at_,.int .i64 e]) h':=fun at_ e h' u hc he=>
  ⟨u,none,by rw [hc],fun h0=>by rw [hc] at h0;exact absurd h0 he⟩
 unfold VC146
 intro h1
 refine ldC hb ((c170 (r.ext hu) ok).mono ?_)
 rintro _ h2 ⟨rfl,e2⟩
 have u2:=hu.trans e2
 refine ⟨_,rfl,fun hz=>?_,fun hz=>none0 _ _ _ u2 (by unfold chk;rw [if_pos hz]) hz⟩
 obtain ⟨hmx,hnb⟩:=sizeE_zero hz
 have hb2:=hb.ext e2
 have hlt:h.size<h2.size:=by have:=cellH_lt (hb2.fld 0 rfl);rwa [add_block] at this
 have hw:IntKind.wrap .i64 (v.mx+1)=v.mx+1:=w64 (by omega) (by omega)
 unfold J146_0
 refine ⟨hlt,ldC hb2 ⟨by rw [add_block];exact hlt,_,hb2.fld 0 rfl,?_⟩⟩
 rw [hw]
 refine ⟨by omega,by omega,by omega,?_⟩
 intro h3
 have e3:Ext h2 h3:=Ext.push _ _
 refine ⟨fun b hb2=>e3.2 b hb2 fun x=>x,?_⟩
 intro h4
 have e4:Ext h3 h4:=Ext.push _ _
 have hs3:h3.size=h2.size+1:=by simp [h3]
 have f3:Fr h2 2 h3 (some ⟨h2.size,0,none⟩) (v.mx+1).toNat (v.mx+1).toNat ((List.replicate (C.mx+1).toNat ((0:Int),(0:Int))).flatMap cs2):=by
  have:=Fr.push (sz:=2) (.refl h2) (zeroRow #[.int .i64 0,.int .i64 0] ((v.mx+1).toNat*2)) 236 (v.mx+1).toNat (v.mx+1).toNat (Nat.le_refl _) (by simp [zeroRow])
  rw [List.take_of_length_le (by simp [zeroRow]),zeroRow_two,hm] at this
  rw [hm]
  have e:h3=h2.push (.cells ((List.replicate (C.mx+1).toNat ((0:Int),(0:Int))).flatMap cs2).toArray 236):=by
   simp only [h3,hm]
   rw [zeroRow_two]
  rw [e]
  exact this
 have L4:Lk h h4 ⟨h3.size,0,none⟩ v ⟨h2.size,0,none⟩ (List.replicate (C.mx+1).toNat (0,0)):=by
  have hlen:(List.replicate (C.mx+1).toNat ((0:Int),(0:Int))).length=(v.mx+1).toNat:=by rw [List.length_replicate,hm]
  refine ⟨u2.trans (e3.trans e4),by simp only;omega,?_,?_,by simp only;omega⟩
  ·rw [hlen];exact (Fr.lit (.refl h3) (v.cs++[Value.slice (some ⟨h2.size,0,none⟩) (v.mx+1).toNat (v.mx+1).toNat]) 222 12 rfl).rd
  ·rw [hlen];exact (f3.upd e4).base u2
 refine ⟨fun b hb2=>e4.2 b (by omega) fun x=>x,(c171 L4 hmx.1 hmx.2 r ok).mono ?_⟩
 rintro _ h5 ⟨rfl,u5,w5,hok10005⟩
 have hchk:sizeE C=0:=hz
 refine ⟨_,_,rfl,fun hd=>?_,fun hd=>none0 _ _ _ u5 (by unfold chk;rw [if_neg (by rw [hz];simp),if_pos hd]) hd⟩
 obtain ⟨L5,m5⟩:=hok10005 hd
 have hb5:=((hb2.ext e3).ext e4).upd w5 fun ad e=>by cases e;simp only;omega
 refine (c172 L5 m5 r ok).mono ?_
 rintro _ h6 ⟨rfl,e6⟩
 refine ⟨_,_,rfl,fun hus=>?_,fun hus=>none0 _ _ _ (u5.trans e6) (by unfold chk;rw [if_neg (by rw [hz];simp),if_neg (by rw [hd];simp),if_pos hus]) hus⟩
 have g:=gok_of hz hd hus
 have L6:=L5.upd e6
 have hchk:chk C=match cyc C (defs C).2.2 with | some i=>((i:Nat),34) | none=>match syF C with | some i=>((i:Nat),35) | none=>match comF C with | some i=>((i:Nat),36) | none=>(0,0):=by
  unfold chk;rw [if_neg (by rw [hz];simp),if_neg (by rw [hd];simp),if_neg (by rw [hus];simp)]
  rfl
 refine (c173 L6 m5 r g).mono ?_
 rintro _ h7 ⟨rfl,e7⟩
 have u7:=(u5.trans e6).trans e7
 refine ⟨_,rfl,fun hc=>?_,fun hc=>?_⟩
 ·cases hcy:cyc C (defs C).2.2 with
  | some i=>
   rw [cycV_some hcy]
   rw [hcy] at hchk
   exact none0 _ _ _ u7 hchk (by omega)
  | none=>rw [cycV_none hcy] at hc;omega
 have hcy:cyc C (defs C).2.2=none:=by
  cases hcy:cyc C (defs C).2.2 with
  | none=>rfl
  | some i=>rw [cycV_some hcy] at hc;omega
 rw [hcy] at hchk
 simp only at hchk
 have hb7:=(hb5.ext e6).ext e7
 unfold J146_3
 refine ldC hb7 ((c174 (r.ext u7) ok).mono ?_)
 rintro _ h8 ⟨rfl,e8⟩
 have u8:=u7.trans e8
 refine ⟨_,rfl,fun hs=>?_,fun hs=>?_⟩
 ·cases hsy:syF C with
  | some i=>
   rw [hsy] at hchk
   exact none0 _ _ _ u8 hchk (by omega)
  | none=>rw [hsy] at hs;simp [oI] at hs
 have hsy:syF C=none:=by
  cases hsy:syF C with
  | none=>rfl
  | some i=>rw [hsy] at hs;simp [oI] at hs <;> omega
 rw [hsy] at hchk
 simp only at hchk
 have hb8:=hb7.ext e8
 have L8:=(L6.upd e7).upd e8
 have hml:=hl.m
 refine ⟨_,_,_,hb8.fld 10 rfl,LoopT.to (n:=v.m.n) (by have:=ok.n;omega) (fun i h'=>Ext h8 h'/\∀ j (hj:j<C.coms.length),j<i->(B C.coms[j]).contains 10=false) ⟨.refl _,fun j _ hj=>by omega⟩ ?_⟩
 rintro i h9 K hi ⟨e9,hno⟩ hK
 refine ⟨fun hlt2=>?_,fun hlt2=>?_⟩
 ·refine ⟨by omega,hlt2,(r.m.ext (u8.trans e9)).getn (i:=i) (by omega) fun ad hl1 hc=>⟨_,hc,fun cap hcap=>?_⟩⟩
  intro h10
  have hsz:=ok.coms _ (List.getElem_mem hl1)
  have rb:Rd h10 (some ⟨h9.size,0,none⟩) C.coms[i].size ((B C.coms[i]).map u8v):=by
   refine ⟨fun j x hj=>?_,by rw [List.length_map];rfl⟩
   have hjl:=(List.getElem?_eq_some_iff.1 hj).1
   rw [cellH_row (push_at _ _) rfl,List.getElem?_toArray,Nat.zero_add]
   rw [List.getElem?_append_left (by rw [bytesV,List.length_map];simpa using hjl)]
   exact hj
  have e10:Ext h9 h10:=Ext.push _ _
  refine use (c175 rb hsz 10) ⟨_,rfl,?_⟩
  cases hcn:(B C.coms[i]).contains 10 with
  | true=>
   refine BIf.t (none0 _ _ _ ((u8.trans e9).trans e10) ?_ (by omega))
   rw [hchk,comF_at hl1 hcn hno]
  | false=>
   refine BIf.f (hK _ (by omega) ⟨e9.trans e10,fun j hj hji=>?_⟩)
   by_cases hje:j=i
   ·subst hje;exact hcn
   ·exact hno j hj (by omega)
 ·have hcn:=comF_none fun j hj=>hno j hj (by omega)
  rw [hcn] at hchk
  simp only at hchk
  have L9:=L8.upd e9
  exact ⟨u8.trans e9,_,by rw [hchk],fun _=>⟨_,_,rfl,L9,m5,g⟩⟩
theorem c114 {h:Heap} {v:CV} {C:Circ} (r:CIs h v C) (ok:C.Ok):CallsH Tryz.prog 114 #[v.v] h (Xt (.tuple #[.int .i64 (chk C).1,.int .i64 (chk C).2]) h):=by
 refine run114 v _ h ?_
 have hb:=boxC (h:=h) v 29
 have hu:=Ext.box h (.cells (Value.cells v.v) 29)
 unfold VC114
 intro h1
 refine ldC hb ((c146 (r.ext hu) ok).mono ?_)
 rintro _ h2 ⟨u2,p,rfl,_⟩
 exact ⟨_,_,_,rfl,rfl,hu.trans u2⟩
end Go.Proofs.YtdpbdjdgdmheiaaGreat
