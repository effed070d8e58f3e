/- Words and facts that the claim's proof leans on. No condition. -/
import Derived.Test.YtdpbdjdgdmheiaaGreatCS
set_option linter.unusedVariables false
set_option linter.unusedSimpArgs false
namespace Go.Hx
structure Arc where
 row:Nat
 nx:Nat
 vl:List Bool
structure Wd where
 n:Nat
 arcs:Nat->List Arc
 st:List Nat
structure Wd.Ok (W:Wd):Prop where
 nx:∀ s a,a∈W.arcs s->a.nx<W.n
 st:∀ s∈W.st,s<W.n
 nd:W.st.Nodup
inductive Rch (W:Wd):Nat->Nat->Prop
 | zero {s:Nat}:s∈W.st->Rch W 0 s
 | step {d s:Nat} {a:Arc}:Rch W d s->a∈W.arcs s->Rch W (d+1) a.nx
def IsDep (W:Wd) (s d:Nat):Prop:=Rch W d s/\∀ e,Rch W e s->d≤e
theorem Rch.lt {W:Wd} (ok:W.Ok) {d s:Nat} (r:Rch W d s):s<W.n:=by
 cases r with
 | zero h=>exact ok.st _ h
 | step _ h=>exact ok.nx _ _ h
theorem IsDep.uniq {W:Wd} {s d e:Nat} (a:IsDep W s d) (b:IsDep W s e):d=e:=Nat.le_antisymm (a.2 _ b.1) (b.2 _ a.1)
theorem IsDep.of {W:Wd} {s d:Nat} (r:Rch W d s):∃ e,e≤d/\IsDep W s e:=by
 induction d using Nat.strongRecOn with
 | ind d ih=>
  by_cases h:∃ e,e<d/\Rch W e s
  ·obtain ⟨e,he,hr⟩:=h
   obtain ⟨e',h1,h2⟩:=ih e he hr
   exact ⟨e',by omega,h2⟩
  ·exact ⟨d,Nat.le_refl _,r,fun e hr=>Nat.not_lt.1 fun hl=>h ⟨e,hl,hr⟩⟩
theorem IsDep.pred {W:Wd} {s d:Nat} (h:IsDep W s (d+1)):∃ t a,IsDep W t d/\a∈W.arcs t/\a.nx=s:=by
 obtain ⟨h1,h2⟩:=h
 cases h1 with
 | @step _ t a hr ha=>
  refine ⟨t,a,⟨hr,fun e he=>?_⟩,ha,rfl⟩
  have:=h2 (e+1) (.step he ha)
  omega
section
variable {W:Wd} {M:List (Nat×Nat)} {s:Nat} {pend:List Arc} {work:List Nat}
def dM (M:List (Nat×Nat)) (s:Nat):Nat:=(atM M s).getD 0
theorem atM_mem {α β:Type} [DecidableEq α] {l:List (α×β)} {x:α} {v:β} (h:atM l x=some v):(x,v)∈l:=by
 unfold atM at h
 rw [Option.map_eq_some_iff] at h
 obtain ⟨p,hp,rfl⟩:=h
 have h1:=List.mem_of_find?_eq_some hp
 have h2:=List.find?_some hp
 have h3:p.1=x:=by simpa using h2
 subst h3
 exact h1
theorem atM_some {α β:Type} [DecidableEq α] {l:List (α×β)} {x:α} (h:x∈l.map Prod.fst):∃ v,atM l x=some v:=by
 cases ha:atM l x with
 | some v=>exact ⟨v,rfl⟩
 | none=>
  exfalso
  obtain ⟨p,hp,rfl⟩:=List.mem_map.1 h
  unfold atM at ha
  rw [Option.map_eq_none_iff,List.find?_eq_none] at ha
  exact ha p hp (decide_eq_true rfl)
theorem atM_none' {α β:Type} [DecidableEq α] {l:List (α×β)} {x:α} (h:atM l x=none):∀ p∈l,p.1≠x:=by
 intro p hp e
 obtain ⟨v,hv⟩:=atM_some (l:=l) (x:=x) (List.mem_map.2 ⟨p,hp,e⟩)
 rw [h] at hv
 cases hv
theorem atM_nodup {α β:Type} [DecidableEq α] {l:List (α×β)} (nd:(l.map Prod.fst).Nodup) {x:α} {v:β} (h:(x,v)∈l):atM l x=some v:=by
 induction l with
 | nil=>cases h
 | cons p l ih=>
  rw [List.map_cons,List.nodup_cons] at nd
  unfold atM
  rw [List.find?_cons]
  rcases List.mem_cons.1 h with rfl | h
  ·simp
  ·have hne:p.1≠x:=fun e=>nd.1 (List.mem_map.2 ⟨(x,v),h,e.symm⟩)
   rw [show decide (p.1=x)=false from decide_eq_false hne]
   exact ih nd.2 h
theorem atM_snoc {α β:Type} [DecidableEq α] {l:List (α×β)} {x y:α} {v:β} (h:atM l x=none):atM (l++[(x,v)]) y=if y=x then some v else atM l y:=by
 rw [<- putM_none (atM_none' h),atM_putM]
structure Bfs0 (W:Wd) (M:List (Nat×Nat)) (work:List Nat):Prop where
 nd:(M.map Prod.fst).Nodup
 val:∀ p∈M,Rch W p.2 p.1
 st:∀ s∈W.st,atM M s=some 0
 wk:∀ w∈work,∃ d,atM M w=some d
 srt:work.Pairwise fun a b=>dM M a≤dM M b
 top:∀ w∈work,∀ p∈M,p.2≤dM M w+1
 proc:∀ t d,atM M t=some d->t∉work->∀ a∈W.arcs t,∃ e,atM M a.nx=some e/\e≤d+1
structure Bfs1 (W:Wd) (M:List (Nat×Nat)) (s D:Nat) (pend:List Arc) (work:List Nat):Prop where
 nd:(M.map Prod.fst).Nodup
 val:∀ p∈M,Rch W p.2 p.1
 st:∀ s∈W.st,atM M s=some 0
 wk:∀ w∈work,∃ d,atM M w=some d
 srt:work.Pairwise fun a b=>dM M a≤dM M b
 proc:∀ t d,atM M t=some d->t∉work->t≠s->∀ a∈W.arcs t,∃ e,atM M a.nx=some e/\e≤d+1
 at_:atM M s=some D
 lo:∀ w∈work,D≤dM M w
 top:∀ p∈M,p.2≤D+1
 cur:∀ a∈W.arcs s,a∈pend∨∃ e,atM M a.nx=some e/\e≤D+1
 sub:∀ a∈pend,a∈W.arcs s
theorem Bfs0.pop (b:Bfs0 W M (s::work)):∃ D,Bfs1 W M s D (W.arcs s) work:=by
 obtain ⟨D,hD⟩:=b.wk s (List.mem_cons_self ..)
 have hd:dM M s=D:=by unfold dM;rw [hD];rfl
 have hs:=List.pairwise_cons.1 b.srt
 refine ⟨D,b.nd,b.val,b.st,fun w hw=>b.wk w (List.mem_cons_of_mem _ hw),hs.2,fun t d ht hn hne=>b.proc t d ht fun h=>?_,hD,fun w hw=>hd▸hs.1 w hw,fun p hp=>hd▸b.top s (List.mem_cons_self ..) p hp,fun a ha=>.inl ha,fun a ha=>ha⟩
 rcases List.mem_cons.1 h with h | h
 ·exact hne h
 ·exact hn h
theorem Bfs1.done {D:Nat} (b:Bfs1 W M s D [] work):Bfs0 W M work:=by
 refine ⟨b.nd,b.val,b.st,b.wk,b.srt,fun w hw p hp=>?_,fun t d ht hn a ha=>?_⟩
 ·have:=b.top p hp;have:=b.lo w hw;omega
 ·by_cases hts:t=s
  ·subst hts
   rw [b.at_] at ht
   obtain rfl:=Option.some.inj ht
   rcases b.cur a ha with h | h
   ·cases h
   ·exact h
  ·exact b.proc t d ht hn hts a ha
theorem Bfs1.old {D e:Nat} {a:Arc} (b:Bfs1 W M s D (a::pend) work) (he:atM M a.nx=some e):Bfs1 W M s D pend work:=by
 refine ⟨b.nd,b.val,b.st,b.wk,b.srt,b.proc,b.at_,b.lo,b.top,fun x hx=>?_,fun x hx=>b.sub x (List.mem_cons_of_mem _ hx)⟩
 rcases b.cur x hx with h | h
 ·rcases List.mem_cons.1 h with rfl | h
  ·exact .inr ⟨e,he,b.top _ (atM_mem he)⟩
  ·exact .inl h
 ·exact .inr h
theorem Bfs1.new {D:Nat} {a:Arc} (b:Bfs1 W M s D (a::pend) work) (he:atM M a.nx=none):Bfs1 W (M++[(a.nx,D+1)]) s D pend (work++[a.nx]):=by
 have key:∀ y,atM (M++[(a.nx,D+1)]) y=if y=a.nx then some (D+1) else atM M y:=fun y=>atM_snoc he
 have old:∀ {y d},atM M y=some d->atM (M++[(a.nx,D+1)]) y=some d:=fun {y d} hy=>by
  rw [key,if_neg (fun e=>by rw [e,he] at hy;cases hy),hy]
 have dmo:∀ {y},(∃ d,atM M y=some d)->dM (M++[(a.nx,D+1)]) y=dM M y:=fun {y} ⟨d,hy⟩=>by unfold dM;rw [old hy,hy]
 have dmn:dM (M++[(a.nx,D+1)]) a.nx=D+1:=by unfold dM;rw [key,if_pos rfl];rfl
 have haa:=b.sub a (List.mem_cons_self ..)
 refine ⟨?_,fun p hp=>?_,fun t ht=>old (b.st t ht),fun w hw=>?_,?_,fun t d ht hn hne x hx=>?_,old b.at_,fun w hw=>?_,fun p hp=>?_,fun x hx=>?_,fun x hx=>b.sub x (List.mem_cons_of_mem _ hx)⟩
 ·rw [List.map_append,List.nodup_append]
  refine ⟨b.nd,by simp,fun x hx y hy=>?_⟩
  simp only [List.map_cons,List.map_nil,List.mem_singleton] at hy
  subst hy
  obtain ⟨p,hp,rfl⟩:=List.mem_map.1 hx
  exact atM_none' he p hp
 ·rcases List.mem_append.1 hp with h | h
  ·exact b.val p h
  ·rw [List.mem_singleton] at h
   subst h
   exact .step (b.val _ (atM_mem b.at_)) haa
 ·rcases List.mem_append.1 hw with h | h
  ·obtain ⟨d,hd⟩:=b.wk w h
   exact ⟨d,old hd⟩
  ·rw [List.mem_singleton] at h
   subst h
   exact ⟨D+1,by rw [key,if_pos rfl]⟩
 ·rw [List.pairwise_append]
  refine ⟨b.srt.imp_of_mem fun {x y} hx hy h=>by rw [dmo (b.wk x hx),dmo (b.wk y hy)];exact h,List.pairwise_singleton _ _,fun x hx y hy=>?_⟩
  rw [List.mem_singleton] at hy
  subst hy
  rw [dmo (b.wk x hx),dmn]
  obtain ⟨d,hd⟩:=b.wk x hx
  unfold dM;rw [hd]
  exact b.top _ (atM_mem hd)
 ·have hta:t≠a.nx:=fun e=>hn (List.mem_append_right _ (by simp [e]))
  rw [key,if_neg hta] at ht
  obtain ⟨e,h1,h2⟩:=b.proc t d ht (fun h=>hn (List.mem_append_left _ h)) hne x hx
  exact ⟨e,old h1,h2⟩
 ·rcases List.mem_append.1 hw with h | h
  ·rw [dmo (b.wk w h)];exact b.lo w h
  ·rw [List.mem_singleton] at h
   subst h
   rw [dmn];omega
 ·rcases List.mem_append.1 hp with h | h
  ·exact b.top p h
  ·rw [List.mem_singleton] at h
   subst h
   exact Nat.le_refl _
 ·rcases b.cur x hx with h | ⟨e,h1,h2⟩
  ·rcases List.mem_cons.1 h with rfl | h
   ·exact .inr ⟨D+1,by rw [key,if_pos rfl],Nat.le_refl _⟩
   ·exact .inl h
  ·exact .inr ⟨e,old h1,h2⟩
structure DepM (W:Wd) (M:List (Nat×Nat)):Prop where
 nd:(M.map Prod.fst).Nodup
 is:∀ s d,atM M s=some d↔IsDep W s d
theorem Bfs0.done (b:Bfs0 W M []):DepM W M:=by
 have all:∀ {d s},Rch W d s->∃ e,atM M s=some e/\e≤d:=by
  intro d s r
  induction r with
  | zero h=>exact ⟨0,b.st _ h,Nat.le_refl _⟩
  | step r ha ih=>
   obtain ⟨e,h1,h2⟩:=ih
   obtain ⟨f,h3,h4⟩:=b.proc _ _ h1 (by simp) _ ha
   exact ⟨f,h3,by omega⟩
 have one:∀ {s d},atM M s=some d->IsDep W s d:=fun {s d} h=>⟨b.val _ (atM_mem h),fun e he=>by
  obtain ⟨f,h1,h2⟩:=all he
  rw [h] at h1
  obtain rfl:=Option.some.inj h1
  exact h2⟩
 refine ⟨b.nd,fun s d=>⟨one,fun h=>?_⟩⟩
 obtain ⟨f,h1,_⟩:=all h.1
 rw [h1,(one h1).uniq h]
theorem Bfs0.start (ok:W.Ok):Bfs0 W (W.st.map fun s=>(s,0)) W.st:=by
 have hf:(W.st.map fun s=>((s,0):Nat×Nat)).map Prod.fst=W.st:=by rw [List.map_map];exact List.map_id _
 have nd:((W.st.map fun s=>((s,0):Nat×Nat)).map Prod.fst).Nodup:=by rw [hf];exact ok.nd
 have at0:∀ s∈W.st,atM (W.st.map fun s=>((s,0):Nat×Nat)) s=some 0:=fun s hs=>atM_nodup nd (List.mem_map.2 ⟨s,hs,rfl⟩)
 have d0:∀ s,dM (W.st.map fun s=>((s,0):Nat×Nat)) s=0:=fun s=>by
  unfold dM
  cases h:atM (W.st.map fun s=>((s,0):Nat×Nat)) s with
  | none=>rfl
  | some d=>
   obtain ⟨t,_,ht⟩:=List.mem_map.1 (atM_mem h)
   cases ht;rfl
 refine ⟨nd,fun p hp=>?_,at0,fun w hw=>⟨0,at0 w hw⟩,?_,fun w hw p hp=>?_,fun t d ht hn=>?_⟩
 ·obtain ⟨t,ht,rfl⟩:=List.mem_map.1 hp
  exact .zero ht
 ·refine List.Pairwise.imp (R:=fun _ _=>True) (fun {a b} _=>by rw [d0,d0];exact Nat.le_refl _) ?_
  exact List.pairwise_of_forall fun _ _=>trivial
 ·obtain ⟨t,ht,rfl⟩:=List.mem_map.1 hp
  omega
 ·obtain ⟨t',ht',e⟩:=List.mem_map.1 (atM_mem ht)
  cases e
  exact absurd ht' hn
theorem nodup_lt {n:Nat} {l:List Nat} (nd:l.Nodup) (h:∀ x∈l,x<n):l.length≤n:=nodup_len n l nd h
theorem Bfs1.len (ok:W.Ok) {D:Nat} (b:Bfs1 W M s D pend work):M.length≤W.n:=by
 have:=nodup_lt (n:=W.n) b.nd fun x hx=>by
  obtain ⟨p,hp,rfl⟩:=List.mem_map.1 hx
  exact (b.val p hp).lt ok
 simpa using this
theorem Bfs0.len (ok:W.Ok) (b:Bfs0 W M work):M.length≤W.n:=by
 have:=nodup_lt (n:=W.n) b.nd fun x hx=>by
  obtain ⟨p,hp,rfl⟩:=List.mem_map.1 hx
  exact (b.val p hp).lt ok
 simpa using this
theorem IsDep.chain (ok:W.Ok):∀ {d s:Nat},IsDep W s d->∃ l:List Nat,l.length=d+1/\l.Nodup/\(∀ x∈l,x<W.n)/\∀ x∈l,∃ e,e≤d/\IsDep W x e
 | 0,s,h=>⟨[s],rfl,by simp,(by intro x hx;rw [List.mem_singleton] at hx;subst hx;exact h.1.lt ok),by intro x hx;rw [List.mem_singleton] at hx;subst hx;exact ⟨0,Nat.le_refl _,h⟩⟩
 | d+1,s,h=>by
  obtain ⟨t,a,h1,_,_⟩:=h.pred
  obtain ⟨l,l1,l2,l3,l4⟩:=IsDep.chain ok h1
  refine ⟨s::l,by simp [l1],List.nodup_cons.2 ⟨fun hs=>?_,l2⟩,fun x hx=>?_,fun x hx=>?_⟩
  ·obtain ⟨e,he,h2⟩:=l4 s hs
   have:=h.uniq h2
   omega
  ·rcases List.mem_cons.1 hx with rfl | hx
   ·exact h.1.lt ok
   ·exact l3 x hx
  ·rcases List.mem_cons.1 hx with rfl | hx
   ·exact ⟨d+1,Nat.le_refl _,h⟩
   ·obtain ⟨e,he,h2⟩:=l4 x hx
    exact ⟨e,by omega,h2⟩
theorem IsDep.lt (ok:W.Ok) {d s:Nat} (h:IsDep W s d):d<W.n:=by
 obtain ⟨l,l1,l2,l3,_⟩:=h.chain ok
 have:=nodup_lt l2 l3
 omega
end
def BadIs (W:Wd) (P:Arc->Prop) (z:Int):Prop:=
 (z = -1/\∀ s d,IsDep W s d->∀ a∈W.arcs s,¬ P a)∨∃ d:Nat,z=d/\(∃ s a,IsDep W s d/\a∈W.arcs s/\P a)/\∀ s e a,IsDep W s e->a∈W.arcs s->P a->d≤e
theorem BadIs.uniq {W:Wd} {P:Arc->Prop} {y z:Int} (a:BadIs W P y) (b:BadIs W P z):y=z:=by
 rcases a with ⟨rfl,h1⟩ | ⟨d,rfl,⟨s,x,h1,h2,h3⟩,h4⟩ <;> rcases b with ⟨rfl,k1⟩ | ⟨e,rfl,⟨t,y,k1,k2,k3⟩,k4⟩
 ·rfl
 ·exact absurd k3 (h1 t e k1 y k2)
 ·exact absurd h3 (k1 s d h1 x h2)
 ·have:=h4 t e y k1 k2 k3
  have:=k4 s d x h1 h2 h3
  omega
end Go.Hx
namespace Go.Hx
inductive Can (W:Wd) (G:Nat->Prop) (P:Arc->Prop):Nat->Prop
 | now {s:Nat} {a:Arc}:G s->a∈W.arcs s->G a.nx->P a->Can W G P s
 | on {s:Nat} {a:Arc}:G s->a∈W.arcs s->G a.nx->Can W G P a.nx->Can W G P s
theorem Can.in {W:Wd} {G:Nat->Prop} {P:Arc->Prop} {s:Nat} (c:Can W G P s):G s:=by cases c <;> assumption
theorem Can.mono {W:Wd} {G H:Nat->Prop} {P:Arc->Prop} (h:∀ s,G s->H s) {s:Nat} (c:Can W G P s):Can W H P s:=by
 induction c with
 | now h1 h2 h3 h4=>exact .now (h _ h1) h2 (h _ h3) h4
 | on h1 h2 h3 _ ih=>exact .on (h _ h1) h2 (h _ h3) ih
def Lives (W:Wd) (Ps:List (Arc->Prop)) (G:Nat->Prop):Prop:=∀ P∈Ps,∀ s,G s->Can W G P s
def FairG (W:Wd) (Ps:List (Arc->Prop)) (s:Nat):Prop:=∃ G:Nat->Prop,(∀ t,G t->∃ d,Rch W d t)/\Lives W Ps G/\G s
theorem FairG.rch {W:Wd} {Ps:List (Arc->Prop)} {s:Nat} (h:FairG W Ps s):∃ d,Rch W d s:=by
 obtain ⟨G,h1,_,h3⟩:=h
 exact h1 s h3
theorem FairG.lives (W:Wd) (Ps:List (Arc->Prop)):Lives W Ps (FairG W Ps):=by
 rintro P hP s ⟨G,h1,h2,h3⟩
 exact (h2 P hP s h3).mono fun t ht=>⟨G,h1,h2,ht⟩
theorem FairG.keep {W:Wd} {Ps:List (Arc->Prop)} {G:Nat->Prop} (h:∀ s,FairG W Ps s->G s) {P:Arc->Prop} (hP:P∈Ps):∀ s,FairG W Ps s->Can W G P s:=fun s hs=>(FairG.lives W Ps P hP s hs).mono h
theorem FairG.eq {W:Wd} {Ps:List (Arc->Prop)} {G:Nat->Prop} (h0:∀ s,G s->∃ d,Rch W d s) (h1:∀ s,FairG W Ps s->G s) (h2:Lives W Ps G):∀ s,G s↔FairG W Ps s:=fun s=>⟨fun hs=>⟨G,h0,h2,hs⟩,h1 s⟩
inductive Way (W:Wd):Nat->List Arc->Nat->Prop
 | nil {s:Nat}:Way W s [] s
 | cons {s t:Nat} {a:Arc} {p:List Arc}:a∈W.arcs s->Way W a.nx p t->Way W s (a::p) t
theorem Way.app {W:Wd} {s t u:Nat} {p q:List Arc} (h:Way W s p t) (k:Way W t q u):Way W s (p++q) u:=by
 induction h with
 | nil=>exact k
 | cons h1 _ ih=>exact .cons h1 (ih k)
theorem Way.split {W:Wd}:∀ {p q:List Arc} {s u:Nat},Way W s (p++q) u->∃ t,Way W s p t/\Way W t q u
 | [],q,s,u,h=>⟨s,.nil,h⟩
 | a::p,q,s,u,h=>by
  cases h with
  | cons h1 h2=>
   obtain ⟨t,h3,h4⟩:=Way.split h2
   exact ⟨t,.cons h1 h3,h4⟩
theorem Way.fn {W:Wd} {s t u:Nat} {p:List Arc} (h:Way W s p t) (k:Way W s p u):t=u:=by
 induction h with
 | nil=>cases k;rfl
 | cons _ _ ih=>cases k with | cons _ k2=>exact ih k2
theorem Way.rch {W:Wd} {s t d:Nat} {p:List Arc} (h:Way W s p t) (r:Rch W d s):Rch W (d+p.length) t:=by
 induction h generalizing d with
 | nil=>exact r
 | cons h1 _ ih=>
  have:=ih (.step r h1)
  rwa [show d+1+_=d+(_+1) by rw [Nat.add_assoc,Nat.add_comm 1]] at this
theorem Rch.way {W:Wd} {s d:Nat} (r:Rch W d s):∃ t p,t∈W.st/\Way W t p s/\p.length=d:=by
 induction r with
 | zero h=>exact ⟨_,[],h,.nil,rfl⟩
 | step r ha ih=>
  obtain ⟨t,p,h1,h2,h3⟩:=ih
  exact ⟨t,p++[_],h1,h2.app (.cons ha .nil),by simp [h3]⟩
def stL:Nat->List Arc->List Nat
 | _,[]=>[]
 | s,a::p=>s::stL a.nx p
theorem stL_len:∀ {p:List Arc} {s:Nat},(stL s p).length=p.length
 | [],_=>rfl
 | a::p,s=>by rw [stL,List.length_cons,List.length_cons,stL_len]
theorem Way.mem {W:Wd}:∀ {p:List Arc} {s t x:Nat},Way W s p t->(x∈stL s p↔∃ q a r,p=q++a::r/\Way W s q x)
 | [],s,t,x,h=>by
  constructor
  ·intro h;cases h
  ·rintro ⟨q,a,r,e,_⟩
   cases q <;> cases e
 | a::p,s,t,x,h=>by
  cases h with
  | cons h1 h2=>
   rw [stL,List.mem_cons,Way.mem h2]
   constructor
   ·rintro (rfl | ⟨q,b,r,rfl,w⟩)
    ·exact ⟨[],a,p,rfl,.nil⟩
    ·exact ⟨a::q,b,r,rfl,.cons h1 w⟩
   ·rintro ⟨q,b,r,e,w⟩
    cases q with
    | nil=>cases w;exact .inl rfl
    | cons c q=>
     rw [List.cons_append,List.cons.injEq] at e
     obtain ⟨rfl,rfl⟩:=e
     cases w with
     | cons _ w=>exact .inr ⟨q,b,r,rfl,w⟩
theorem stL_app {W:Wd}:∀ {p q:List Arc} {s t:Nat},Way W s p t->stL s (p++q)=stL s p++stL t q
 | [],q,s,t,h=>by cases h;rfl
 | a::p,q,s,t,h=>by
  cases h with
  | cons _ h2=>rw [List.cons_append,stL,stL,stL_app h2];rfl
theorem Way.short {W:Wd}:∀ {p:List Arc} {s t:Nat},Way W s p t->∃ q,Way W s q t/\(stL s q).Nodup/\(∀ x∈stL s q,x∈stL s p)/\q.getLast?=p.getLast?
 | [],s,t,h=>⟨[],h,.nil,fun x hx=>hx,rfl⟩
 | a::p,s,t,h=>by
  cases h with
  | cons h1 h2=>
   obtain ⟨q,w,nd,sub,hl⟩:=Way.short h2
   by_cases hs:s∈stL a.nx q
   ·obtain ⟨u,b,r,e,w1⟩:=(Way.mem w).1 hs
    subst e
    obtain ⟨s',w2,w3⟩:=Way.split w
    obtain rfl:=w1.fn w2
    rw [stL_app w2] at nd sub
    refine ⟨b::r,w3,(List.nodup_append.1 nd).2.1,fun x hx=>List.mem_cons_of_mem _ (sub x (List.mem_append_right _ hx)),?_⟩
    have e1:(u++b::r).getLast?=(b::r).getLast?:=by rw [List.getLast?_append,List.getLast?_cons];rfl
    rw [<- e1,hl]
    cases p with
    | nil=>rw [e1,List.getLast?_cons] at hl;cases hl
    | cons c p=>rfl
   ·refine ⟨a::q,.cons h1 w,List.nodup_cons.2 ⟨hs,nd⟩,fun x hx=>?_,?_⟩
    ·rcases List.mem_cons.1 hx with rfl | hx
     ·exact List.mem_cons_self ..
     ·exact List.mem_cons_of_mem _ (sub x hx)
    ·cases q with
     | nil=>
      cases p with
      | nil=>rfl
      | cons c p=>rw [List.getLast?_cons] at hl;cases hl
     | cons b q=>
      cases p with
      | nil=>simp at hl
      | cons c p=>rw [List.getLast?_cons_cons,List.getLast?_cons_cons];exact hl
theorem Way.lt {W:Wd} (ok:W.Ok):∀ {p:List Arc} {s t:Nat},Way W s p t->s<W.n->∀ x∈stL s p,x<W.n
 | [],s,t,h,hs,x,hx=>by cases hx
 | a::p,s,t,h,hs,x,hx=>by
  cases h with
  | cons h1 h2=>
   rcases List.mem_cons.1 hx with rfl | hx
   ·exact hs
   ·exact h2.lt ok (ok.nx _ _ h1) x hx
theorem Way.can {W:Wd} {G:Nat->Prop} {P:Arc->Prop}:∀ {p:List Arc} {s t:Nat},Way W s p t->(∀ x∈stL s p,G x)->G t->(∃ a∈p,P a)->Can W G P s
 | [],s,t,h,hG,ht,⟨a,ha,_⟩=>by cases ha
 | a::p,s,t,h,hG,ht,hP=>by
  cases h with
  | cons h1 h2=>
   have hs:G s:=hG s (List.mem_cons_self ..)
   have hn:G a.nx:=by
    cases p with
    | nil=>cases h2;exact ht
    | cons b p=>exact hG _ (List.mem_cons_of_mem _ (List.mem_cons_self ..))
   by_cases hPa:P a
   ·exact .now hs h1 hn hPa
   ·refine .on hs h1 hn (Way.can h2 (fun x hx=>hG x (List.mem_cons_of_mem _ hx)) ht ?_)
    obtain ⟨b,hb,hPb⟩:=hP
    rcases List.mem_cons.1 hb with rfl | hb
    ·exact absurd hPb hPa
    ·exact ⟨b,hb,hPb⟩
def Round (W:Wd) (Ps:List (Arc->Prop)) (d s:Nat) (p:List Arc):Prop:=Rch W d s/\p≠[]/\Way W s p s/\∀ P∈Ps,∃ a∈p,P a
theorem Round.fair {W:Wd} {Ps:List (Arc->Prop)} {d s:Nat} {p:List Arc} (h:Round W Ps d s p):FairG W Ps s:=by
 obtain ⟨h1,h2,h3,h4⟩:=h
 have hs:s∈stL s p:=by
  cases p with
  | nil=>exact absurd rfl h2
  | cons a p=>exact List.mem_cons_self ..
 refine ⟨fun x=>x∈stL s p,fun t ht=>?_,fun P hP x hx=>?_,hs⟩
 ·obtain ⟨q,a,r,e,w⟩:=(Way.mem h3).1 ht
  exact ⟨_,w.rch h1⟩
 ·obtain ⟨q,a,r,e,w⟩:=(Way.mem h3).1 hx
  subst e
  obtain ⟨x',w1,w2⟩:=Way.split h3
  obtain rfl:=w.fn w1
  refine (w2.app w).can (fun y hy=>?_) hx ?_
  ·rw [stL_app w2,List.mem_append] at hy
   rw [stL_app w,List.mem_append]
   exact hy.symm
  ·obtain ⟨b,hb,hPb⟩:=h4 P hP
   refine ⟨b,?_,hPb⟩
   rcases List.mem_append.1 hb with h | h
   ·exact List.mem_append_right _ h
   ·exact List.mem_append_left _ h
theorem Can.way {W:Wd} {G:Nat->Prop} {P:Arc->Prop} {s:Nat} (c:Can W G P s):∃ p t a,Way W s p t/\G t/\p.getLast?=some a/\P a/\∀ x∈stL s p,G x:=by
 induction c with
 | @now s a h1 h2 h3 h4=>exact ⟨[a],a.nx,a,.cons h2 .nil,h3,rfl,h4,fun x hx=>by simp [stL] at hx;subst hx;exact h1⟩
 | @on s a h1 h2 h3 _ ih=>
  obtain ⟨p,t,b,w,ht,hl,hP,hG⟩:=ih
  refine ⟨a::p,t,b,.cons h2 w,ht,?_,hP,fun x hx=>?_⟩
  ·cases p with
   | nil=>simp at hl
   | cons c p=>rw [List.getLast?_cons_cons];exact hl
  ·rcases List.mem_cons.1 hx with rfl | hx
   ·exact h1
   ·exact hG x hx
theorem Can.wayS {W:Wd} (ok:W.Ok) {G:Nat->Prop} (hG:∀ x,G x->x<W.n) {P:Arc->Prop} {s:Nat} (c:Can W G P s):∃ p t a,Way W s p t/\G t/\p.getLast?=some a/\P a/\(∀ x∈stL s p,G x)/\(stL s p).Nodup/\p.length≤W.n:=by
 obtain ⟨p,t,a,w,ht,hl,hP,hp⟩:=c.way
 obtain ⟨q,w2,nd,sub,hl2⟩:=w.short
 refine ⟨q,t,a,w2,ht,by rw [hl2,hl],hP,fun x hx=>hp x (sub x hx),nd,?_⟩
 have:=nodup_lt nd fun x hx=>hG x (hp x (sub x hx))
 rwa [stL_len] at this
theorem Lives.all {W:Wd} (ok:W.Ok) {Ps:List (Arc->Prop)} {G:Nat->Prop} (hG:∀ x,G x->x<W.n) (h:Lives W Ps G):∀ {Qs:List (Arc->Prop)},(∀ Q∈Qs,Q∈Ps)->∀ {s:Nat},G s->∃ p t,Way W s p t/\G t/\(∀ Q∈Qs,∃ a∈p,Q a)/\p.length≤Qs.length*W.n
 | [],_,s,hs=>⟨[],s,.nil,hs,(fun Q hQ=>by cases hQ),by simp⟩
 | Q::Qs,hQ,s,hs=>by
  obtain ⟨p,t,a,w,ht,hl,hP,_,_,hn⟩:=(h Q (hQ Q (List.mem_cons_self ..)) s hs).wayS ok hG
  obtain ⟨q,u,w2,hu,hA,hn2⟩:=Lives.all ok hG h (Qs:=Qs) (fun R hR=>hQ R (List.mem_cons_of_mem _ hR)) ht
  refine ⟨p++q,u,w.app w2,hu,fun R hR=>?_,?_⟩
  ·rcases List.mem_cons.1 hR with rfl | hR
   ·exact ⟨a,List.mem_append_left _ (List.mem_of_getLast? hl),hP⟩
   ·obtain ⟨b,hb,hR⟩:=hA R hR
    exact ⟨b,List.mem_append_right _ hb,hR⟩
  ·rw [List.length_append,List.length_cons,Nat.succ_mul];omega
theorem pigeon {n:Nat} (f:Nat->Nat) (h:∀ k,k≤n->f k<n):∃ i j,i<j/\j≤n/\f i=f j:=by
 by_cases nd:((List.range (n+1)).map f).Nodup
 ·have:=nodup_lt (n:=n) nd fun x hx=>by
   obtain ⟨k,hk,rfl⟩:=List.mem_map.1 hx
   exact h k (by have:=List.mem_range.1 hk;omega)
  simp at this
  omega
 ·have:¬ ∀ i j,i<j->j≤n->f i≠f j:=fun hn=>nd (by
   rw [List.nodup_iff_pairwise_ne,List.pairwise_map]
   refine List.Pairwise.imp_of_mem (R:=(·<·)) (fun {a b} ha hb hab=>hn a b hab (by have:=List.mem_range.1 hb;omega)) List.pairwise_lt_range)
  exact Classical.byContradiction fun hc=>this fun i j hij hj e=>hc ⟨i,j,hij,hj,e⟩
def itf (f:Nat->Nat):Nat->Nat->Nat
 | 0,s=>s
 | i+1,s=>f (itf f i s)
theorem itf_in {G:Nat->Prop} {f:Nat->Nat} (hf:∀ x,G x->G (f x)) {s:Nat} (hs:G s):∀ i,G (itf f i s)
 | 0=>hs
 | i+1=>hf _ (itf_in hf hs i)
theorem iter_way {W:Wd} {G:Nat->Prop} {m:Nat} {Qs:List (Arc->Prop)} (f:Nat->Nat) (g:Nat->List Arc) (hf:∀ x,G x->Way W x (g x) (f x)/\G (f x)/\(∀ Q∈Qs,∃ a∈g x,Q a)/\(g x).length≤m) {s:Nat} (hs:G s) (i:Nat) :
  ∀ k,∃ p,Way W (itf f i s) p (itf f (i+k) s)/\p.length≤k*m/\(0<k->∀ Q∈Qs,∃ a∈p,Q a)
 | 0=>⟨[],.nil,by simp,fun h=>absurd h (by omega)⟩
 | k+1=>by
  obtain ⟨p,w,hl,_⟩:=iter_way f g hf hs i k
  have hG:=itf_in (fun x hx=>(hf x hx).2.1) hs (i+k)
  obtain ⟨w2,_,hQ,hl2⟩:=hf _ hG
  refine ⟨p++g (itf f (i+k) s),w.app w2,by rw [List.length_append,Nat.succ_mul];omega,fun _ Q h=>?_⟩
  obtain ⟨a,ha,hP⟩:=hQ Q h
  exact ⟨a,List.mem_append_right _ ha,hP⟩
theorem FairG.round {W:Wd} (ok:W.Ok) {Ps:List (Arc->Prop)} (hPs:Ps≠[]) {s:Nat} (h:FairG W Ps s):∃ d t p,IsDep W t d/\Round W Ps d t p/\p.length≤W.n*(Ps.length*W.n):=by
 have lt:∀ x,FairG W Ps x->x<W.n:=fun x hx=>by obtain ⟨d,hd⟩:=hx.rch;exact hd.lt ok
 have ex:∀ x,∃ p t,FairG W Ps x->Way W x p t/\FairG W Ps t/\(∀ Q∈Ps,∃ a∈p,Q a)/\p.length≤Ps.length*W.n:=fun x=>by
  by_cases hx:FairG W Ps x
  ·obtain ⟨p,t,h⟩:=(FairG.lives W Ps).all ok lt (Qs:=Ps) (fun _ h=>h) hx
   exact ⟨p,t,fun _=>h⟩
  ·exact ⟨[],0,fun h=>absurd h hx⟩
 let g:Nat->List Arc:=fun x=>(ex x).choose
 let f:Nat->Nat:=fun x=>(ex x).choose_spec.choose
 have hf:∀ x,FairG W Ps x->Way W x (g x) (f x)/\FairG W Ps (f x)/\(∀ Q∈Ps,∃ a∈g x,Q a)/\(g x).length≤Ps.length*W.n:=fun x hx=>(ex x).choose_spec.choose_spec hx
 have hin:∀ i,FairG W Ps (itf f i s):=itf_in (fun x hx=>(hf x hx).2.1) h
 obtain ⟨i,j,hij,hj,e⟩:=pigeon (n:=W.n) (fun k=>itf f k s) fun k _=>lt _ (hin k)
 obtain ⟨p,w,hl,hQ⟩:=iter_way f g hf h i (j-i)
 have hQ:=hQ (by omega)
 rw [show i+(j-i)=j by omega] at w
 replace e:itf f i s=itf f j s:=e
 rw [<- e] at w
 obtain ⟨d,hd⟩:=(hin i).rch
 obtain ⟨d',_,hd'⟩:=IsDep.of hd
 refine ⟨d',_,p,hd',⟨hd'.1,?_,w,hQ⟩,Nat.le_trans hl (Nat.mul_le_mul_right _ (by omega))⟩
 rintro rfl
 obtain ⟨Q,Qs,rfl⟩:=List.exists_cons_of_ne_nil hPs
 obtain ⟨a,ha,_⟩:=hQ Q (List.mem_cons_self ..)
 cases ha
theorem Can.eq {W:Wd} {G C:Nat->Prop} {P:Arc->Prop} (h1:∀ s,C s->Can W G P s) (h2:∀ s a,G s->a∈W.arcs s->G a.nx->(P a∨C a.nx)->C s) (s:Nat):C s↔Can W G P s:=
 ⟨h1 s,fun c=>by
  induction c with
  | now k1 k2 k3 k4=>exact h2 _ _ k1 k2 k3 (.inl k4)
  | on k1 k2 k3 _ ih=>exact h2 _ _ k1 k2 k3 (.inr ih)⟩
end Go.Hx
namespace Go.Hx
theorem KeyR.one (k:IntKind):KeyR (α:=Nat) (.flat [.int k]) (fun n=>.agg #[.int k (n:Int)]):=by
 refine ⟨fun x=>by simp [fitK,fitB],fun x y=>?_,fun x=>by simp [Instr.sameBits]⟩
 simp only [sameK]
 rw [show fitB [.int k] (#[Value.int k (y:Int)]:Array Value).toList=true by simp [fitB]]
 simp only [eqF,Option.some.injEq,Bool.and_true]
 rw [Bool.eq_iff_iff]
 simp
 omega
theorem KeyR.pair (k:IntKind):KeyR (α:=Nat×Nat) (.flat [.int k,.int k]) (fun p=>.agg #[.int k (p.1:Int),.int k (p.2:Int)]):=by
 refine ⟨fun x=>by simp [fitK,fitB],fun x y=>?_,fun x=>by simp [Instr.sameBits]⟩
 simp only [sameK]
 rw [show fitB [.int k,.int k] (#[Value.int k (y.1:Int),Value.int k (y.2:Int)]:Array Value).toList=true by simp [fitB]]
 obtain ⟨a,b⟩:=x
 obtain ⟨c,d⟩:=y
 simp only [eqF,Option.some.injEq,Bool.and_true,Prod.mk.injEq]
 rw [Bool.eq_iff_iff]
 simp
 omega
section
variable {α β:Type} [DecidableEq α] {d:KD} {key:α->Value} {val:β->Value}
structure EntOk (key:α->Value) (val:β->Value) (es:List MapEntry) (clock:Nat) (l:List (α×β)):Prop where
 kv:es.map (fun e=>(e.key,e.val))=l.map fun p=>(key p.1,val p.2)
 inc:es.Pairwise fun a b=>a.born<b.born
 lt:∀ e∈es,e.born<clock
def MapIs (key:α->Value) (val:β->Value) (h:Heap) (b:Nat) (l:List (α×β)):Prop:=∃ es clock,h[b]?=some (.map es clock)/\EntOk key val es.toList clock l
omit [DecidableEq α] in
theorem EntOk.len {es:List MapEntry} {clock:Nat} {l:List (α×β)} (o:EntOk key val es clock l):es.length=l.length:=by
 have:=congrArg List.length o.kv
 simpa using this
omit [DecidableEq α] in
theorem EntOk.at' {es:List MapEntry} {clock:Nat} {l:List (α×β)} (o:EntOk key val es clock l) {i:Nat} (hi:i<es.length) (hl:i<l.length):es[i].key=key l[i].1/\es[i].val=val l[i].2:=by
 have h1:=congrArg (fun z=>z[i]?) o.kv
 simp only [List.getElem?_map,List.getElem?_eq_getElem hi,List.getElem?_eq_getElem hl,Option.map_some,Option.some.injEq,Prod.mk.injEq] at h1
 exact h1
omit [DecidableEq α] in
theorem MapIs.lt {h:Heap} {b:Nat} {l:List (α×β)} (m:MapIs key val h b l):b<h.size:=by
 obtain ⟨es,c,hb,_⟩:=m
 exact (Array.getElem?_eq_some_iff.1 hb).1
omit [DecidableEq α] in
theorem MapIs.upd {S:Nat->Prop} {h h':Heap} {b:Nat} {l:List (α×β)} (m:MapIs key val h b l) (u:Upd S h h') (hs:¬ S b):MapIs key val h' b l:=by
 have hlt:=m.lt
 obtain ⟨es,c,hb,o⟩:=m
 exact ⟨es,c,by rw [u.2 b hlt hs];exact hb,o⟩
omit [DecidableEq α] in
theorem MapIs.ext {h h':Heap} {b:Nat} {l:List (α×β)} (m:MapIs key val h b l) (u:Ext h h'):MapIs key val h' b l:=m.upd u fun h=>h
omit [DecidableEq α] in
theorem MapIs.new (h:Heap):MapIs (α:=α) (β:=β) key val (h.push (.map #[] 0)) h.size []:=⟨#[],0,push_at _ _,rfl,.nil,fun e he=>by simp at he⟩
theorem find_ent (kr:KeyR d key) (x:α):∀ (es:List MapEntry) (l:List (α×β)) (i:Nat),es.map (fun e=>(e.key,e.val))=l.map (fun p=>(key p.1,val p.2)) ->
  (∃ j,∃ hj:j<l.length,findS d (key x) es i=some (some (i+j,val l[j].2))/\l[j].1=x/\∀ k (hk:k<l.length),k<j->l[k].1≠x)∨(findS d (key x) es i=some none/\∀ p∈l,p.1≠x)
 | [],[],i,_=>.inr ⟨rfl,by simp⟩
 | [],_::_,i,h=>by simp at h
 | _::_,[],i,h=>by simp at h
 | e::es,(k,v)::l,i,h=>by
  simp only [List.map_cons,List.cons.injEq,Prod.mk.injEq] at h
  obtain ⟨⟨h1,h2⟩,h3⟩:=h
  rw [findS,h1,kr.same x k]
  by_cases hx:x=k
  ·rw [decide_eq_true hx]
   exact .inl ⟨0,by simp,by simp [h2],hx.symm,fun j _ hj=>by omega⟩
  ·rw [decide_eq_false hx]
   simp only
   rcases find_ent kr x es l (i+1) h3 with ⟨j,hj,h4,h5,h6⟩ | ⟨h4,h5⟩
   ·refine .inl ⟨j+1,by simpa using hj,by rw [h4,show i+1+j=i+(j+1) by omega];simp,by simpa using h5,fun m hm hmj=>?_⟩
    cases m with
    | zero=>simpa using fun e=>hx e.symm
    | succ m=>simpa using h6 m (by simpa using hm) (by omega)
   ·exact .inr ⟨h4,fun p hp=>by rcases List.mem_cons.1 hp with rfl | hp;exact fun e=>hx e.symm;exact h5 p hp⟩
theorem EntOk.find (kr:KeyR d key) {es:Array MapEntry} {clock:Nat} {l:List (α×β)} (o:EntOk key val es.toList clock l) (x:α) :
  (∃ j,∃ hj:j<l.length,findK d (key x) es.toList=some (some (j,val l[j].2))/\l[j].1=x/\∀ k (hk:k<l.length),k<j->l[k].1≠x)∨(findK d (key x) es.toList=some none/\∀ p∈l,p.1≠x):=by
 unfold findK
 rw [kr.fit]
 rcases find_ent kr x es.toList l 0 o.kv with ⟨j,hj,h1,h2⟩ | h
 ·exact .inl ⟨j,hj,by rw [h1,Nat.zero_add],h2⟩
 ·exact .inr h
theorem MapIs.look (kr:KeyR d key) {h:Heap} {b:Nat} {l:List (α×β)} (m:MapIs key val h b l) (x:α) {A:Prop} {C:Value->Prop} (hA:atM l x=none->A) (hC:∀ v,atM l x=some v->C (val v)):MapLook d (key x) h (some b) none A C:=by
 obtain ⟨es,c,hb,o⟩:=m
 refine ⟨_,_,hb,?_⟩
 rcases o.find kr x with ⟨j,hj,h1,h2,h3⟩ | ⟨h1,h2⟩
 ·exact ⟨_,h1,hC _ (atM_at hj h2 h3)⟩
 ·exact ⟨_,h1,hA (atM_none h2)⟩
theorem MapIs.lookE (kr:KeyR d key) {h:Heap} {b n0:Nat} {l:List (α×β)} (m:MapIs key val h b l) (hb:b<n0) (x:α) {A:Prop} {C:Value->Prop} (hA:atM l x=none->A) (hC:∀ v,atM l x=some v->C (val v)):MapLook d (key x) h (some b) (some n0) A C:=
 ⟨hb,MapIs.look kr m x hA hC⟩
theorem MapIs.lookAs (kr:KeyR d key) {h:Heap} {b:Nat} {l:List (α×β)} (m:MapIs key val h b l) (x:α) (z u:Value):LookAs d (key x) z h b u↔(match atM l x with | some v=>val v | none=>z)=u:=by
 obtain ⟨es,c,hb,o⟩:=m
 have key':∃ r,findK d (key x) es.toList=some r/\(match r with | none=>z | some (_,v)=>v)=(match atM l x with | some v=>val v | none=>z):=by
  rcases o.find kr x with ⟨j,hj,h1,h2,h3⟩ | ⟨h1,h2⟩
  ·exact ⟨_,h1,by rw [atM_at hj h2 h3]⟩
  ·exact ⟨_,h1,by rw [atM_none h2]⟩
 obtain ⟨r,hr,hv⟩:=key'
 constructor
 ·rintro ⟨es2,clock2,hb2,r2,hr2,rfl⟩
  rw [hb] at hb2
  obtain ⟨rfl,rfl⟩:_/\_:=by simpa using hb2
  rw [hr] at hr2
  obtain rfl:=Option.some.inj hr2
  exact hv.symm
 ·rintro rfl
  exact ⟨_,_,hb,r,hr,hv⟩
omit [DecidableEq α] in
theorem EntOk.set {es:Array MapEntry} {clock:Nat} {l:List (α×β)} (o:EntOk key val es.toList clock l) {j:Nat} (hj:j<l.length) (x:α) (v:β) {f:MapEntry->MapEntry} (hf:∀ e,(f e).key=key x/\(f e).val=val v/\(f e).born=e.born) :
  EntOk key val (es.modify j f).toList clock (l.set j (x,v)):=by
 have hl:=o.len
 rw [Array.toList_modify]
 have hb:(es.toList.modify j f).map (·.born)=es.toList.map (·.born):=by
  refine List.ext_getElem? fun i=>?_
  rw [List.getElem?_map,List.getElem?_modify,List.getElem?_map]
  by_cases hij:j=i
  ·subst hij
   cases es.toList[j]? with
   | none=>simp
   | some e=>simp [(hf e).2.2]
  ·cases es.toList[i]? <;> simp [hij]
 refine ⟨?_,?_,fun e he=>?_⟩
 ·refine List.ext_getElem? fun i=>?_
  have h1:=congrArg (fun z=>z[i]?) o.kv
  rw [List.getElem?_map,List.getElem?_map] at h1
  rw [List.getElem?_map,List.getElem?_modify,List.getElem?_map]
  by_cases hij:j=i
  ·subst hij
   rw [List.getElem?_set_self hj,List.getElem?_eq_getElem (by omega)]
   simp only [Option.map_some,if_true,Option.map_eq_map,Option.some.injEq,Prod.mk.injEq]
   exact ⟨(hf _).1,(hf _).2.1⟩
  ·rw [List.getElem?_set_ne hij,<- h1]
   cases es.toList[i]? <;> simp [hij]
 ·have h2:(es.toList.map (·.born)).Pairwise (·<·):=by rw [List.pairwise_map];exact o.inc
  rw [<- hb,List.pairwise_map] at h2
  exact h2
 ·have h3:e.born∈(es.toList.modify j f).map (·.born):=List.mem_map.2 ⟨e,he,rfl⟩
  rw [hb] at h3
  obtain ⟨e',he',h4⟩:=List.mem_map.1 h3
  rw [<- h4]
  exact o.lt e' he'
omit [DecidableEq α] in
theorem EntOk.push {es:Array MapEntry} {clock:Nat} {l:List (α×β)} (o:EntOk key val es.toList clock l) (x:α) (v:β):EntOk key val (es.push { key:=key x,val:=val v,born:=clock }).toList (clock+1) (l++[(x,v)]):=by
 rw [Array.toList_push]
 refine ⟨by rw [List.map_append,List.map_append,o.kv];rfl,?_,fun e he=>?_⟩
 ·rw [List.pairwise_append]
  exact ⟨o.inc,List.pairwise_singleton _ _,fun a ha b hb=>by rw [List.mem_singleton] at hb;subst hb;exact o.lt a ha⟩
 ·rcases List.mem_append.1 he with h | h
  ·have:=o.lt e h;omega
  ·rw [List.mem_singleton] at h;subst h;simp
theorem MapIs.put (kr:KeyR d key) {h:Heap} {b:Nat} {l:List (α×β)} (m:MapIs key val h b l) (x:α) (v:β) {K:Heap->Prop} (hK:∀ h',MapIs key val h' b (putM l x v)->Upd (fun i=>i=b) h h'->K h'):MapPut d (key x) (val v) h (some b) K:=by
 have hlt:=m.lt
 obtain ⟨es,c,hb,o⟩:=m
 refine ⟨_,_,hb,?_⟩
 have hl:=o.len
 rcases o.find kr x with ⟨j,hj,h1,h2,h3⟩ | ⟨h1,h2⟩
 ·refine ⟨_,h1,?_⟩
  have hje:j<es.toList.length:=by omega
  have hat:es[j]?=some es.toList[j]:=by rw [<- Array.getElem?_toList,List.getElem?_eq_getElem hje]
  simp only
  refine ⟨by rw [hat];simp only [Option.map_some,Option.getD_some];rw [(o.at' hje hj).1,h2];exact kr.bits x,hK _ ⟨_,_,set_at hlt _,?_⟩ (set_upd _ _ _)⟩
  rw [putM_at hj h2 h3]
  exact o.set hj x v fun e=>⟨rfl,rfl,rfl⟩
 ·refine ⟨_,h1,hK _ ⟨_,_,set_at hlt _,?_⟩ (set_upd _ _ _)⟩
  rw [putM_none h2]
  exact o.push x v
def delM (l:List (α×β)) (x:α):List (α×β):=l.filter fun p=>decide (p.1≠x)
theorem delM_erase {l:List (α×β)} (nd:(l.map Prod.fst).Nodup) {j:Nat} (hj:j<l.length):l.eraseIdx j=delM l l[j].1:=by
 induction l generalizing j with
 | nil=>simp at hj
 | cons p l ih=>
  rw [List.map_cons,List.nodup_cons] at nd
  cases j with
  | zero=>
   simp only [List.eraseIdx_cons_zero,List.getElem_cons_zero,delM]
   rw [List.filter_cons,if_neg (by simp),List.filter_eq_self.2 fun q hq=>?_]
   simpa using fun e=>nd.1 (List.mem_map.2 ⟨q,hq,e⟩)
  | succ j=>
   have hj':j<l.length:=by simpa using hj
   simp only [List.eraseIdx_cons_succ,List.getElem_cons_succ,delM]
   rw [List.filter_cons,if_pos (by simpa using fun e=>nd.1 (List.mem_map.2 ⟨l[j],List.getElem_mem hj',e.symm⟩)),ih nd.2 hj']
   rfl
theorem delM_none {l:List (α×β)} {x:α} (h:∀ p∈l,p.1≠x):delM l x=l:=by
 unfold delM
 exact List.filter_eq_self.2 fun p hp=>by simpa using h p hp
omit [DecidableEq α] in
theorem EntOk.erase {es:Array MapEntry} {clock:Nat} {l:List (α×β)} (o:EntOk key val es.toList clock l) (j:Nat):EntOk key val (es.eraseIdxIfInBounds j).toList clock (l.eraseIdx j):=by
 rw [Array.toList_eraseIdxIfInBounds]
 refine ⟨?_,o.inc.sublist (List.eraseIdx_sublist _ _),fun e he=>o.lt e ((List.eraseIdx_sublist _ _).subset he)⟩
 rw [List.eraseIdx_eq_take_drop_succ,List.eraseIdx_eq_take_drop_succ,List.map_append,List.map_append,List.map_take,List.map_take,List.map_drop,List.map_drop,o.kv]
theorem MapIs.del (kr:KeyR d key) {h:Heap} {b:Nat} {l:List (α×β)} (m:MapIs key val h b l) (nd:(l.map Prod.fst).Nodup) (x:α) {K:Heap->Prop} (hK:∀ h',MapIs key val h' b (delM l x)->Upd (fun i=>i=b) h h'->K h'):MapDel d (key x) h (some b) K:=by
 have hlt:=m.lt
 obtain ⟨es,c,hb,o⟩:=m
 refine ⟨_,_,hb,?_⟩
 rcases o.find kr x with ⟨j,hj,h1,h2,h3⟩ | ⟨h1,h2⟩
 ·refine ⟨_,h1,hK _ ⟨_,_,set_at hlt _,?_⟩ (set_upd _ _ _)⟩
  rw [<- h2,<- delM_erase nd hj]
  exact o.erase j
 ·refine ⟨_,h1,hK _ ⟨_,_,set_at hlt _,?_⟩ (set_upd _ _ _)⟩
  rw [delM_none h2]
  exact o
omit [DecidableEq α] in
theorem MapIs.len {h:Heap} {b:Nat} {l:List (α×β)} (m:MapIs key val h b l) {K:Int->Prop} (hK:K l.length):MapLen none h (some b) K:=by
 obtain ⟨es,c,hb,o⟩:=m
 refine ⟨_,_,hb,?_⟩
 have:=o.len
 rw [Array.length_toList] at this
 rw [this]
 exact hK
structure MapIt (key:α->Value) (val:β->Value) (h:Heap) (it b:Nat) (l:List (α×β)) (done:List α):Prop where
 ne:it≠b
 nd:(l.map Prod.fst).Nodup
 ex:∃ es clock since seen,h[b]?=some (.map es clock)/\EntOk key val es.toList clock l/\h[it]?=some (.mapIter (some b) since seen clock)/\(∀ e∈es.toList,e.born<since)/\∀ (i:Nat) (e:MapEntry) (p:α×β),es.toList[i]?=some e->l[i]?=some p->(seen.contains e.born=true↔p.1∈done)
omit [DecidableEq α] in
theorem MapIt.map {h:Heap} {it b:Nat} {l:List (α×β)} {done:List α} (m:MapIt key val h it b l done):MapIs key val h b l:=let ⟨es,c,_,_,h1,h2,_⟩:=m.ex;⟨es,c,h1,h2⟩
omit [DecidableEq α] in
theorem MapIt.lt {h:Heap} {it b:Nat} {l:List (α×β)} {done:List α} (m:MapIt key val h it b l done):it<h.size:=by
 obtain ⟨es,c,s,sn,_,_,hi,_⟩:=m.ex
 exact (Array.getElem?_eq_some_iff.1 hi).1
omit [DecidableEq α] in
theorem MapIt.upd {S:Nat->Prop} {h h':Heap} {it b:Nat} {l:List (α×β)} {done:List α} (m:MapIt key val h it b l done) (u:Upd S h h') (hb:¬ S b) (hi:¬ S it):MapIt key val h' it b l done:=by
 have h1:=m.map.lt
 have h2:=m.lt
 obtain ⟨es,c,s,sn,k1,k2,k3,k4⟩:=m.ex
 exact ⟨m.ne,m.nd,es,c,s,sn,by rw [u.2 b h1 hb];exact k1,k2,by rw [u.2 it h2 hi];exact k3,k4⟩
omit [DecidableEq α] in
theorem MapIt.ext {h h':Heap} {it b:Nat} {l:List (α×β)} {done:List α} (m:MapIt key val h it b l done) (u:Ext h h'):MapIt key val h' it b l done:=m.upd u (fun h=>h) fun h=>h
omit [DecidableEq α] in
theorem MapIs.range {h:Heap} {b:Nat} {l:List (α×β)} (m:MapIs key val h b l) (nd:(l.map Prod.fst).Nodup) {K:Heap->Prop} (hK:∀ h',MapIt key val h' h.size b l []->Ext h h'->K h'):MapRange h (some b) K:=by
 have hlt:=m.lt
 obtain ⟨es,c,hb,o⟩:=m
 refine ⟨_,_,hb,hK _ ⟨by omega,nd,es,c,c,#[],by rw [Array.getElem?_push,if_neg (Nat.ne_of_lt hlt)];exact hb,o,push_at _ _,o.lt,fun i e p _ _=>by simp⟩ (Ext.push _ _)⟩
theorem MapIt.next {h:Heap} {it b:Nat} {l:List (α×β)} {done:List α} (m:MapIt key val h it b l done) {over:Prop} {step:MapEntry->Heap->Prop}
  (ho:(∀ p∈l,p.1∈done)->over)
  (hs:∀ p∈l,p.1∉done->∀ h' e,MapIt key val h' it b l (p.1::done)->Upd (fun j=>j=it) h h'->e.key=key p.1->e.val=val p.2->(∀ C:MapEntry->Prop,C e->MEntryS h' it C)->step e h'):MNextS h it over step:=by
 have h2:=m.lt
 obtain ⟨es,c,since,seen,k1,k2,k3,k4,k5⟩:=m.ex
 have hl:=k2.len
 unfold MNextS
 rw [k3]
 refine ⟨_,_,k1,?_,fun hall=>?_,fun e he hsn=>?_⟩
 ·by_cases h0:es.isEmpty=true
  ·simp [h0]
  ·have hne:es.toList≠[]:=by simpa using h0
   have:(es.all fun e=>decide (e.born ≥ c))=false:=by
    obtain ⟨e,r,he⟩:=List.exists_cons_of_ne_nil hne
    cases hq:es.all fun e=>decide (e.born ≥ c) with
    | false=>rfl
    | true=>
     have hm:e∈es:=by rw [<- Array.mem_toList_iff,he];exact List.mem_cons_self ..
     have h3:=Array.all_eq_true_iff_forall_mem.1 hq e hm
     have h4:e.born ≥ c:=of_decide_eq_true h3
     have:=k2.lt e (Array.mem_toList_iff.2 hm)
     omega
   rw [this];simp
 ·refine ho fun p hp=>?_
  obtain ⟨i,hi⟩:=List.mem_iff_getElem?.1 hp
  have hil:=(List.getElem?_eq_some_iff.1 hi).1
  have hie:es.toList[i]?=some es.toList[i]:=List.getElem?_eq_getElem (by omega)
  have hm:=List.mem_of_getElem? hie
  cases hc:seen.contains es.toList[i].born with
  | true=>exact (k5 i _ p hie hi).1 hc
  | false=>
   have h3:=hall _ (Array.mem_toList_iff.1 hm) hc
   have:=k4 _ hm
   omega
 ·have hm:=Array.mem_toList_iff.2 he
  obtain ⟨i,hi⟩:=List.mem_iff_getElem?.1 hm
  have hil:=(List.getElem?_eq_some_iff.1 hi).1
  have hip:l[i]?=some l[i]:=List.getElem?_eq_getElem (by omega)
  have hkv:=k2.at' hil (by omega)
  have hei:es.toList[i]=e:=(List.getElem?_eq_some_iff.1 hi).2
  rw [hei] at hkv
  have hnd:l[i].1∉done:=fun hd=>by
   have:=(k5 i e l[i] hi hip).2 hd
   rw [hsn] at this
   cases this
  have hb':(h.setIfInBounds it (.mapIter (some b) since (seen.push e.born) c))[b]?=some (.map es c):=by
   rw [(set_upd _ _ _).2 b m.map.lt fun e=>m.ne e.symm];exact k1
  refine hs l[i] (List.getElem_mem _) hnd _ e ⟨m.ne,m.nd,es,c,since,seen.push e.born,hb',k2,set_at h2 _,k4,fun i' e' p' hi' hp'=>?_⟩ (set_upd _ _ _) hkv.1 hkv.2 fun C hC=>?_
  ·have hil':=(List.getElem?_eq_some_iff.1 hi').1
   have h5:=k5 i' e' p' hi' hp'
   rw [Array.contains_push,Bool.or_eq_true,h5,List.mem_cons,or_comm]
   refine or_congr_left ?_
   rw [beq_iff_eq]
   constructor
   ·intro hbe
    have:i=i':=by
     rcases Nat.lt_trichotomy i i' with hlt | heq | hlt
     ·have:=(List.pairwise_iff_getElem.1 k2.inc) i i' hil hil' hlt
      rw [hei,(List.getElem?_eq_some_iff.1 hi').2] at this
      omega
     ·exact heq
     ·have:=(List.pairwise_iff_getElem.1 k2.inc) i' i hil' hil hlt
      rw [hei,(List.getElem?_eq_some_iff.1 hi').2] at this
      omega
    subst this
    rw [hip] at hp'
    rw [Option.some.inj hp']
   ·intro hpe
    have:i=i':=by
     have hnd':=m.nd
     rw [List.nodup_iff_pairwise_ne] at hnd'
     have hl':=(List.getElem?_eq_some_iff.1 hp').1
     have hpv:=(List.getElem?_eq_some_iff.1 hp').2
     rcases Nat.lt_trichotomy i i' with hlt | heq | hlt
     ·have:=(List.pairwise_iff_getElem.1 hnd') i i' (by simpa using (show i<l.length by omega)) (by simpa using hl') hlt
      simp only [List.getElem_map] at this
      rw [hpv] at this
      exact absurd hpe.symm this
     ·exact heq
     ·have:=(List.pairwise_iff_getElem.1 hnd') i' i (by simpa using hl') (by simpa using (show i<l.length by omega)) hlt
      simp only [List.getElem_map] at this
      rw [hpv] at this
      exact absurd hpe this
    subst this
    rw [hi] at hi'
    rw [Option.some.inj hi']
  ·unfold MEntryS
   rw [set_at h2]
   refine ⟨es,c,e.born,e,hb',by simp,rfl,?_,hC⟩
   rw [<- Array.find?_toList,List.find?_eq_some_iff_getElem]
   refine ⟨by simp,i,hil,hei,fun j hj=>?_⟩
   have:=(List.pairwise_iff_getElem.1 k2.inc) j i (by omega) hil hj
   rw [hei] at this
   simp only [Array.getElem_toList] at this
   simp
   omega
theorem MapIt.del (kr:KeyR d key) {h:Heap} {it b:Nat} {l:List (α×β)} {done:List α} (m:MapIt key val h it b l done) (x:α) {K:Heap->Prop} (hK:∀ h',MapIt key val h' it b (delM l x) done->Upd (fun i=>i=b) h h'->K h'):MapDel d (key x) h (some b) K:=by
 have hlt:=m.map.lt
 obtain ⟨es,c,since,seen,k1,o,k3,k4,k5⟩:=m.ex
 refine ⟨_,_,k1,?_⟩
 have hi':∀ (es':Array MapEntry),(h.setIfInBounds b (.map es' c))[it]?=some (.mapIter (some b) since seen c):=fun es'=>by
  rw [(set_upd _ _ _).2 it m.lt fun e=>m.ne e];exact k3
 rcases o.find kr x with ⟨j,hj,h1,h2,h3⟩ | ⟨h1,h2⟩
 ·refine ⟨_,h1,hK _ ⟨m.ne,?_,es.eraseIdxIfInBounds j,c,since,seen,set_at hlt _,?_,hi' _,?_,?_⟩ (set_upd _ _ _)⟩
  ·exact m.nd.sublist ((List.filter_sublist).map _)
  ·rw [<- h2,<- delM_erase m.nd hj]
   exact o.erase j
  ·intro e he
   rw [Array.toList_eraseIdxIfInBounds] at he
   exact k4 e ((List.eraseIdx_sublist _ _).subset he)
  ·intro i e p he hp
   rw [<- h2,<- delM_erase m.nd hj,List.getElem?_eraseIdx] at hp
   rw [Array.toList_eraseIdxIfInBounds,List.getElem?_eraseIdx] at he
   split at hp
   ·rename_i hlt'
    rw [if_pos hlt'] at he
    exact k5 i e p he hp
   ·rename_i hlt'
    rw [if_neg hlt'] at he
    exact k5 (i+1) e p he hp
 ·refine ⟨_,h1,hK _ ⟨m.ne,?_,es,c,since,seen,set_at hlt _,?_,hi' _,k4,?_⟩ (set_upd _ _ _)⟩
  ·rw [delM_none h2];exact m.nd
  ·rw [delM_none h2];exact o
  ·rw [delM_none h2];exact k5
end
end Go.Hx
