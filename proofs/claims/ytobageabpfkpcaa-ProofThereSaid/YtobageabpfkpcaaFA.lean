/- Words and facts that the claim's proof leans on. No condition. -/
import Derived.Test.YtobageabpfkpcaaHxV
import Derived.Test.YtobageabpfkpcaaCAa
set_option linter.unusedVariables false
set_option linter.unusedSimpArgs false
namespace Go.Hx
theorem atM_mem {α β:Type} [DecidableEq α] {l:List (α×β)} {x:α} {v:β} (h:atM l x=some v):(x,v)∈l:=by
 unfold atM at h
 rw [Option.map_eq_some_iff] at h
 obtain ⟨p,hp,rfl⟩:=h
 have h1:=List.mem_of_find?_eq_some hp
 have h2:=List.find?_some hp
 have h3:p.1=x:=by simpa using h2
 subst h3
 exact h1
theorem atM_some {α β:Type} [DecidableEq α] {l:List (α×β)} {x:α} (h:x∈l.map Prod.fst):∃ v,atM l x=some v:=by
 cases ha:atM l x with
 | some v=>exact ⟨v,rfl⟩
 | none=>
  exfalso
  obtain ⟨p,hp,rfl⟩:=List.mem_map.1 h
  unfold atM at ha
  rw [Option.map_eq_none_iff,List.find?_eq_none] at ha
  exact ha p hp (decide_eq_true rfl)
theorem atM_none' {α β:Type} [DecidableEq α] {l:List (α×β)} {x:α} (h:atM l x=none):∀ p∈l,p.1≠x:=by
 intro p hp e
 obtain ⟨v,hv⟩:=atM_some (l:=l) (x:=x) (List.mem_map.2 ⟨p,hp,e⟩)
 rw [h] at hv
 cases hv
end Go.Hx
namespace Go.Hx
theorem KeyR.one (k:IntKind):KeyR (α:=Nat) (.flat [.int k]) (fun n=>.agg #[.int k (n:Int)]):=by
 refine ⟨fun x=>by simp [fitK,fitB],fun x y=>?_,fun x=>by simp [Instr.sameBits]⟩
 simp only [sameK]
 rw [show fitB [.int k] (#[Value.int k (y:Int)]:Array Value).toList=true by simp [fitB]]
 simp only [eqF,Option.some.injEq,Bool.and_true]
 rw [Bool.eq_iff_iff]
 simp
 omega
section
variable {α β:Type} [DecidableEq α] {d:KD} {key:α->Value} {val:β->Value}
structure EntOk (key:α->Value) (val:β->Value) (es:List MapEntry) (clock:Nat) (l:List (α×β)):Prop where
 kv:es.map (fun e=>(e.key,e.val))=l.map fun p=>(key p.1,val p.2)
 inc:es.Pairwise fun a b=>a.born<b.born
 lt:∀ e∈es,e.born<clock
def MapIs (key:α->Value) (val:β->Value) (h:Heap) (b:Nat) (l:List (α×β)):Prop:=∃ es clock,h[b]?=some (.map es clock)/\EntOk key val es.toList clock l
omit [DecidableEq α] in
theorem EntOk.len {es:List MapEntry} {clock:Nat} {l:List (α×β)} (o:EntOk key val es clock l):es.length=l.length:=by
 have:=congrArg List.length o.kv
 simpa using this
omit [DecidableEq α] in
theorem EntOk.at' {es:List MapEntry} {clock:Nat} {l:List (α×β)} (o:EntOk key val es clock l) {i:Nat} (hi:i<es.length) (hl:i<l.length):es[i].key=key l[i].1/\es[i].val=val l[i].2:=by
 have h1:=congrArg (fun z=>z[i]?) o.kv
 simp only [List.getElem?_map,List.getElem?_eq_getElem hi,List.getElem?_eq_getElem hl,Option.map_some,Option.some.injEq,Prod.mk.injEq] at h1
 exact h1
omit [DecidableEq α] in
theorem MapIs.lt {h:Heap} {b:Nat} {l:List (α×β)} (m:MapIs key val h b l):b<h.size:=by
 obtain ⟨es,c,hb,_⟩:=m
 exact (Array.getElem?_eq_some_iff.1 hb).1
omit [DecidableEq α] in
theorem MapIs.upd {S:Nat->Prop} {h h':Heap} {b:Nat} {l:List (α×β)} (m:MapIs key val h b l) (u:Upd S h h') (hs:¬ S b):MapIs key val h' b l:=by
 have hlt:=m.lt
 obtain ⟨es,c,hb,o⟩:=m
 exact ⟨es,c,by rw [u.2 b hlt hs];exact hb,o⟩
omit [DecidableEq α] in
theorem MapIs.ext {h h':Heap} {b:Nat} {l:List (α×β)} (m:MapIs key val h b l) (u:Ext h h'):MapIs key val h' b l:=m.upd u fun h=>h
omit [DecidableEq α] in
theorem MapIs.new (h:Heap):MapIs (α:=α) (β:=β) key val (h.push (.map #[] 0)) h.size []:=⟨#[],0,push_at _ _,rfl,.nil,fun e he=>by simp at he⟩
theorem find_ent (kr:KeyR d key) (x:α):∀ (es:List MapEntry) (l:List (α×β)) (i:Nat),es.map (fun e=>(e.key,e.val))=l.map (fun p=>(key p.1,val p.2)) ->
  (∃ j,∃ hj:j<l.length,findS d (key x) es i=some (some (i+j,val l[j].2))/\l[j].1=x/\∀ k (hk:k<l.length),k<j->l[k].1≠x)∨(findS d (key x) es i=some none/\∀ p∈l,p.1≠x)
 | [],[],i,_=>.inr ⟨rfl,by simp⟩
 | [],_::_,i,h=>by simp at h
 | _::_,[],i,h=>by simp at h
 | e::es,(k,v)::l,i,h=>by
  simp only [List.map_cons,List.cons.injEq,Prod.mk.injEq] at h
  obtain ⟨⟨h1,h2⟩,h3⟩:=h
  rw [findS,h1,kr.same x k]
  by_cases hx:x=k
  ·rw [decide_eq_true hx]
   exact .inl ⟨0,by simp,by simp [h2],hx.symm,fun j _ hj=>by omega⟩
  ·rw [decide_eq_false hx]
   simp only
   rcases find_ent kr x es l (i+1) h3 with ⟨j,hj,h4,h5,h6⟩ | ⟨h4,h5⟩
   ·refine .inl ⟨j+1,by simpa using hj,by rw [h4,show i+1+j=i+(j+1) by omega];simp,by simpa using h5,fun m hm hmj=>?_⟩
    cases m with
    | zero=>simpa using fun e=>hx e.symm
    | succ m=>simpa using h6 m (by simpa using hm) (by omega)
   ·exact .inr ⟨h4,fun p hp=>by rcases List.mem_cons.1 hp with rfl | hp;exact fun e=>hx e.symm;exact h5 p hp⟩
theorem EntOk.find (kr:KeyR d key) {es:Array MapEntry} {clock:Nat} {l:List (α×β)} (o:EntOk key val es.toList clock l) (x:α) :
  (∃ j,∃ hj:j<l.length,findK d (key x) es.toList=some (some (j,val l[j].2))/\l[j].1=x/\∀ k (hk:k<l.length),k<j->l[k].1≠x)∨(findK d (key x) es.toList=some none/\∀ p∈l,p.1≠x):=by
 unfold findK
 rw [kr.fit]
 rcases find_ent kr x es.toList l 0 o.kv with ⟨j,hj,h1,h2⟩ | h
 ·exact .inl ⟨j,hj,by rw [h1,Nat.zero_add],h2⟩
 ·exact .inr h
theorem MapIs.look (kr:KeyR d key) {h:Heap} {b:Nat} {l:List (α×β)} (m:MapIs key val h b l) (x:α) {A:Prop} {C:Value->Prop} (hA:atM l x=none->A) (hC:∀ v,atM l x=some v->C (val v)):MapLook d (key x) h (some b) none A C:=by
 obtain ⟨es,c,hb,o⟩:=m
 refine ⟨_,_,hb,?_⟩
 rcases o.find kr x with ⟨j,hj,h1,h2,h3⟩ | ⟨h1,h2⟩
 ·exact ⟨_,h1,hC _ (atM_at hj h2 h3)⟩
 ·exact ⟨_,h1,hA (atM_none h2)⟩
omit [DecidableEq α] in
theorem EntOk.set {es:Array MapEntry} {clock:Nat} {l:List (α×β)} (o:EntOk key val es.toList clock l) {j:Nat} (hj:j<l.length) (x:α) (v:β) {f:MapEntry->MapEntry} (hf:∀ e,(f e).key=key x/\(f e).val=val v/\(f e).born=e.born) :
  EntOk key val (es.modify j f).toList clock (l.set j (x,v)):=by
 have hl:=o.len
 rw [Array.toList_modify]
 have hb:(es.toList.modify j f).map (·.born)=es.toList.map (·.born):=by
  refine List.ext_getElem? fun i=>?_
  rw [List.getElem?_map,List.getElem?_modify,List.getElem?_map]
  by_cases hij:j=i
  ·subst hij
   cases es.toList[j]? with
   | none=>simp
   | some e=>simp [(hf e).2.2]
  ·cases es.toList[i]? <;> simp [hij]
 refine ⟨?_,?_,fun e he=>?_⟩
 ·refine List.ext_getElem? fun i=>?_
  have h1:=congrArg (fun z=>z[i]?) o.kv
  rw [List.getElem?_map,List.getElem?_map] at h1
  rw [List.getElem?_map,List.getElem?_modify,List.getElem?_map]
  by_cases hij:j=i
  ·subst hij
   rw [List.getElem?_set_self hj,List.getElem?_eq_getElem (by omega)]
   simp only [Option.map_some,if_true,Option.map_eq_map,Option.some.injEq,Prod.mk.injEq]
   exact ⟨(hf _).1,(hf _).2.1⟩
  ·rw [List.getElem?_set_ne hij,<- h1]
   cases es.toList[i]? <;> simp [hij]
 ·have h2:(es.toList.map (·.born)).Pairwise (·<·):=by rw [List.pairwise_map];exact o.inc
  rw [<- hb,List.pairwise_map] at h2
  exact h2
 ·have h3:e.born∈(es.toList.modify j f).map (·.born):=List.mem_map.2 ⟨e,he,rfl⟩
  rw [hb] at h3
  obtain ⟨e',he',h4⟩:=List.mem_map.1 h3
  rw [<- h4]
  exact o.lt e' he'
omit [DecidableEq α] in
theorem EntOk.push {es:Array MapEntry} {clock:Nat} {l:List (α×β)} (o:EntOk key val es.toList clock l) (x:α) (v:β):EntOk key val (es.push { key:=key x,val:=val v,born:=clock }).toList (clock+1) (l++[(x,v)]):=by
 rw [Array.toList_push]
 refine ⟨by rw [List.map_append,List.map_append,o.kv];rfl,?_,fun e he=>?_⟩
 ·rw [List.pairwise_append]
  exact ⟨o.inc,List.pairwise_singleton _ _,fun a ha b hb=>by rw [List.mem_singleton] at hb;subst hb;exact o.lt a ha⟩
 ·rcases List.mem_append.1 he with h | h
  ·have:=o.lt e h;omega
  ·rw [List.mem_singleton] at h;subst h;simp
theorem MapIs.put (kr:KeyR d key) {h:Heap} {b:Nat} {l:List (α×β)} (m:MapIs key val h b l) (x:α) (v:β) {K:Heap->Prop} (hK:∀ h',MapIs key val h' b (putM l x v)->Upd (fun i=>i=b) h h'->K h'):MapPut d (key x) (val v) h (some b) K:=by
 have hlt:=m.lt
 obtain ⟨es,c,hb,o⟩:=m
 refine ⟨_,_,hb,?_⟩
 have hl:=o.len
 rcases o.find kr x with ⟨j,hj,h1,h2,h3⟩ | ⟨h1,h2⟩
 ·refine ⟨_,h1,?_⟩
  have hje:j<es.toList.length:=by omega
  have hat:es[j]?=some es.toList[j]:=by rw [<- Array.getElem?_toList,List.getElem?_eq_getElem hje]
  simp only
  refine ⟨by rw [hat];simp only [Option.map_some,Option.getD_some];rw [(o.at' hje hj).1,h2];exact kr.bits x,hK _ ⟨_,_,set_at hlt _,?_⟩ (set_upd _ _ _)⟩
  rw [putM_at hj h2 h3]
  exact o.set hj x v fun e=>⟨rfl,rfl,rfl⟩
 ·refine ⟨_,h1,hK _ ⟨_,_,set_at hlt _,?_⟩ (set_upd _ _ _)⟩
  rw [putM_none h2]
  exact o.push x v
def delM (l:List (α×β)) (x:α):List (α×β):=l.filter fun p=>decide (p.1≠x)
theorem delM_erase {l:List (α×β)} (nd:(l.map Prod.fst).Nodup) {j:Nat} (hj:j<l.length):l.eraseIdx j=delM l l[j].1:=by
 induction l generalizing j with
 | nil=>simp at hj
 | cons p l ih=>
  rw [List.map_cons,List.nodup_cons] at nd
  cases j with
  | zero=>
   simp only [List.eraseIdx_cons_zero,List.getElem_cons_zero,delM]
   rw [List.filter_cons,if_neg (by simp),List.filter_eq_self.2 fun q hq=>?_]
   simpa using fun e=>nd.1 (List.mem_map.2 ⟨q,hq,e⟩)
  | succ j=>
   have hj':j<l.length:=by simpa using hj
   simp only [List.eraseIdx_cons_succ,List.getElem_cons_succ,delM]
   rw [List.filter_cons,if_pos (by simpa using fun e=>nd.1 (List.mem_map.2 ⟨l[j],List.getElem_mem hj',e.symm⟩)),ih nd.2 hj']
   rfl
theorem delM_none {l:List (α×β)} {x:α} (h:∀ p∈l,p.1≠x):delM l x=l:=by
 unfold delM
 exact List.filter_eq_self.2 fun p hp=>by simpa using h p hp
omit [DecidableEq α] in
theorem EntOk.erase {es:Array MapEntry} {clock:Nat} {l:List (α×β)} (o:EntOk key val es.toList clock l) (j:Nat):EntOk key val (es.eraseIdxIfInBounds j).toList clock (l.eraseIdx j):=by
 rw [Array.toList_eraseIdxIfInBounds]
 refine ⟨?_,o.inc.sublist (List.eraseIdx_sublist _ _),fun e he=>o.lt e ((List.eraseIdx_sublist _ _).subset he)⟩
 rw [List.eraseIdx_eq_take_drop_succ,List.eraseIdx_eq_take_drop_succ,List.map_append,List.map_append,List.map_take,List.map_take,List.map_drop,List.map_drop,o.kv]
theorem MapIs.del (kr:KeyR d key) {h:Heap} {b:Nat} {l:List (α×β)} (m:MapIs key val h b l) (nd:(l.map Prod.fst).Nodup) (x:α) {K:Heap->Prop} (hK:∀ h',MapIs key val h' b (delM l x)->Upd (fun i=>i=b) h h'->K h'):MapDel d (key x) h (some b) K:=by
 have hlt:=m.lt
 obtain ⟨es,c,hb,o⟩:=m
 refine ⟨_,_,hb,?_⟩
 rcases o.find kr x with ⟨j,hj,h1,h2,h3⟩ | ⟨h1,h2⟩
 ·refine ⟨_,h1,hK _ ⟨_,_,set_at hlt _,?_⟩ (set_upd _ _ _)⟩
  rw [<- h2,<- delM_erase nd hj]
  exact o.erase j
 ·refine ⟨_,h1,hK _ ⟨_,_,set_at hlt _,?_⟩ (set_upd _ _ _)⟩
  rw [delM_none h2]
  exact o
omit [DecidableEq α] in
theorem MapIs.len {h:Heap} {b:Nat} {l:List (α×β)} (m:MapIs key val h b l) {K:Int->Prop} (hK:K l.length):MapLen none h (some b) K:=by
 obtain ⟨es,c,hb,o⟩:=m
 refine ⟨_,_,hb,?_⟩
 have:=o.len
 rw [Array.length_toList] at this
 rw [this]
 exact hK
structure MapIt (key:α->Value) (val:β->Value) (h:Heap) (it b:Nat) (l:List (α×β)) (done:List α):Prop where
 ne:it≠b
 nd:(l.map Prod.fst).Nodup
 ex:∃ es clock since seen,h[b]?=some (.map es clock)/\EntOk key val es.toList clock l/\h[it]?=some (.mapIter (some b) since seen clock)/\(∀ e∈es.toList,e.born<since)/\∀ (i:Nat) (e:MapEntry) (p:α×β),es.toList[i]?=some e->l[i]?=some p->(seen.contains e.born=true↔p.1∈done)
omit [DecidableEq α] in
theorem MapIt.map {h:Heap} {it b:Nat} {l:List (α×β)} {done:List α} (m:MapIt key val h it b l done):MapIs key val h b l:=let ⟨es,c,_,_,h1,h2,_⟩:=m.ex;⟨es,c,h1,h2⟩
omit [DecidableEq α] in
theorem MapIt.lt {h:Heap} {it b:Nat} {l:List (α×β)} {done:List α} (m:MapIt key val h it b l done):it<h.size:=by
 obtain ⟨es,c,s,sn,_,_,hi,_⟩:=m.ex
 exact (Array.getElem?_eq_some_iff.1 hi).1
omit [DecidableEq α] in
theorem MapIt.upd {S:Nat->Prop} {h h':Heap} {it b:Nat} {l:List (α×β)} {done:List α} (m:MapIt key val h it b l done) (u:Upd S h h') (hb:¬ S b) (hi:¬ S it):MapIt key val h' it b l done:=by
 have h1:=m.map.lt
 have h2:=m.lt
 obtain ⟨es,c,s,sn,k1,k2,k3,k4⟩:=m.ex
 exact ⟨m.ne,m.nd,es,c,s,sn,by rw [u.2 b h1 hb];exact k1,k2,by rw [u.2 it h2 hi];exact k3,k4⟩
omit [DecidableEq α] in
theorem MapIt.ext {h h':Heap} {it b:Nat} {l:List (α×β)} {done:List α} (m:MapIt key val h it b l done) (u:Ext h h'):MapIt key val h' it b l done:=m.upd u (fun h=>h) fun h=>h
omit [DecidableEq α] in
theorem MapIs.range {h:Heap} {b:Nat} {l:List (α×β)} (m:MapIs key val h b l) (nd:(l.map Prod.fst).Nodup) {K:Heap->Prop} (hK:∀ h',MapIt key val h' h.size b l []->Ext h h'->K h'):MapRange h (some b) K:=by
 have hlt:=m.lt
 obtain ⟨es,c,hb,o⟩:=m
 refine ⟨_,_,hb,hK _ ⟨by omega,nd,es,c,c,#[],by rw [Array.getElem?_push,if_neg (Nat.ne_of_lt hlt)];exact hb,o,push_at _ _,o.lt,fun i e p _ _=>by simp⟩ (Ext.push _ _)⟩
theorem MapIt.next {h:Heap} {it b:Nat} {l:List (α×β)} {done:List α} (m:MapIt key val h it b l done) {over:Prop} {step:MapEntry->Heap->Prop}
  (ho:(∀ p∈l,p.1∈done)->over)
  (hs:∀ p∈l,p.1∉done->∀ h' e,MapIt key val h' it b l (p.1::done)->Upd (fun j=>j=it) h h'->e.key=key p.1->e.val=val p.2->(∀ C:MapEntry->Prop,C e->MEntryS h' it C)->step e h'):MNextS h it over step:=by
 have h2:=m.lt
 obtain ⟨es,c,since,seen,k1,k2,k3,k4,k5⟩:=m.ex
 have hl:=k2.len
 unfold MNextS
 rw [k3]
 refine ⟨_,_,k1,?_,fun hall=>?_,fun e he hsn=>?_⟩
 ·by_cases h0:es.isEmpty=true
  ·simp [h0]
  ·have hne:es.toList≠[]:=by simpa using h0
   have:(es.all fun e=>decide (e.born ≥ c))=false:=by
    obtain ⟨e,r,he⟩:=List.exists_cons_of_ne_nil hne
    cases hq:es.all fun e=>decide (e.born ≥ c) with
    | false=>rfl
    | true=>
     have hm:e∈es:=by rw [<- Array.mem_toList_iff,he];exact List.mem_cons_self ..
     have h3:=Array.all_eq_true_iff_forall_mem.1 hq e hm
     have h4:e.born ≥ c:=of_decide_eq_true h3
     have:=k2.lt e (Array.mem_toList_iff.2 hm)
     omega
   rw [this];simp
 ·refine ho fun p hp=>?_
  obtain ⟨i,hi⟩:=List.mem_iff_getElem?.1 hp
  have hil:=(List.getElem?_eq_some_iff.1 hi).1
  have hie:es.toList[i]?=some es.toList[i]:=List.getElem?_eq_getElem (by omega)
  have hm:=List.mem_of_getElem? hie
  cases hc:seen.contains es.toList[i].born with
  | true=>exact (k5 i _ p hie hi).1 hc
  | false=>
   have h3:=hall _ (Array.mem_toList_iff.1 hm) hc
   have:=k4 _ hm
   omega
 ·have hm:=Array.mem_toList_iff.2 he
  obtain ⟨i,hi⟩:=List.mem_iff_getElem?.1 hm
  have hil:=(List.getElem?_eq_some_iff.1 hi).1
  have hip:l[i]?=some l[i]:=List.getElem?_eq_getElem (by omega)
  have hkv:=k2.at' hil (by omega)
  have hei:es.toList[i]=e:=(List.getElem?_eq_some_iff.1 hi).2
  rw [hei] at hkv
  have hnd:l[i].1∉done:=fun hd=>by
   have:=(k5 i e l[i] hi hip).2 hd
   rw [hsn] at this
   cases this
  have hb':(h.setIfInBounds it (.mapIter (some b) since (seen.push e.born) c))[b]?=some (.map es c):=by
   rw [(set_upd _ _ _).2 b m.map.lt fun e=>m.ne e.symm];exact k1
  refine hs l[i] (List.getElem_mem _) hnd _ e ⟨m.ne,m.nd,es,c,since,seen.push e.born,hb',k2,set_at h2 _,k4,fun i' e' p' hi' hp'=>?_⟩ (set_upd _ _ _) hkv.1 hkv.2 fun C hC=>?_
  ·have hil':=(List.getElem?_eq_some_iff.1 hi').1
   have h5:=k5 i' e' p' hi' hp'
   rw [Array.contains_push,Bool.or_eq_true,h5,List.mem_cons,or_comm]
   refine or_congr_left ?_
   rw [beq_iff_eq]
   constructor
   ·intro hbe
    have:i=i':=by
     rcases Nat.lt_trichotomy i i' with hlt | heq | hlt
     ·have:=(List.pairwise_iff_getElem.1 k2.inc) i i' hil hil' hlt
      rw [hei,(List.getElem?_eq_some_iff.1 hi').2] at this
      omega
     ·exact heq
     ·have:=(List.pairwise_iff_getElem.1 k2.inc) i' i hil' hil hlt
      rw [hei,(List.getElem?_eq_some_iff.1 hi').2] at this
      omega
    subst this
    rw [hip] at hp'
    rw [Option.some.inj hp']
   ·intro hpe
    have:i=i':=by
     have hnd':=m.nd
     rw [List.nodup_iff_pairwise_ne] at hnd'
     have hl':=(List.getElem?_eq_some_iff.1 hp').1
     have hpv:=(List.getElem?_eq_some_iff.1 hp').2
     rcases Nat.lt_trichotomy i i' with hlt | heq | hlt
     ·have:=(List.pairwise_iff_getElem.1 hnd') i i' (by simpa using (show i<l.length by omega)) (by simpa using hl') hlt
      simp only [List.getElem_map] at this
      rw [hpv] at this
      exact absurd hpe.symm this
     ·exact heq
     ·have:=(List.pairwise_iff_getElem.1 hnd') i' i (by simpa using hl') (by simpa using (show i<l.length by omega)) hlt
      simp only [List.getElem_map] at this
      rw [hpv] at this
      exact absurd hpe this
    subst this
    rw [hi] at hi'
    rw [Option.some.inj hi']
  ·unfold MEntryS
   rw [set_at h2]
   refine ⟨es,c,e.born,e,hb',by simp,rfl,?_,hC⟩
   rw [<- Array.find?_toList,List.find?_eq_some_iff_getElem]
   refine ⟨by simp,i,hil,hei,fun j hj=>?_⟩
   have:=(List.pairwise_iff_getElem.1 k2.inc) j i (by omega) hil hj
   rw [hei] at this
   simp only [Array.getElem_toList] at this
   simp
   omega
theorem MapIt.del (kr:KeyR d key) {h:Heap} {it b:Nat} {l:List (α×β)} {done:List α} (m:MapIt key val h it b l done) (x:α) {K:Heap->Prop} (hK:∀ h',MapIt key val h' it b (delM l x) done->Upd (fun i=>i=b) h h'->K h'):MapDel d (key x) h (some b) K:=by
 have hlt:=m.map.lt
 obtain ⟨es,c,since,seen,k1,o,k3,k4,k5⟩:=m.ex
 refine ⟨_,_,k1,?_⟩
 have hi':∀ (es':Array MapEntry),(h.setIfInBounds b (.map es' c))[it]?=some (.mapIter (some b) since seen c):=fun es'=>by
  rw [(set_upd _ _ _).2 it m.lt fun e=>m.ne e];exact k3
 rcases o.find kr x with ⟨j,hj,h1,h2,h3⟩ | ⟨h1,h2⟩
 ·refine ⟨_,h1,hK _ ⟨m.ne,?_,es.eraseIdxIfInBounds j,c,since,seen,set_at hlt _,?_,hi' _,?_,?_⟩ (set_upd _ _ _)⟩
  ·exact m.nd.sublist ((List.filter_sublist).map _)
  ·rw [<- h2,<- delM_erase m.nd hj]
   exact o.erase j
  ·intro e he
   rw [Array.toList_eraseIdxIfInBounds] at he
   exact k4 e ((List.eraseIdx_sublist _ _).subset he)
  ·intro i e p he hp
   rw [<- h2,<- delM_erase m.nd hj,List.getElem?_eraseIdx] at hp
   rw [Array.toList_eraseIdxIfInBounds,List.getElem?_eraseIdx] at he
   split at hp
   ·rename_i hlt'
    rw [if_pos hlt'] at he
    exact k5 i e p he hp
   ·rename_i hlt'
    rw [if_neg hlt'] at he
    exact k5 (i+1) e p he hp
 ·refine ⟨_,h1,hK _ ⟨m.ne,?_,es,c,since,seen,set_at hlt _,?_,hi' _,k4,?_⟩ (set_upd _ _ _)⟩
  ·rw [delM_none h2];exact m.nd
  ·rw [delM_none h2];exact o
  ·rw [delM_none h2];exact k5
end
end Go.Hx
namespace Go.Hx
structure Fm where
 vars:Int
 cls:List (List Int)
structure FV where
 n:Int
 s:Sl
def FV.cs (v:FV):List Value:=[.int .i64 v.n,.slice v.s.a v.s.n v.s.c]
def FV.v (v:FV):Value:=.agg #[.int .i64 v.n,.slice v.s.a v.s.n v.s.c]
structure FIs (h:Heap) (v:FV) (F:Fm):Prop where
 n:v.n=F.vars
 r:RdRs h v.s.a v.s.n F.cls
theorem FIs.ext {h h':Heap} {v:FV} {F:Fm} (f:FIs h v F) (u:Ext h h'):FIs h' v F:=⟨f.n,f.r.ext u⟩
structure Fm.Ok (F:Fm):Prop where
 v0:-9223372036854775808≤F.vars
 v1:F.vars≤9223372036854775807
 n:F.cls.length≤5864062014634
 l:∀ c∈F.cls,c.length≤17592186043904
 x:∀ c∈F.cls,∀ x∈c,-9223372036854775808≤x/\x≤9223372036854775807
theorem boxF {h:Heap} (v:FV) (e:TypeId):Rd (h.push (.cells (Value.cells (.agg #[.int .i64 v.n,.slice v.s.a v.s.n v.s.c])) e)) (some ⟨h.size,0,none⟩) 2 v.cs:=(Fr.lit (.refl h) v.cs e 2 rfl).rd
theorem ldF {h:Heap} {ad:Addr} {v:FV} (r:Rd h (some ad) 2 v.cs) {Q:Int->Option Addr->Nat->Nat->Prop} (hq:Q v.n v.s.a v.s.n v.s.c):∃ (t:Int) (A:Option Addr) (N C:Nat),cellsH h ad 0 [.int .i64 t,.slice A N C]/\Q t A N C:=⟨_,_,_,_,r.cells,hq⟩
def badX (n x:Int):Bool:=decide (x=0∨x < -n∨n<x)
def litE (n:Int) (l:List Int):Int:=if 16384<l.length then 2 else if l.any (badX n) then 141 else 0
def clsE (n:Int):List (List Int)->Int->Int×Int
 | [],_=>(0,0)
 | c::r,i=>if litE n c≠0 then (i,litE n c) else clsE n r (i+1)
def chkF (F:Fm):Int×Int:=if F.vars<0∨262144<F.vars then (0,1) else if 524288<F.cls.length then (0,2) else clsE F.vars F.cls 0
theorem clsE_drop {n:Int} {L:List (List Int)} {i:Nat} (hi:i<L.length):clsE n (L.drop i) i=if litE n L[i]≠0 then ((i:Int),litE n L[i]) else clsE n (L.drop (i+1)) ((i:Int)+1):=by
 rw [List.drop_eq_getElem_cons hi,clsE]
theorem clsE_end {n:Int} {L:List (List Int)} {i:Nat} (hi:L.length≤i):clsE n (L.drop i) i=(0,0):=by
 rw [List.drop_eq_nil_of_le hi];rfl
theorem clsE_ok {n:Int}:∀ {L:List (List Int)} {i:Int},(clsE n L i).2=0->∀ c∈L,litE n c=0
 | [],_,_,c,hc=>by cases hc
 | d::r,i,h,c,hc=>by
  unfold clsE at h
  by_cases hd:litE n d=0
  ·rw [if_neg (by simp [hd])] at h
   rcases List.mem_cons.1 hc with rfl | hc
   ·exact hd
   ·exact clsE_ok h c hc
  ·rw [if_pos hd] at h;exact absurd h hd
theorem litE_0 {n:Int} {l:List Int} (h:litE n l=0):l.length≤16384/\∀ x∈l,x≠0 /\-n≤x/\x≤n:=by
 unfold litE at h
 by_cases h1:16384<l.length
 ·rw [if_pos h1] at h;cases h
 ·rw [if_neg h1] at h
  by_cases h2:l.any (badX n)=true
  ·rw [if_pos h2] at h;cases h
  ·refine ⟨by omega,fun x hx=>?_⟩
   have h3:l.any (badX n)=false:=by simpa using h2
   rw [List.any_eq_false] at h3
   have:=h3 x hx
   simp only [badX,decide_eq_true_eq] at this
   omega
theorem chkF_ok {F:Fm} (h:(chkF F).2=0):0≤F.vars/\F.vars≤262144/\F.cls.length≤524288/\∀ c∈F.cls,c.length≤16384/\∀ x∈c,x≠0 /\-F.vars≤x/\x≤F.vars:=by
 unfold chkF at h
 split at h
 ·cases h
 ·split at h
  ·cases h
  ·rename_i h1 h2
   exact ⟨by omega,by omega,by omega,fun c hc=>litE_0 (clsE_ok h c hc)⟩
end Go.Hx
set_option maxRecDepth 100000
namespace Go.Proofs.Ytobageabpfkpcaa
open Go.Hx
theorem w1 {i n:Nat} (h:n<9223372036854775807) (hi:i≤n):IntKind.wrap .i64 ((i:Int)+1)=((i+1:Nat):Int):=by rw [w64 (by omega) (by omega)];rfl
theorem cutA0 (sz:Nat) (a:Option Addr) (c:Nat):cutA sz a c (Int.toNat 0)=a:=by
 unfold cutA
 split
 ·rfl
 ·cases a with
  | none=>rfl
  | some ad=>simp [addr_add0]
theorem eq_of_at {α:Type} {A B:List α} (hl:A.length=B.length) (h:∀ j,j<A.length->A[j]?=B[j]?):A=B:=by
 apply List.ext_getElem? fun j=>?_
 rcases Nat.lt_or_ge j A.length with hj | hj
 ·exact h j hj
 ·rw [List.getElem?_eq_none hj,List.getElem?_eq_none (by omega)]
theorem CallV.clo {P:Program} {g:FuncId} {v c1:Value} {h:Heap} {K:Value->Heap->Prop} (hg:callOk P g=true) (hc:CallsH P g #[v,c1] h K):CallV P (.func (.func g) #[] #[c1]) [v] h K:=⟨hg,hc⟩
section
variable {h:Heap} {a:Option Addr} {n c:Nat} {l:List Int}
theorem c58 {f:Value} {p:Int->Bool} (r:Rd h a n (ints l)) (hn:n<9223372036854775807) (hf:∀ x∈l,∀ K:Value->Heap->Prop,K (.bool (p x)) h->CallV Try.prog f [.int .i64 x] h K):CallsH Try.prog 58 #[.slice a n c,f] h fun w h'=>h'=h/\∃ z:Int,w=.int .i64 z/\(0≤z↔l.any p=true):=by
 have hl:=r.ilen
 refine run58 a n c f _ h (LoopT.to (n:=n) hn (fun i h'=>h'=h/\(l.take i).any p=false) ⟨rfl,by simp⟩ ?_)
 rintro i _ K hi ⟨rfl,hI⟩ hK
 refine ⟨fun hlt=>⟨by omega,hlt,r.getn (i:=i) (by omega) fun ad hl1 hc=>⟨_,hc,hf _ (List.getElem_mem hl1) _ ⟨_,rfl,?_⟩⟩⟩,fun hlt=>?_⟩
 ·cases hp:p l[i] with
  | true=>exact BIf.t ⟨rfl,_,rfl,fun _=>List.any_eq_true.2 ⟨_,List.getElem_mem hl1,hp⟩,fun _=>by omega⟩
  | false=>
   refine BIf.f (hK _ (by omega) ⟨rfl,?_⟩)
   rw [List.take_succ_eq_append_getElem hl1,List.any_append,hI]
   simp [hp]
 ·rw [List.take_of_length_le (by omega)] at hI
  exact ⟨rfl,_,rfl,fun h=>by omega,fun h=>by rw [hI] at h;cases h⟩
theorem c41 {f:Value} {p:Int->Bool} (r:Rd h a n (ints l)) (hn:n<9223372036854775807) (hf:∀ x∈l,∀ K:Value->Heap->Prop,K (.bool (p x)) h->CallV Try.prog f [.int .i64 x] h K):CallsH Try.prog 41 #[.slice a n c,f] h (Ret (.bool (l.any p)) h):=by
 refine run41 a n c f _ h ((c58 r hn hf).mono ?_)
 rintro _ _ ⟨rfl,z,rfl,hz⟩
 refine ⟨_,rfl,fun h0=>?_,fun h0=>?_⟩
 ·rw [hz.1 h0];exact ⟨rfl,rfl⟩
 ·cases hp:l.any p with
  | true=>exact absurd (hz.2 hp) h0
  | false=>exact ⟨rfl,rfl⟩
theorem ok42:callOk Try.prog 42=true:=by kernel_rfl
theorem c42 {ad:Addr} {v:Int} (hb:cellH h ad=some (.int .i64 v)) (h0:0≤v) (h1:v≤262144) (x:Int):CallsH Try.prog 42 #[.int .i64 x,.pointer (some ad)] h (Ret (.bool (badX v x)) h):=by
 refine run42 x (some ad) _ h ?_
 have w:IntKind.wrap .i64 (0-v) = -v:=by rw [w64 (by omega) (by omega)];omega
 unfold VC42
 refine ⟨fun hx=>⟨by rw [badX,decide_eq_true (.inl hx)],rfl⟩,fun hx=>AtP.mk rfl ⟨_,hb,?_⟩⟩
 rw [w]
 refine ⟨fun h2=>⟨by rw [badX,decide_eq_true (.inr (.inl h2))],rfl⟩,fun h2=>AtP.mk rfl ⟨_,hb,fun h3=>⟨by rw [badX,decide_eq_true (.inr (.inr h3))],rfl⟩,fun h3=>⟨by rw [badX,decide_eq_false (by omega)],rfl⟩⟩⟩
theorem c30 (r:Rd h a n (ints l)) (hn:n<9223372036854775807) {v:Int} (h0:0≤v) (h1:v≤262144):CallsH Try.prog 30 #[.slice a n c,.int .i64 v] h (Xt (.int .i64 (litE v l)) h):=by
 have hl:=r.ilen
 refine run30 a n c v _ h ?_
 unfold VC30
 intro h2
 have f:=Fr.lit (.refl h) [.int .i64 v] 3 1 rfl
 have e2:Ext h h2:=f.ext
 have hb:cellH h2 ⟨h.size,0,none⟩=some (.int .i64 v):=by have:=f.rd.fld 0 rfl;rwa [addr_add0] at this
 refine ⟨fun hlong=>⟨by unfold litE;rw [if_pos (by omega)],e2⟩,fun hsh=>?_⟩
 unfold J30_0
 refine use (c41 (p:=badX v) (r.ext e2) hn fun x hx K hK=>CallV.clo ok42 (use (c42 hb h0 h1 x) hK)) ⟨_,rfl,?_⟩
 cases hp:l.any (badX v) with
 | true=>exact BIf.t ⟨by unfold litE;rw [if_neg (by omega),if_pos hp],e2⟩
 | false=>exact BIf.f ⟨by unfold litE;rw [if_neg (by omega),if_neg (by simp [hp])],e2⟩
end
section
variable {h:Heap} {v:FV} {F:Fm}
theorem c17 (r:FIs h v F) (ok:F.Ok):CallsH Try.prog 17 #[v.v] h (Xt (.tuple #[.int .i64 (chkF F).1,.int .i64 (chkF F).2]) h):=by
 have hlen:=r.r.len
 have hok:=ok.n
 refine run17 v.n v.s.a v.s.n v.s.c _ h ?_
 unfold VC17
 intro h1
 have hb:Rd h1 (some ⟨h.size,0,none⟩) 2 v.cs:=boxF v 24
 have e1:Ext h h1:=Ext.box h _
 have hv:=r.n
 have one:∀ {h'},(F.vars<0∨262144<F.vars)->Ext h h'->Xt (.tuple #[.int .i64 (chkF F).1,.int .i64 (chkF F).2]) h (.tuple #[.int .i64 0,.int .i64 1]) h':=fun hx e=>⟨by unfold chkF;rw [if_pos hx],e⟩
 refine ⟨_,hb.fld 0 rfl,fun h2=>one (.inl (by omega)) e1,fun h2=>⟨_,hb.fld 0 rfl,fun h3=>one (.inr (by omega)) e1,fun h3=>?_⟩⟩
 unfold J17_0
 refine ⟨_,_,_,hb.fld 1 rfl,fun h4=>⟨by unfold chkF;rw [if_neg (by omega),if_pos (by omega)],e1⟩,fun h4=>?_⟩
 have hE:chkF F=clsE F.vars F.cls 0:=by unfold chkF;rw [if_neg (by omega),if_neg (by omega)]
 unfold J17_1
 refine ⟨_,_,_,hb.fld 1 rfl,LoopT.to (n:=v.s.n) (by omega) (fun i h'=>Ext h1 h'/\clsE F.vars F.cls 0=clsE F.vars (F.cls.drop i) i) ⟨.refl _,rfl⟩ ?_⟩
 rintro i h2 K hi ⟨e2,hI⟩ hK
 have e02:=e1.trans e2
 refine ⟨fun hlt=>?_,fun hlt=>?_⟩
 ·have hi2:i<F.cls.length:=by omega
  rw [clsE_drop hi2] at hI
  unfold J17_3
  refine ⟨by omega,hlt,(r.r.ext e02).get (i:=i) (by omega) fun ad hl s hc hs hsc hsl hsn=>⟨_,_,_,hc,_,(hb.ext e2).fld 0 rfl,?_⟩⟩
  have hlen2:=ok.l _ (List.getElem_mem hl)
  refine useX (c30 hs (by omega) (v:=v.n) (by omega) (by omega)) fun h3 e3=>⟨_,rfl,?_⟩
  rw [hsl,hv]
  refine ⟨fun h0=>hK _ (by omega) ⟨e2.trans e3,?_⟩,fun h0=>⟨?_,e02.trans e3⟩⟩
  ·rw [hI,if_neg (by simp [h0])];rfl
  ·rw [hE,hI,if_pos h0]
 ·rw [clsE_end (by omega)] at hI
  exact ⟨by rw [hE,hI],e02⟩
end
end Go.Proofs.Ytobageabpfkpcaa
set_option maxRecDepth 100000
namespace Go.Hx
theorem Rd.one {h:Heap} {a:Option Addr} {n:Nat} {vs:List Value} (r:Rd h a (n*1) vs):Rd h a n vs:=by rwa [Nat.mul_one] at r
def Rw.it (r:Rw):Itm:=⟨1,r.a,r.n,r.c,ints r.l⟩
theorem Rw.one {l:List Rw}:∀ y∈l.map Rw.v,y.oneCell'=true:=by intro y hy;obtain ⟨x,_,rfl⟩:=List.mem_map.1 hy;rfl
structure FNew (h0 h:Heap) (v:FV) (F:Fm):Prop where
 n:v.n=F.vars
 ex:∃ rows:List Rw,rows.map Rw.l=F.cls/\Mem h0 h (⟨1,v.s.a,v.s.n,v.s.c,rows.map Rw.v⟩::rows.map Rw.it)
theorem mem_rows {h0 h:Heap} {a:Option Addr} {n c:Nat} {rows:List Rw} {X:List Itm} (m:Mem h0 h (⟨1,a,n,c,rows.map Rw.v⟩::(rows.map Rw.it++X))):RdRs h a n (rows.map Rw.l):=
 ⟨rows,Rd.one (m.get 0 rfl).own.rd,fun s hs=>by
  have f:=m.fr s.it (by simp;exact .inr (.inl ⟨s,hs,rfl⟩))
  exact ⟨Rd.one f.own.rd,f.own.cap⟩,rfl⟩
theorem FNew.fis {h0 h:Heap} {v:FV} {F:Fm} (f:FNew h0 h v F):FIs h v F:=by
 obtain ⟨rows,h1,m⟩:=f.ex
 refine ⟨f.n,?_⟩
 rw [<- h1]
 exact mem_rows (X:=[]) (by simpa using m)
theorem FNew.ext {h0 h h':Heap} {v:FV} {F:Fm} (f:FNew h0 h v F) (u:Ext h h'):FNew h0 h' v F:=⟨f.n,let ⟨rows,h1,m⟩:=f.ex;⟨rows,h1,m.ext' u⟩⟩
theorem FNew.base {h0 h1 h:Heap} {v:FV} {F:Fm} (f:FNew h1 h v F) (u:Ext h0 h1):FNew h0 h v F:=⟨f.n,let ⟨rows,h2,m⟩:=f.ex;⟨rows,h2,m.base u⟩⟩
theorem FNew.heap {h0 h:Heap} {v:FV} {F:Fm} (f:FNew h0 h v F):Ext h0 h:=let ⟨_,_,m⟩:=f.ex;m.ext
structure LFs (h:Heap) (v:FV) (F:Fm):Prop where
 n:v.n=F.vars
 ex:∃ (rows:List Rw) (x:Sl),x.n=1/\Rd h v.s.a (v.s.n+1) (rows.map Rw.v++[x.v])/\v.s.n+1≤v.s.c/\rows.map Rw.l=F.cls/\∀ s∈rows,Rd h s.a (s.n+1) (ints (s.l++[-77]))/\s.n+1≤s.c
theorem LFs.ext {h h':Heap} {v:FV} {F:Fm} (f:LFs h v F) (u:Ext h h'):LFs h' v F:=⟨f.n,let ⟨rows,x,h1,h2,h3,h4,h5⟩:=f.ex;⟨rows,x,h1,h2.ext u,h3,h4,fun s hs=>⟨(h5 s hs).1.ext u,(h5 s hs).2⟩⟩⟩
theorem rd_front {h:Heap} {a:Option Addr} {n:Nat} {vs:List Value} {x:Value} (r:Rd h a (n+1) (vs++[x])):Rd h a n vs:=by
 have hl:=r.len
 rw [List.length_append] at hl
 have hv:vs.length=n:=by simpa using hl
 have:=r.take n (by omega)
 rwa [<- hv,List.take_left,hv] at this
theorem LFs.len {h:Heap} {v:FV} {F:Fm} (f:LFs h v F):F.cls.length=v.s.n:=by
 obtain ⟨rows,x,h1,h2,h3,h4,h5⟩:=f.ex
 have:=h2.len
 rw [<- h4,List.length_map]
 simpa using this
theorem LFs.fis {h:Heap} {v:FV} {F:Fm} (f:LFs h v F):FIs h v F:=by
 obtain ⟨rows,x,h1,h2,h3,h4,h5⟩:=f.ex
 refine ⟨f.n,rows,rd_front h2,fun s hs=>?_,h4⟩
 obtain ⟨k1,k2⟩:=h5 s hs
 rw [ints,List.map_append] at k1
 exact ⟨rd_front k1,by omega⟩
end Go.Hx
namespace Go.Proofs.Ytobageabpfkpcaa
open Go.Hx
section
variable {h:Heap} {v w:FV} {F G:Fm}
end
end Go.Proofs.Ytobageabpfkpcaa
