/- Words and facts that the claim's proof leans on. No condition. -/
import Derived.Test.YtobageabpfkpcaaFA
import Derived.Test.YtobageabpfkpcaaCAb
set_option linter.unusedVariables false
set_option linter.unusedSimpArgs false
namespace Go.Hx
theorem nodup_lenI:∀ (n:Nat) (l:List Nat),l.Nodup->(∀ x∈l,x<n)->l.length≤n
 | 0,l,_,h=>by
  cases l with
  | nil=>simp
  | cons x l=>exact absurd (h x (List.mem_cons_self ..)) (by omega)
 | n+1,l,nd,h=>by
  have h1:=nodup_lenI n (l.filter fun x=>decide (x≠n)) (nd.filter _) fun x hx=>by
   have:=List.mem_filter.1 hx
   have h2:=h x this.1
   have h3:x≠n:=by simpa using this.2
   omega
  have h2:l.length≤(l.filter fun x=>decide (x≠n)).length+1:=by
   clear h h1
   induction l with
   | nil=>simp
   | cons x l ih=>
    rw [List.nodup_cons] at nd
    rw [List.filter_cons,List.length_cons]
    by_cases hx:x=n
    ·rw [if_neg (by simp [hx])]
     have:l.filter (fun x=>decide (x≠n))=l:=by
      rw [List.filter_eq_self]
      intro y hy
      simp only [decide_eq_true_eq]
      intro e
      exact nd.1 (by rw [hx,<- e];exact hy)
     rw [this];omega
    ·rw [if_pos (by simp [hx]),List.length_cons]
     have:=ih nd.2
     omega
  omega
def unitL (T:List Int):List Int->Int->Int×Bool
 | [],left=>(left,true)
 | x::r,left=>if x∈T then (0,false) else if -x∈T∨x=left then unitL T r left else if left=0 then unitL T r x else (0,false)
def passL:List (List Int)->List Int->Bool->Option (List Int×Bool)
 | [],T,b=>some (T,b)
 | c::r,T,b=>if (unitL T c 0).2=false then passL r T b else if (unitL T c 0).1=0 then none else passL r (T++[(unitL T c 0).1]) true
def seqP (cs:List (List Int)) (T0:List Int):Nat->Option (List Int×Bool)
 | 0=>some (T0,true)
 | k+1=>match seqP cs T0 k with
  | some (T,true)=>passL cs T false
  | r=>r
def litsL:List Int->List Int->Option (List Int)
 | [],T=>some T
 | x::r,T=>if -x∈T then none else litsL r (if x∈T then T else T++[x])
def forceT (F:Fm) (lits:List Int):Option (List Int):=match litsL lits [] with
 | none=>none
 | some T0=>(seqP F.cls T0 (F.vars.toNat+2)).map (·.1)
structure GT (n:Int) (T:List Int):Prop where
 nd:T.Nodup
 ok:∀ x∈T,x≠0 /\-n≤x/\x≤n /\-x∉T
theorem GT.nil {n:Int}:GT n []:=⟨.nil,fun x hx=>by cases hx⟩
theorem GT.add {n x:Int} {T:List Int} (g:GT n T) (h0:x≠0) (h1:-n≤x) (h2:x≤n) (h3:x∉T) (h4:-x∉T):GT n (T++[x]):=by
 refine ⟨List.nodup_append.2 ⟨g.nd,by simp,fun a ha b hb=>?_⟩,fun y hy=>?_⟩
 ·rw [List.mem_singleton] at hb
  subst hb
  intro e;subst e;exact h3 ha
 ·rw [List.mem_append,List.mem_singleton] at hy
  rcases hy with hy | rfl
  ·obtain ⟨a,b,c,d⟩:=g.ok y hy
   refine ⟨a,b,c,fun h=>?_⟩
   rw [List.mem_append,List.mem_singleton] at h
   rcases h with h | h
   ·exact d h
   ·exact h4 (by rw [<- h,Int.neg_neg];exact hy)
  ·refine ⟨h0,h1,h2,fun h=>?_⟩
   rw [List.mem_append,List.mem_singleton] at h
   rcases h with h | h
   ·exact h4 h
   ·omega
theorem GT.len {n:Int} {T:List Int} (g:GT n T) (hn:0≤n):T.length≤n.toNat:=by
 have:=nodup_lenI n.toNat (T.map fun x=>x.natAbs-1) ?_ ?_
 ·simpa using this
 ·refine List.pairwise_map.2 (g.nd.imp_of_mem fun {a b} ha hb hab e=>?_)
  obtain ⟨a1,a2,a3,a4⟩:=g.ok a ha
  obtain ⟨b1,b2,b3,b4⟩:=g.ok b hb
  have:a=b∨a = -b:=by omega
  rcases this with h | h
  ·exact hab h
  ·rw [h] at ha;exact b4 ha
 ·intro x hx
  obtain ⟨y,hy,rfl⟩:=List.mem_map.1 hx
  obtain ⟨b1,b2,b3,b4⟩:=g.ok y hy
  omega
theorem unitL_mem {T:List Int}:∀ {c:List Int} {l x:Int},unitL T c l=(x,true)->x=l∨(x∈c/\x∉T /\-x∉T)
 | [],l,x,h=>by cases h;exact .inl rfl
 | y::r,l,x,h=>by
  unfold unitL at h
  by_cases h1:y∈T
  ·rw [if_pos h1] at h;cases h
  ·rw [if_neg h1] at h
   by_cases h2:-y∈T∨y=l
   ·rw [if_pos h2] at h
    rcases unitL_mem h with h | ⟨h,h3⟩
    ·exact .inl h
    ·exact .inr ⟨List.mem_cons_of_mem _ h,h3⟩
   ·rw [if_neg h2] at h
    by_cases h3:l=0
    ·rw [if_pos h3] at h
     rcases unitL_mem h with rfl | ⟨h,h4⟩
     ·exact .inr ⟨List.mem_cons_self ..,h1,fun h=>h2 (.inl h)⟩
     ·exact .inr ⟨List.mem_cons_of_mem _ h,h4⟩
    ·rw [if_neg h3] at h;cases h
theorem passL_good {n:Int}:∀ {cs:List (List Int)} {T:List Int} {b:Bool} {T':List Int} {b':Bool},(∀ c∈cs,∀ x∈c,x≠0 /\-n≤x/\x≤n)->GT n T->passL cs T b=some (T',b')->GT n T'/\T.length≤T'.length/\(b'=true->b=true∨T.length<T'.length)/\(b=true->b'=true)
 | [],T,b,T',b',_,g,h=>by
  cases h
  exact ⟨g,Nat.le_refl _,fun h=>.inl h,fun h=>h⟩
 | c::r,T,b,T',b',hc,g,h=>by
  unfold passL at h
  by_cases h1:(unitL T c 0).2=false
  ·rw [if_pos h1] at h
   exact passL_good (fun c hc'=>hc c (List.mem_cons_of_mem _ hc')) g h
  ·rw [if_neg h1] at h
   by_cases h2:(unitL T c 0).1=0
   ·rw [if_pos h2] at h;cases h
   ·rw [if_neg h2] at h
    have hu:unitL T c 0=((unitL T c 0).1,true):=by rw [<- show (unitL T c 0).2=true by simpa using h1]
    rcases unitL_mem hu with h3 | ⟨h3,h4,h5⟩
    ·exact absurd h3 h2
    ·obtain ⟨k1,k2,k3⟩:=hc c (List.mem_cons_self ..) _ h3
     obtain ⟨a1,a2,a3,a4⟩:=passL_good (fun c hc'=>hc c (List.mem_cons_of_mem _ hc')) (g.add k1 k2 k3 h4 h5) h
     rw [List.length_append,List.length_singleton] at a2 a3
     exact ⟨a1,by omega,fun _=>.inr (by omega),fun _=>a4 rfl⟩
theorem seqP_good {n:Int} {cs:List (List Int)} {T0:List Int} (hc:∀ c∈cs,∀ x∈c,x≠0 /\-n≤x/\x≤n) (g:GT n T0):∀ {k:Nat} {T:List Int} {b:Bool},seqP cs T0 k=some (T,b)->GT n T/\(b=true->T0.length+k≤T.length)
 | 0,T,b,h=>by
  cases h
  exact ⟨g,fun _=>Nat.le_refl _⟩
 | k+1,T,b,h=>by
  unfold seqP at h
  cases hk:seqP cs T0 k with
  | none=>rw [hk] at h;cases h
  | some r=>
   obtain ⟨T1,b1⟩:=r
   rw [hk] at h
   obtain ⟨g1,g2⟩:=seqP_good hc g hk
   cases b1 with
   | true=>
    obtain ⟨a1,a2,a3,a4⟩:=passL_good hc g1 h
    exact ⟨a1,fun hb=>by rcases a3 hb with h | h;cases h;have:=g2 rfl;omega⟩
   | false=>cases h;exact ⟨g1,fun h=>by cases h⟩
theorem seqP_end {cs:List (List Int)} {T0:List Int}:∀ {j k:Nat},(∀ T,seqP cs T0 k≠some (T,true))->seqP cs T0 (k+j)=seqP cs T0 k
 | 0,k,h=>rfl
 | j+1,k,h=>by
  have ih:=seqP_end (j:=j) h
  show (match seqP cs T0 (k+j) with | some (T,true)=>passL cs T false | r=>r)=seqP cs T0 k
  rw [ih]
  cases hk:seqP cs T0 k with
  | none=>rfl
  | some r=>
   obtain ⟨T,b⟩:=r
   cases b with
   | true=>exact absurd hk (h T)
   | false=>rfl
theorem litsL_good {n:Int}:∀ {l T T':List Int},(∀ x∈l,x≠0 /\-n≤x/\x≤n)->GT n T->litsL l T=some T'->GT n T'
 | [],T,T',_,g,h=>by cases h;exact g
 | x::r,T,T',hl,g,h=>by
  unfold litsL at h
  by_cases h1:-x∈T
  ·rw [if_pos h1] at h;cases h
  ·rw [if_neg h1] at h
   obtain ⟨k1,k2,k3⟩:=hl x (List.mem_cons_self ..)
   refine litsL_good (fun y hy=>hl y (List.mem_cons_of_mem _ hy)) ?_ h
   by_cases h2:x∈T
   ·rw [if_pos h2];exact g
   ·rw [if_neg h2];exact g.add k1 k2 k3 h2 h1
theorem forceT_at {F:Fm} {lits T0:List Int} (h0:litsL lits []=some T0) {k:Nat} (hk:k≤F.vars.toNat+2) (he:∀ T,seqP F.cls T0 k≠some (T,true)):forceT F lits=(seqP F.cls T0 k).map (·.1):=by
 unfold forceT
 rw [h0]
 obtain ⟨j,hj⟩:∃ j,F.vars.toNat+2=k+j:=⟨F.vars.toNat+2-k,by omega⟩
 show (seqP F.cls T0 (F.vars.toNat+2)).map (·.1)=_
 rw [hj,seqP_end he]
theorem seqP_le {n:Int} {cs:List (List Int)} {T0:List Int} (hn:0≤n) (hc:∀ c∈cs,∀ x∈c,x≠0 /\-n≤x/\x≤n) (g:GT n T0) {k:Nat} {T:List Int} (h:seqP cs T0 k=some (T,true)):k≤n.toNat:=by
 obtain ⟨g1,g2⟩:=seqP_good hc g h
 have:=g2 rfl
 have:=g1.len hn
 omega
end Go.Hx
set_option maxRecDepth 100000
namespace Go.Hx
def valI (T:List Int) (v:Nat):Int:=if (v:Int)∈T then 1 else if -(v:Int)∈T then -1 else 0
end Go.Hx
namespace Go.Proofs.Ytobageabpfkpcaa
open Go.Hx
section
variable {h:Heap}
end
end Go.Proofs.Ytobageabpfkpcaa
set_option maxRecDepth 100000
namespace Go.Hx
def outL (n:Nat) (T:List Int):List Int:=(List.range n).filterMap fun i=>if valI T (i+1)=0 then none else some (((i+1:Nat):Int)*valI T (i+1))
def frcE (F:Fm) (lits:List Int):Int:=if (chkF F).2≠0 then (chkF F).2 else litE F.vars lits
def frcR (F:Fm) (lits:List Int):List Int×Bool×Int:=if frcE F lits≠0 then ([],false,frcE F lits) else match forceT F lits with
 | none=>([],false,0)
 | some T=>(outL F.vars.toNat T,true,0)
def ForP (F:Fm) (lits:List Int) (h:Heap) (w:Value) (h':Heap):Prop:=∃ a n c,w=.tuple #[.slice a n c,.bool (frcR F lits).2.1,.int .i64 (frcR F lits).2.2]/\Fr h 1 h' a n c (ints (frcR F lits).1)
theorem forP_err {F:Fm} {lits:List Int} {h h':Heap} {e:Int} (he:frcE F lits=e) (h0:e≠0) (u:Ext h h'):ForP F lits h (.tuple #[.slice none 0 0,.bool false,.int .i64 e]) h':=by
 subst he
 unfold ForP frcR
 rw [if_pos h0]
 exact ⟨none,0,0,rfl,Fr.nil u⟩
theorem forP_no {F:Fm} {lits:List Int} {h h':Heap} (he:frcE F lits=0) (hT:forceT F lits=none) (u:Ext h h'):ForP F lits h (.tuple #[.slice none 0 0,.bool false,.int .i64 0]) h':=by
 unfold ForP frcR
 rw [if_neg (by simp [he]),hT]
 exact ⟨none,0,0,rfl,Fr.nil u⟩
theorem forP_yes {F:Fm} {lits:List Int} {h h':Heap} {T:List Int} (he:frcE F lits=0) (hT:forceT F lits=some T) {a:Option Addr} {n c:Nat} (f:Fr h 1 h' a n c (ints (outL F.vars.toNat T))):ForP F lits h (.tuple #[.slice a n c,.bool true,.int .i64 0]) h':=by
 unfold ForP frcR
 rw [if_neg (by simp [he]),hT]
 exact ⟨a,n,c,rfl,f⟩
end Go.Hx
namespace Go.Proofs.Ytobageabpfkpcaa
open Go.Hx
section
variable {h:Heap} {v:FV} {F:Fm}
end
end Go.Proofs.Ytobageabpfkpcaa
set_option maxRecDepth 100000
namespace Go.Hx
theorem srt_uniq:∀ {A B:List Int},A.Pairwise (fun x y=>x.natAbs<y.natAbs)->B.Pairwise (fun x y=>x.natAbs<y.natAbs)->(∀ x,x∈A↔x∈B)->A=B
 | [],[],_,_,_=>rfl
 | a::A,[],_,_,h=>by cases (h a).1 (List.mem_cons_self ..)
 | [],b::B,_,_,h=>by cases (h b).2 (List.mem_cons_self ..)
 | a::A,b::B,ha,hb,h=>by
  obtain ⟨a1,a2⟩:=List.pairwise_cons.1 ha
  obtain ⟨b1,b2⟩:=List.pairwise_cons.1 hb
  have e:a=b:=by
   rcases List.mem_cons.1 ((h a).1 (List.mem_cons_self ..)) with h1 | h1
   ·exact h1
   ·rcases List.mem_cons.1 ((h b).2 (List.mem_cons_self ..)) with h2 | h2
    ·exact h2.symm
    ·have:=b1 a h1;have:=a1 b h2;omega
  subst e
  rw [srt_uniq a2 b2 fun x=>⟨fun hx=>?_,fun hx=>?_⟩]
  ·rcases List.mem_cons.1 ((h x).1 (List.mem_cons_of_mem _ hx)) with rfl | h1
   ·have:=a1 x hx;omega
   ·exact h1
  ·rcases List.mem_cons.1 ((h x).2 (List.mem_cons_of_mem _ hx)) with rfl | h1
   ·have:=b1 x hx;omega
   ·exact h1
theorem mem_outL {N:Nat} {T:List Int} (g:GT N T) (x:Int):x∈outL N T↔x∈T:=by
 unfold outL
 rw [List.mem_filterMap]
 constructor
 ·rintro ⟨i,hi,h⟩
  by_cases hz:valI T (i+1)=0
  ·rw [if_pos hz] at h;cases h
  ·rw [if_neg hz] at h
   have h:=Option.some.inj h
   unfold valI at hz h
   by_cases h1:((i+1:Nat):Int)∈T
   ·rw [if_pos h1,Int.mul_one] at h;rw [<- h];exact h1
   ·rw [if_neg h1] at h hz
    by_cases h2:-((i+1:Nat):Int)∈T
    ·rw [if_pos h2] at h
     have:x = -((i+1:Nat):Int):=by omega
     rw [this];exact h2
    ·rw [if_neg h2] at hz;exact absurd rfl hz
 ·intro hx
  obtain ⟨a,b,c,d⟩:=g.ok x hx
  refine ⟨x.natAbs-1,List.mem_range.2 (by omega),?_⟩
  have e:x.natAbs-1+1=x.natAbs:=by omega
  rw [e]
  unfold valI
  by_cases hp:0≤x
  ·have e2:((x.natAbs:Nat):Int)=x:=by omega
   rw [e2,if_pos hx,if_neg (by omega),Int.mul_one]
  ·have e2:((x.natAbs:Nat):Int) = -x:=by omega
   rw [e2,Int.neg_neg,if_neg d,if_pos hx,if_neg (by omega)]
   congr 1
   omega
theorem srt_outL {N:Nat} {T:List Int}:(outL N T).Pairwise (fun x y=>x.natAbs<y.natAbs):=by
 unfold outL
 have hv:∀ v,valI T v=0∨valI T v=1∨valI T v = -1:=fun v=>by unfold valI;split;omega;split <;> omega
 refine List.Pairwise.filterMap (R:=fun i j:Nat=>i<j) _ (fun i j hij x hx y hy=>?_) List.pairwise_lt_range
 have key:∀ {i:Nat} {x:Int},x∈(if valI T (i+1)=0 then none else some (((i+1:Nat):Int)*valI T (i+1)))->x.natAbs=i+1:=fun {i x} h=>by
  by_cases hz:valI T (i+1)=0
  ·rw [if_pos hz] at h;cases h
  ·rw [if_neg hz] at h
   have h:=Option.some.inj h
   rcases hv (i+1) with k | k | k
   ·exact absurd k hz
   ·rw [k] at h;omega
   ·rw [k] at h;omega
 have:=key hx
 have:=key hy
 omega
def leftI {α β:Type} [DecidableEq α] (M:List (α×β)) (done:List α):Nat:=(M.filter fun p=>decide (p.1∉done)).length
theorem leftM_ltI {α β:Type} [DecidableEq α] {M:List (α×β)} {done:List α} {p:α×β} (h:p∈M) (hd:p.1∉done):leftI M (p.1::done)<leftI M done:=by
 unfold leftI
 induction M with
 | nil=>cases h
 | cons q M ih=>
  have le:(M.filter fun x=>decide (x.1∉p.1::done)).length≤(M.filter fun x=>decide (x.1∉done)).length:=by
   rw [<- List.countP_eq_length_filter,<- List.countP_eq_length_filter]
   exact List.countP_mono_left fun x _ hx=>by
    simp only [List.mem_cons,not_or,decide_eq_true_eq] at hx ⊢
    exact hx.2
  rw [List.filter_cons,List.filter_cons]
  by_cases hq:q.1=p.1
  ·rw [if_neg (by simp [hq]),if_pos (by rw [hq];exact decide_eq_true hd),List.length_cons]
   omega
  ·have hM:p∈M:=by
    rcases List.mem_cons.1 h with rfl | h
    ·exact absurd rfl hq
    ·exact h
   have:=ih hM
   by_cases hqd:q.1∈done
   ·rw [if_neg (by simp [hqd]),if_neg (by simp [hqd])];exact this
   ·rw [if_pos (decide_eq_true (by simp [hq,hqd])),if_pos (decide_eq_true hqd),List.length_cons,List.length_cons]
    omega
abbrev one1:Unit->Value:=fun _=>.int .i64 1
abbrev kyM (M:List (Int×Unit)):List Int:=M.map Prod.fst
theorem ky_none {M:List (Int×Unit)} {x:Int}:atM M x=none↔x∉kyM M:=by
 constructor
 ·intro h hx
  obtain ⟨p,hp,rfl⟩:=List.mem_map.1 hx
  exact atM_none' h p hp rfl
 ·intro h
  cases ha:atM M x with
  | none=>rfl
  | some v=>exact absurd (List.mem_map.2 ⟨_,atM_mem ha,rfl⟩) h
theorem ky_some {M:List (Int×Unit)} {x:Int} {u:Unit} (h:atM M x=some u):x∈kyM M:=List.mem_map.2 ⟨_,atM_mem h,rfl⟩
theorem ky_put:∀ {M:List (Int×Unit)} {x:Int},kyM (putM M x ())=if x∈kyM M then kyM M else kyM M++[x]
 | [],x=>rfl
 | p::r,x=>by
  unfold putM
  by_cases hp:p.1=x
  ·rw [if_pos hp,if_pos (by simp [hp])]
   simp [kyM,hp]
  ·rw [if_neg hp]
   have ih:=ky_put (M:=r) (x:=x)
   show p.1::kyM (putM r x ())=_
   rw [ih]
   by_cases hx:x∈kyM r
   ·have hm:x∈kyM (p::r):=List.mem_cons_of_mem _ hx
    rw [if_pos hx,if_pos hm];rfl
   ·have hm:x∉kyM (p::r):=fun h=>(List.mem_cons.1 h).elim (fun h=>hp h.symm) hx
    rw [if_neg hx,if_neg hm];rfl
abbrev LitM (h:Heap) (b:Nat) (M:List (Int×Unit)):Prop:=MapIs (α:=Int) (β:=Unit) (Value.int .i64) one1 h b M
theorem unitL_drop {T c:List Int} {i:Nat} {l:Int} (hi:i<c.length):unitL T (c.drop i) l=if c[i]∈T then (0,false) else if -c[i]∈T∨c[i]=l then unitL T (c.drop (i+1)) l else if l=0 then unitL T (c.drop (i+1)) c[i] else (0,false):=by
 rw [List.drop_eq_getElem_cons hi,unitL]
end Go.Hx
namespace Go.Proofs.Ytobageabpfkpcaa
open Go.Hx
section
variable {h:Heap} {v:FV} {F:Fm}
theorem c70 {a:Option Addr} {n c b:Nat} {l:List Int} {M:List (Int×Unit)} (r:Rd h a n (ints l)) (hn:n<9223372036854775807) (hl:∀ x∈l,-262144≤x/\x≤262144) (m:LitM h b M) :
  CallsH Try.prog 70 #[.slice a n c,.map (some b)] h (Ret (.tuple #[.int .i64 (unitL (kyM M) l 0).1,.bool (unitL (kyM M) l 0).2]) h):=by
 have hll:=r.ilen
 refine run70 a n c (some b) _ h (LoopT.to2 (n:=n) hn (fun i (x:Int) h'=>h=h'/\unitL (kyM M) l 0=unitL (kyM M) (l.drop i) x) ⟨rfl,rfl⟩ ?_)
 rintro i x _ K hi ⟨rfl,hI⟩ hK
 dsimp only
 refine ⟨fun hlt=>?_,fun hlt=>?_⟩
 ·have hil:i<l.length:=by omega
  rw [unitL_drop hil] at hI
  obtain ⟨x1,x2⟩:=hl _ (List.getElem_mem hil)
  have wn:IntKind.wrap .i64 (0-l[i]) = -l[i]:=by rw [w64 (by omega) (by omega)];omega
  have tail:l[i]∉kyM M ->-l[i]∉kyM M->PIf (l[i]=x) (K (x,IntKind.wrap .i64 ((i:Int)+1)) h) (PIf (x=0) (K (l[i],IntKind.wrap .i64 ((i:Int)+1)) h) (Ret (.tuple #[.int .i64 (unitL (kyM M) l 0).1,.bool (unitL (kyM M) l 0).2]) h (.tuple #[.int .i64 0,.bool false]) h)):=fun h1 h2=>
   ⟨fun he=>hK _ _ (by omega) ⟨rfl,by rw [hI,if_neg h1,if_pos (.inr he)]⟩,fun he=>⟨fun h0=>hK _ _ (by omega) ⟨rfl,by rw [hI,if_neg h1,if_neg (by rintro (h | h);exact h2 h;exact he h),if_pos h0]⟩,fun h0=>⟨by rw [hI,if_neg h1,if_neg (by rintro (h | h);exact h2 h;exact he h),if_neg h0],rfl⟩⟩⟩
  unfold J70_1
  refine ⟨by omega,by omega,r.getn (i:=i) (by omega) fun ad _ hc1=>⟨_,hc1,?_⟩⟩
  rw [wn]
  refine MapIs.look (val:=one1) KeyR.int m l[i] (fun hn1=>⟨fun h=>absurd h (by omega),fun _=>?_⟩) fun u hu=>⟨_,rfl,fun _=>⟨by rw [hI,if_pos (ky_some hu)],rfl⟩,fun h=>absurd (by omega) h⟩
  have h1:=ky_none.1 hn1
  refine MapIs.look (val:=one1) KeyR.int m (-l[i]) (fun hn2=>⟨fun h=>absurd h (by omega),fun _=>tail h1 (ky_none.1 hn2)⟩) fun u hu=>⟨_,rfl,fun _=>hK _ _ (by omega) ⟨rfl,by rw [hI,if_neg h1,if_pos (.inl (ky_some hu))]⟩,fun h=>absurd (by omega) h⟩
 ·rw [List.drop_eq_nil_of_le (by omega)] at hI
  exact ⟨by rw [hI];rfl,rfl⟩
def SortAbs:Prop:=∀ {h:Heap} {a:Option Addr} {n c:Nat} {l:List Int},Own 1 h a n c (ints l)->n≤262144->(∀ x∈l,-262144≤x/\x≤262144)->(l.Pairwise fun x y=>x.natAbs≠y.natAbs) ->
 CallsH Try.prog 71 #[.slice a n c,.func (.func 72) #[] #[]] h fun w h'=>w=.tuple #[]/\Upd (atb a) h h'/\∃ l':List Int,Own 1 h' a n c (ints l')/\(∀ x,x∈l'↔x∈l)/\l'.Pairwise fun x y=>x.natAbs<y.natAbs
theorem gt_abs {n:Int} {T:List Int} (g:GT n T):T.Pairwise fun x y=>x.natAbs≠y.natAbs:=g.nd.imp_of_mem fun {a b} ha hb hab e=>by
 obtain ⟨_,_,_,a4⟩:=g.ok a ha
 obtain ⟨_,_,_,b4⟩:=g.ok b hb
 have:a=b∨a = -b:=by omega
 rcases this with h | h
 ·exact hab h
 ·rw [h] at ha;exact b4 ha
set_option maxHeartbeats 1000000 in
theorem c59 (sa:SortAbs) (r:FIs h v F) (ok:F.Ok) {b:Option Addr} {m d:Nat} {lits:List Int} (rl:Rd h b m (ints lits)) (hm:m<9223372036854775807):CallsH Try.prog 59 #[v.v,.slice b m d] h (ForP F lits h):=by
 have hll:=rl.ilen
 have hlen:=r.r.len
 have hv:=r.n
 refine run59 v.n v.s.a v.s.n v.s.c b m d _ h ?_
 unfold VC59
 intro h1
 have e1:Ext h h1:=Ext.box h _
 have hb:Rd h1 (some ⟨h.size,0,none⟩) 2 v.cs:=boxF v 24
 refine ldF hb (useX (c17 (r.ext e1) ok) fun h2 e2=>⟨_,_,rfl,fun hz=>?_,fun hz=>forP_err (by unfold frcE;rw [if_pos hz]) hz (e1.trans e2)⟩)
 obtain ⟨v0,v1,vn,vc⟩:=chkF_ok hz
 have hb2:=hb.ext e2
 have e02:=e1.trans e2
 unfold J59_0
 refine ⟨_,hb2.fld 0 rfl,useX (c30 (rl.ext e02) hm (v:=v.n) (by omega) (by omega)) fun h3 e3=>⟨_,rfl,fun hz2=>?_,fun hz2=>forP_err (by unfold frcE;rw [if_neg (by simp [hz]),hv]) hz2 (e02.trans e3)⟩⟩
 rw [hv] at hz2
 have hE:frcE F lits=0:=by unfold frcE;rw [if_neg (by simp [hz]),hz2]
 obtain ⟨l1,l2⟩:=litE_0 hz2
 have e03:=e02.trans e3
 have hb3:=hb2.ext e3
 have hcs:∀ c∈F.cls,∀ x∈c,x≠0 /\-F.vars≤x/\x≤F.vars:=fun c h=>(vc c h).2
 unfold J59_1
 intro h4
 have e4:Ext h3 h4:=Ext.push h3 _
 have mp0:LitM h4 h3.size []:=MapIs.new h3
 refine LoopT.to (n:=m) (by omega) (fun i h'=>Ext h3 h'/\∃ M,LitM h' h3.size M/\GT F.vars (kyM M)/\litsL lits []=litsL (lits.drop i) (kyM M)) ⟨e4,[],mp0,GT.nil,rfl⟩ ?_
 rintro i h6 K hi ⟨e6,M,mp,g,hT⟩ hK
 refine ⟨fun hlt=>?_,fun hlt=>?_⟩
 ·have hil:i<lits.length:=by omega
  obtain ⟨x0,x1,x2⟩:=l2 _ (List.getElem_mem hil)
  rw [List.drop_eq_getElem_cons hil,litsL] at hT
  have wn:IntKind.wrap .i64 (0-lits[i]) = -lits[i]:=by rw [w64 (by omega) (by omega)];omega
  unfold J59_3
  refine ⟨by omega,by omega,(rl.ext (e03.trans e6)).getn (i:=i) (by omega) fun ad _ hc1=>⟨_,hc1,?_⟩⟩
  rw [wn]
  refine MapIs.look (val:=one1) KeyR.int mp (-lits[i]) (fun hn1=>⟨fun h=>absurd h (by omega),fun _=>?_⟩) fun u hu=>⟨_,rfl,fun _=>forP_no hE (by unfold forceT;rw [hT,if_pos (ky_some hu)]) (e03.trans e6),fun h=>absurd (by omega) h⟩
  have hneg:=ky_none.1 hn1
  rw [if_neg hneg] at hT
  refine MapIs.put (val:=one1) KeyR.int mp lits[i] () fun h8 mp8 u8=>hK h8 (by omega) ⟨e6.newer u8 fun x hx hxe=>by omega,_,mp8,?_,?_⟩
  ·rw [ky_put]
   by_cases hm:lits[i]∈kyM M
   ·rw [if_pos hm];exact g
   ·rw [if_neg hm];exact g.add x0 x1 x2 hm hneg
  ·rw [ky_put];exact hT
 rw [List.drop_eq_nil_of_le (by omega)] at hT
 have hT0:litsL lits []=some (kyM M):=hT
 clear hK K hT
 unfold J59_2
 refine ⟨fun b h' mm=>Ext h3 h'/\∃ k M',seqP F.cls (kyM M) k=some (kyM M',b)/\k≤F.vars.toNat+1/\mm=F.vars.toNat+2-k/\LitM h' h3.size M',⟨_,e6,0,M,rfl,by omega,rfl,mp⟩,?_⟩
 rintro bo h7 _ ⟨e7,k,M',hs,hk,rfl,mp7⟩
 have gT:=(seqP_good hcs g hs).1
 cases bo with
 | true=>
  have hkN:k≤F.vars.toNat:=seqP_le v0 hcs g hs
  refine BIf.t ?_
  unfold J59_6
  refine ⟨_,_,_,(hb3.ext e7).fld 1 rfl,?_⟩
  refine LoopT.to2 (n:=v.s.n) (by omega) (fun i (b:Bool) h'=>Ext h3 h'/\∃ M2,passL F.cls (kyM M') false=passL (F.cls.drop i) (kyM M2) b/\GT F.vars (kyM M2)/\LitM h' h3.size M2) ⟨e7,M',rfl,gT,mp7⟩ ?_
  rintro i b2 h9 K hi ⟨e9,M2,hp,g2,mp9⟩ hK
  dsimp only
  have hsk:seqP F.cls (kyM M) (k+1)=passL F.cls (kyM M') false:=by
   show (match seqP F.cls (kyM M) k with | some (T,true)=>passL F.cls T false | r=>r)=_
   rw [hs]
  refine ⟨fun hlt=>?_,fun hlt=>?_⟩
  ·have hil:i<F.cls.length:=by omega
   obtain ⟨hcl,hcx⟩:=vc _ (List.getElem_mem hil)
   have hpd:passL (F.cls.drop i) (kyM M2) b2=if (unitL (kyM M2) F.cls[i] 0).2=false then passL (F.cls.drop (i+1)) (kyM M2) b2 else if (unitL (kyM M2) F.cls[i] 0).1=0 then none else passL (F.cls.drop (i+1)) (kyM M2++[(unitL (kyM M2) F.cls[i] 0).1]) true:=by rw [List.drop_eq_getElem_cons hil,passL]
   rw [hpd] at hp
   unfold J59_7
   refine ⟨by omega,by omega,(r.ext (e03.trans e9)).r.get (i:=i) (by omega) fun ad hl1 s hc1 hs1 hsc hsl hsn=>⟨_,_,_,hc1,?_⟩⟩
   rw [hsl] at hs1
   refine use (c70 hs1 (by omega) (fun x hx=>by have:=hcx x hx;omega) mp9) ⟨_,_,rfl,?_⟩
   cases hu2:(unitL (kyM M2) F.cls[i] 0).2 with
   | false=>
    rw [if_pos hu2] at hp
    exact BIf.t (hK _ _ (by omega) ⟨e9,M2,hp,g2,mp9⟩)
   | true=>
    rw [if_neg (by rw [hu2];simp)] at hp
    have hue:unitL (kyM M2) F.cls[i] 0=((unitL (kyM M2) F.cls[i] 0).1,true):=by rw [<- hu2]
    generalize hx:(unitL (kyM M2) F.cls[i] 0).1=x at *
    unfold J59_8
    refine BIf.f ⟨fun h0=>forP_no hE ?_ (e03.trans e9),fun h0=>?_⟩
    ·rw [if_pos h0] at hp
     rw [forceT_at hT0 (k:=k+1) (by omega) fun T'' h=>by rw [h,hp] at hsk;cases hsk]
     rw [hsk,hp];rfl
    ·rw [if_neg h0] at hp
     rcases unitL_mem hue with h | ⟨hmem,hn1,hn2⟩
     ·exact absurd h h0
     obtain ⟨y0,y1,y2⟩:=hcx _ hmem
     refine MapIs.put (val:=one1) KeyR.int mp9 x () fun h17 mp17 u17=>hK _ _ (by omega) ⟨e9.newer u17 fun x hx hxe=>by omega,_,?_,?_,mp17⟩
     ·rw [ky_put,if_neg hn1];exact hp
     ·rw [ky_put,if_neg hn1];exact g2.add y0 y1 y2 hn1 hn2
  ·rw [List.drop_eq_nil_of_le (by omega)] at hp
   exact ⟨F.vars.toNat+2-(k+1),by omega,e9,k+1,M2,by rw [hsk,hp];rfl,by omega,rfl,mp9⟩
 | false=>
  refine BIf.f ?_
  have hfT:forceT F lits=some (kyM M'):=by
   rw [forceT_at hT0 (k:=k) (by omega) fun T'' h=>by rw [h] at hs;cases hs]
   rw [hs];rfl
  have hlenT:=gT.len v0
  have ndM:(M'.map Prod.fst).Nodup:=gT.nd
  unfold J59_5
  refine mp7.range ndM fun h19 mi e19=>?_
  have z19:h7.size<h19.size:=mi.lt
  refine ⟨fun st h' mm=>∃ done,MapIt (Value.int .i64) one1 h' h7.size h3.size M' done/\mm=leftI M' done/\Own 1 h' st.1 st.2.1 st.2.2 (ints done.reverse)/\(∀ ad,st.1=some ad->h19.size≤ad.block)/\Upd (fun b=>b=h7.size) h19 h'/\st.2.1=done.length/\done.Nodup/\∀ x∈done,x∈kyM M',⟨_,[],mi,rfl,.nil,(fun ad h=>by cases h),.refl _,rfl,.nil,fun x hx=>by cases hx⟩,?_⟩
  rintro ⟨oa,on,oc⟩ h20 _ ⟨done,it,rfl,o,hnew,u,hon,nd,hsub⟩
  dsimp only at o hnew hon ⊢
  have gd:GT F.vars done:=⟨nd,fun x hx=>by
   obtain ⟨a1,a2,a3,a4⟩:=gT.ok x (hsub x hx)
   exact ⟨a1,a2,a3,fun h=>a4 (hsub _ h)⟩⟩
  have hdl:=gd.len v0
  have z7:=e7.1
  have e3_20:Ext h3 h20:=(e7.trans e19).newer u fun x hx hxe=>by omega
  refine ⟨rfl,it.next (fun hall=>?_) fun p hp hnd h21 e it24 u21 hk hv hme=>⟨_,rfl,_,rfl,?_⟩⟩
  ·have hiff:∀ x,x∈done.reverse↔x∈kyM M':=fun x=>by
    rw [List.mem_reverse]
    refine ⟨hsub x,fun hx=>?_⟩
    obtain ⟨p,hp,rfl⟩:=List.mem_map.1 hx
    exact hall p hp
   unfold J59_11
   refine (sa o (by omega) (fun x hx=>?_) ?_).mono ?_
   ·have:=gd.ok x (List.mem_reverse.1 hx);omega
   ·rw [List.pairwise_reverse]
    exact (gt_abs gd).imp fun h e=>h e.symm
   rintro _ h22 ⟨rfl,u22,l',o22,hml,hsl⟩
   have hl':l'=outL F.vars.toNat (kyM M'):=srt_uniq hsl srt_outL fun x=>by
    have hN:((F.vars.toNat:Nat):Int)=F.vars:=by omega
    rw [hml,hiff,mem_outL (N:=F.vars.toNat) (by rw [hN];exact gT)]
   subst hl'
   have e3_22:Ext h3 h22:=e3_20.newer u22 fun x hx ⟨ad,ha,hxe⟩=>by have:=hnew ad ha;have:=e19.1;omega
   refine ⟨rfl,forP_yes hE hfT ⟨o22,fun ad ha=>?_,e03.trans e3_22⟩⟩
   have:=hnew ad ha
   have:=e19.1
   have:=e03.1
   omega
  ·have hpn:p.1∉done:=hnd
   have o21:=o.upd u21 fun ad ha he=>by have:=hnew ad ha;omega
   unfold J59_13
   refine ⟨rfl,hme _ ⟨_,hk,_,hv,?_⟩⟩
   intro h25
   have e25:Ext h21 h25:=Ext.push h21 _
   refine ⟨[.int .i64 p.1],(Fr.lit (.refl h21) [.int .i64 p.1] 3 1 rfl).rd.read,rfl,?_⟩
   have hop:on+1≤262145:=by omega
   refine AppS.own (o21.ext e25) rfl (by simp [Value.oneCell']) (by omega) fun a' c' h26 o26 u26 hor=>?_
   have u26':Upd (fun b=>b=h7.size) h19 h26:=by
    have h1:Upd (fun b=>b=h7.size) h19 h25:=(u.trans u21).trans (Upd.wide e25)
    exact h1.newer u26 fun x hx ⟨ad,ha,hxe⟩=>by have:=hnew ad ha;omega
   have hb26:∀ ad,oa=some ad->ad.block≠h7.size/\ad.block≠h3.size:=fun ad ha=>by have:=hnew ad ha;have:=e19.1;have:=mp7.lt;omega
   refine ⟨leftI M' (p.1::done),leftM_ltI hp hnd,p.1::done,(it24.ext e25).upd u26 (fun ⟨ad,ha,he⟩=>(hb26 ad ha).2 he.symm) (fun ⟨ad,ha,he⟩=>(hb26 ad ha).1 he.symm),rfl,?_,fun ad ha=>?_,u26',?_,List.nodup_cons.2 ⟨hpn,nd⟩,fun x hx=>?_⟩
   ·show Own 1 h26 a' (on+1) c' (ints (p.1::done).reverse)
    rw [List.reverse_cons,ints,List.map_append]
    exact o26
   ·rcases hor with h | ⟨ad',h,h2⟩
    ·exact hnew ad (by rw [<- h];exact ha)
    ·have ha:a'=some ad:=ha
     rw [h] at ha;cases ha
     have:=u.1;have:=u21.1;have:=e25.1;omega
   ·show on+1=(p.1::done).length
    rw [hon];rfl
   ·rcases List.mem_cons.1 hx with rfl | hx
    ·exact List.mem_map.2 ⟨p,hp,rfl⟩
    ·exact hsub x hx
end
end Go.Proofs.Ytobageabpfkpcaa
