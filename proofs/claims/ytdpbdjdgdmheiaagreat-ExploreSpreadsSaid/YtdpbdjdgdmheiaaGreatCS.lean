/- Words and facts that the claim's proof leans on. No condition. -/
import Derived.Test.YtdpbdjdgdmheiaaGreatHxV
set_option linter.unusedVariables false
set_option linter.unusedSimpArgs false
namespace Go.Hx
def Big (C:Circ):Prop:=16384<C.ins.length∨16384<C.lats.length∨16384<C.outs.length∨16384<C.bads.length∨16384<C.cons.length∨16384<C.just.length∨16384<C.fair.length∨16384<C.ands.length∨16384<C.syms.length∨16384<C.coms.length ∨
 16384<(C.just.map List.length).sum
open Classical in
noncomputable def sizeE (C:Circ):Int:=if C.mx<0∨16384<C.mx then 1 else if Big C then 2 else 0
theorem sizeE_two {C:Circ} (h:¬ (C.mx<0∨16384<C.mx)) (hb:Big C):sizeE C=2:=by unfold sizeE;rw [if_neg h,if_pos hb]
theorem sizeE_ok {C:Circ} (h:¬ (C.mx<0∨16384<C.mx)) (hb:¬ Big C):sizeE C=0:=by unfold sizeE;rw [if_neg h,if_neg hb]
abbrev Mk:=Int×Int
abbrev cs2 (p:Mk):List Value:=[.int .i64 p.1,.int .i64 p.2]
theorem cs2l (p:Mk):(cs2 p).length=2:=rfl
def mk1 (mx:Int) (B:List Mk) (l:Int):Int:=if l<2∨l % 2=1∨2*mx<l then 30 else if (B.getD (l / 2).toNat (0,0)).1=0 then 0 else 31
def put1 (B:List Mk) (l k i:Int):List Mk:=B.set (l / 2).toNat (k,i)
abbrev DR:=Int×Int×List Mk
def defG {α:Type} (mx k:Int) (f g:α->Int):List α->Int->List Mk->(List Mk->DR)->DR
 | [],_,B,K=>K B
 | x::r,i,B,K=>if mk1 mx B (f x)=0 then (if g x=0 then defG mx k f g r (i+1) (put1 B (f x) k i) K else (i,g x,B)) else (i,mk1 mx B (f x),B)
def rst (x:L3):Int:=if x.c=0∨x.c=1∨x.c=x.a then 0 else 33
def defs (C:Circ):DR:=
 defG C.mx 1 id (fun _=>0) C.ins 0 (List.replicate (C.mx+1).toNat (0,0)) fun B=>
 defG C.mx 2 L3.a rst C.lats 0 B fun B=>
 defG C.mx 3 L3.a (fun _=>0) C.ands 0 B fun B=>(0,0,B)
def us1 (mx:Int) (B:List Mk) (l:Int):Int:=if l<0∨2*mx+1<l then 30 else if 1<l/\(B.getD (l / 2).toNat (0,0)).1=0 then 32 else 0
def firstE {α:Type} (f:α->Int):List α->Int->(Int×Int)->Int×Int
 | [],_,z=>z
 | x::r,i,z=>if f x=0 then firstE f r (i+1) z else (i,f x)
def usL (mx:Int) (B:List Mk) (l:List Int):Int:=(firstE (us1 mx B) l 0 (0,0)).2
def uses (C:Circ) (B:List Mk):Int×Int:=
 firstE (fun x=>us1 C.mx B x.b) C.lats 0 <| firstE (us1 C.mx B) C.outs 0 <| firstE (us1 C.mx B) C.bads 0 <| firstE (us1 C.mx B) C.cons 0 <|
 firstE (usL C.mx B) C.just 0 <| firstE (us1 C.mx B) C.fair 0 <| firstE (fun x=>usL C.mx B [x.b,x.c]) C.ands 0 (0,0)
def gateOf (B:List Mk) (l:Int):List Nat:=if (B.getD (l / 2).toNat (0,0)).1=3 then [(B.getD (l / 2).toNat (0,0)).2.toNat] else []
def bel (C:Circ) (B:List Mk) (i:Nat):List Nat:=match C.ands[i]? with | some x=>gateOf B x.b++gateOf B x.c | none=>[]
def Rnd (C:Circ) (B:List Mk) (i:Nat):Prop:=Relation.TransGen (fun a b=>b∈bel C B a) i i
open Classical in
noncomputable def cyc (C:Circ) (B:List Mk):Option Nat:=(List.range C.ands.length).find? fun i=>decide (Rnd C B i)
def many (C:Circ) (k:Int):Int:=
 if k=105 then C.ins.length else if k=108 then C.lats.length else if k=111 then C.outs.length else if k=98 then C.bads.length else if k=99 then C.cons.length else if k=106 then C.just.length else if k=102 then C.fair.length else -1
def SymBad (C:Circ) (pre:List Sy) (s:Sy):Prop:=s.i<0∨many C s.k≤s.i∨s.s.size=0∨64<s.s.size∨(∃ p∈pre,p.k=s.k/\p.i=s.i)∨∃ b∈B s.s,b.toNat<32
open Classical in
noncomputable def symF (C:Circ):List Sy->List Sy->Nat->Option Nat
 | _,[],_=>none
 | pre,s::r,i=>if SymBad C pre s then some i else symF C (pre++[s]) r (i+1)
noncomputable def syF (C:Circ):Option Nat:=symF C [] C.syms 0
def comF (C:Circ):Option Nat:=C.coms.findIdx? fun s=>(B s).contains 10
noncomputable def chk (C:Circ):Int×Int:=
 if sizeE C≠0 then (0,sizeE C) else
 if (defs C).2.1≠0 then ((defs C).1,(defs C).2.1) else
 if (uses C (defs C).2.2).2≠0 then uses C (defs C).2.2 else
 match cyc C (defs C).2.2 with
 | some i=>(i,34)
 | none=>match syF C with
  | some i=>(i,35)
  | none=>match comF C with
   | some i=>(i,36)
   | none=>(0,0)
abbrev W64 (x:Int):Prop :=-9223372036854775808≤x/\x≤9223372036854775807
def L3.ok (x:L3):Prop:=W64 x.a/\W64 x.b/\W64 x.c
structure Circ.Ok (C:Circ):Prop where
 mx:W64 C.mx
 ins:∀ x∈C.ins,W64 x
 lats:∀ x∈C.lats,x.ok
 outs:∀ x∈C.outs,W64 x
 bads:∀ x∈C.bads,W64 x
 cons:∀ x∈C.cons,W64 x
 just:∀ r∈C.just,(∀ x∈r,W64 x)/\r.length≤17592186044416
 fair:∀ x∈C.fair,W64 x
 ands:∀ x∈C.ands,x.ok
 syms:∀ s∈C.syms,W64 s.i/\0≤s.k/\s.k≤255/\s.s.size≤140737488355328
 coms:∀ s∈C.coms,s.size≤140737488355328
 n:C.ins.length≤17592186044416/\C.lats.length≤17592186044416/\C.outs.length≤17592186044416/\C.bads.length≤17592186044416/\C.cons.length≤17592186044416/\C.just.length≤17592186044416/\C.fair.length≤17592186044416 /\
  C.ands.length≤17592186044416/\C.syms.length≤17592186044416/\C.coms.length≤17592186044416
 nb:C.ins.length≤17592186043904/\C.lats.length≤5864062014634/\C.outs.length≤17592186043904/\C.bads.length≤17592186043904/\C.cons.length≤17592186043904/\C.just.length≤5864062014634/\C.fair.length≤17592186043904/\C.ands.length≤5864062014634 /\
  C.syms.length≤4398046510976/\C.coms.length≤8796093021952/\∀ r∈C.just,r.length≤17592186043904
theorem flat_set {α:Type} {f:α->List Value} {sz:Nat} (hf:∀ x,(f x).length=sz) (x:α):∀ (l:List α) (j:Nat),j<l.length->(l.set j x).flatMap f=writeL (l.flatMap f) (j*sz) (f x)
 | [],j,h=>by simp at h
 | y::l,0,_=>by
  unfold writeL
  rw [List.set_cons_zero,List.flatMap_cons,List.flatMap_cons,Nat.zero_mul,List.take_zero,List.nil_append,Nat.zero_add,hf,List.drop_append_of_le_length (by rw [hf];exact Nat.le_refl _),List.drop_of_length_le (l:=f y) (by rw [hf];exact Nat.le_refl _),List.nil_append]
 | y::l,j+1,h=>by
  rw [List.set_cons_succ,List.flatMap_cons,List.flatMap_cons,flat_set hf x l j (by simpa using h)]
  unfold writeL
  have e1:(j+1)*sz=(f y).length+j*sz:=by rw [hf,Nat.succ_mul,Nat.add_comm]
  rw [e1,List.take_length_add_append,Nat.add_assoc,List.drop_length_add_append,List.append_assoc]
theorem Fr.setE {α:Type} {f:α->List Value} {sz:Nat} (hf:∀ x,(f x).length=sz) (hz:0<sz) (h1:∀ x,∀ v∈f x,v.oneCell'=true) {h0 h:Heap} {ad:Addr} {n c:Nat} {l:List α} (r:Fr h0 sz h (.some ad) n c (l.flatMap f)) {j:Nat} (hj:j<n) (x:α)
  {K:Heap->Prop} (hK:∀ h',Upd (fun i=>i=ad.block) h h'->Fr h0 sz h' (.some ad) n c ((l.set j x).flatMap f)->K h'):StoreH h (ad.add (j*sz)) (f x) K:=by
 have hcap:=r.own.cap
 have hl:=r.own.rd.elen hf hz
 have hjs:j*sz+sz≤n*sz:=by rw [<- Nat.succ_mul];exact Nat.mul_le_mul_right _ hj
 have hns:n*sz≤c*sz:=Nat.mul_le_mul_right _ hcap
 refine r.own.write (j*sz) (f x) (by rw [hf];omega) (h1 x) fun h' u w=>hK h' u ⟨w n _ (by rw [flat_len hf,List.length_set,hl]) hcap fun i hi=>?_,r.new,Fr.ext_of r.ext r.new (u.mono fun i _ hi=>⟨ad,rfl,hi⟩)⟩
 rw [flat_set hf x l j (by omega),getElem?_writeL (by rw [hf,r.own.rd.len];exact hjs)]
theorem boxN {h:Heap} {zs ws:List Value} {e:TypeId} (hl:ws.length=zs.length) (h1:∀ w∈ws,w.oneCell'=true) {K:Heap->Prop} (hK:∀ h',Ext h h'->Rd h' (some ⟨h.size,0,none⟩) ws.length ws->K h') :
  StoreH (h.push (.cells zs.toArray e)) ⟨h.size,0,none⟩ ws K:=by
 have f:=Fr.lit (.refl h) zs e zs.length rfl
 exact f.put hl h1 fun h' f' _=>hK h' f'.ext (by have:=f'.rd;rwa [<- hl] at this)
theorem box3 {h:Heap} {e:TypeId} {z1 z2 z3:Value} (x:L3) {K:Heap->Prop} (hK:∀ h',Ext h h'->Rd h' (some ⟨h.size,0,none⟩) 3 x.cs->K h') :
  StoreH (h.push (.cells #[z1,z2,z3] e)) ⟨h.size,0,none⟩ [.int .i64 x.a,.int .i64 x.b,.int .i64 x.c] K:=boxN (zs:=[z1,z2,z3]) (ws:=x.cs) rfl (by simp [Value.oneCell']) hK
theorem add0_add (a:Addr) (n:Nat):(a.add 0).add n=a.add n:=by rw [addr_add0]
structure Lk (h0 h:Heap) (k:Addr) (v:CV) (b:Addr) (B:List Mk):Prop where
 ext:Ext h0 h
 new:h0.size≤k.block
 rd:Rd h (some k) 12 (v.cs++[.slice (some b) B.length B.length])
 fr:Fr h0 2 h (some b) B.length B.length (B.flatMap cs2)
 ne:b.block≠k.block
theorem Lk.upd {h0 h h':Heap} {k:Addr} {v:CV} {b:Addr} {B:List Mk} (L:Lk h0 h k v b B) (u:Ext h h'):Lk h0 h' k v b B:=⟨L.ext.trans u,L.new,L.rd.ext u,L.fr.upd u,L.ne⟩
theorem Lk.fld {h0 h:Heap} {k:Addr} {v:CV} {b:Addr} {B:List Mk} (L:Lk h0 h k v b B) (i:Nat) {x:Value} (hx:(v.cs++[Value.slice (some b) B.length B.length])[i]?=some x):cellH h (k.add i)=some x:=L.rd.read i x hx
theorem Lk.fld0 {h0 h:Heap} {k:Addr} {v:CV} {b:Addr} {B:List Mk} (L:Lk h0 h k v b B) (i:Nat) {x:Value} (hx:(v.cs++[Value.slice (some b) B.length B.length])[i]?=some x):cellH h ((k.add 0).add i)=some x:=by rw [add0_add];exact L.fld i hx
theorem Lk.at_ {h0 h:Heap} {k:Addr} {v:CV} {b:Addr} {B:List Mk} (L:Lk h0 h k v b B) {i:Nat} (hi:i<B.length):Rd h (some (b.add (i*2))) 2 (cs2 B[i]):=L.fr.own.rd.elemS cs2l hi hi
end Go.Hx
namespace Go.Hx
abbrev nI (l:List Nat):List Int:=l.map fun n=>((n:Nat):Int)
theorem nodup_len:∀ (n:Nat) (l:List Nat),l.Nodup->(∀ x∈l,x<n)->l.length≤n
 | 0,l,_,h=>by
  cases l with
  | nil=>simp
  | cons x l=>have:=h x (List.mem_cons_self ..);omega
 | n+1,l,hn,h=>by
  by_cases hm:n∈l
  ·have:=nodup_len n (l.erase n) (hn.erase n) fun x hx=>by
    have h1:=(hn.mem_erase_iff).1 hx
    have:=h x h1.2
    have:=h1.1
    omega
   rw [List.length_erase_of_mem hm] at this
   omega
  ·have:=nodup_len n l hn fun x hx=>by
    have:=h x hx
    have:x≠n:=fun e=>hm (e▸hx)
    omega
   omega
def lk (bl:Nat->List Nat) (out:List Nat) (i:Nat):Nat:=((bl i).filter fun y=>decide (y∉out)).length
theorem lk_zero {bl:Nat->List Nat} {out:List Nat} {i:Nat}:lk bl out i=0↔∀ y∈bl i,y∈out:=by
 unfold lk
 rw [List.length_eq_zero_iff,List.filter_eq_nil_iff]
 simp
theorem lk_snoc {bl:Nat->List Nat} {out:List Nat} {x i:Nat} (hx:x∉out):lk bl out i=lk bl (out++[x]) i+(bl i).count x:=by
 unfold lk
 induction bl i with
 | nil=>rfl
 | cons y l ih=>
  rw [List.filter_cons,List.filter_cons,List.count_cons]
  by_cases hy:y=x
  ·subst hy
   rw [decide_eq_true hx,decide_eq_false (show ¬ y∉out++[y] by simp),beq_self_eq_true]
   simp only [if_true,if_false,Bool.false_eq_true,List.length_cons]
   omega
  ·have e3:(y == x)=false:=by simpa using hy
   rw [e3]
   by_cases ho:y∈out
   ·rw [decide_eq_false (show ¬ y∉out by simpa using ho),decide_eq_false (show ¬ y∉out++[x] by simp [ho])]
    simp only [if_true,if_false,Bool.false_eq_true,List.length_cons]
    omega
   ·rw [decide_eq_true ho,decide_eq_true (show y∉out++[x] by simp [ho,hy])]
    simp only [if_true,if_false,Bool.false_eq_true,List.length_cons]
    omega
structure Ord (n:Nat) (bl:Nat->List Nat) (out rest ready:List Nat) (lack:List Int):Prop where
 len:lack.length=n
 lack:∀ i,i<n->lack[i]?=some ((lk bl out i+rest.count i:Nat):Int)
 mem:∀ i,i<n->((i∈out∨i∈ready)↔lk bl out i+rest.count i=0)
 nd:(out++ready).Nodup
 lt:∀ i∈out++ready,i<n
 topo:∀ k (hk:k<out.length),∀ y∈bl out[k],y∈out.take k
structure Topo (n:Nat) (bl:Nat->List Nat) (out:List Nat):Prop where
 nd:out.Nodup
 lt:∀ i∈out,i<n
 topo:∀ k (hk:k<out.length),∀ y∈bl out[k],y∈out.take k
 full:∀ i,i<n->(∀ y∈bl i,y∈out)->i∈out
theorem Ord.pop {n:Nat} {bl:Nat->List Nat} {out ready:List Nat} {lack:List Int} {x:Nat} (o:Ord n bl out [] (ready++[x]) lack) {ab:List Nat} (hab:∀ i,i<n->ab.count i=(bl i).count x):Ord n bl (out++[x]) ab ready lack:=by
 have hp:(out++[x]++ready).Perm (out++(ready++[x])):=by
  rw [List.append_assoc]
  exact List.Perm.append_left _ List.perm_append_comm
 have hnd:=o.nd
 have hx:x∉out:=fun hx=>by
  have:=List.nodup_append.1 hnd
  exact this.2.2 x hx x (by simp) rfl
 refine ⟨o.len,fun i hi=>?_,fun i hi=>?_,hp.nodup_iff.2 hnd,fun i hi=>o.lt i (hp.mem_iff.1 hi),fun k hk y hy=>?_⟩
 ·rw [o.lack i hi,lk_snoc hx,hab i hi];simp
 ·rw [hab i hi,<- lk_snoc hx]
  have:=o.mem i hi
  simp only [List.count_nil,Nat.add_zero] at this
  rw [<- this]
  simp only [List.mem_append,List.mem_singleton]
  constructor
  ·rintro ((h | h) | h)
   ·exact .inl h
   ·exact .inr (.inr h)
   ·exact .inr (.inl h)
  ·rintro (h | h | h)
   ·exact .inl (.inl h)
   ·exact .inr h
   ·exact .inl (.inr h)
 ·rcases Nat.lt_or_ge k out.length with h | h
  ·rw [List.getElem_append_left h] at hy
   rw [List.take_append_of_le_length (by omega)]
   exact o.topo k h y hy
  ·have hk2:k=out.length:=by simp at hk;omega
   subst hk2
   rw [List.take_left]
   rw [List.getElem_append_right (by omega)] at hy
   simp at hy
   have hxn:x<n:=o.lt x (by simp)
   have:=(o.mem x hxn).1 (.inr (by simp))
   simp only [List.count_nil,Nat.add_zero] at this
   exact lk_zero.1 this y hy
theorem Ord.dec {n:Nat} {bl:Nat->List Nat} {out rest ready ready':List Nat} {lack:List Int} {y:Nat} (o:Ord n bl out (y::rest) ready lack) (hy:y<n)
  (hr:if lk bl out y+rest.count y=0 then ready'.Perm (y::ready) else ready'=ready):Ord n bl out rest ready' (lack.set y ((lk bl out y+rest.count y:Nat):Int)):=by
 have hc:∀ i,(y::rest).count i=rest.count i+if y=i then 1 else 0:=fun i=>by rw [List.count_cons];simp
 have hny:¬ (y∈out∨y∈ready):=fun h=>by
  have:=(o.mem y hy).1 h
  rw [hc] at this
  simp at this
 refine ⟨by rw [List.length_set];exact o.len,fun i hi=>?_,fun i hi=>?_,?_,fun i hi=>?_,o.topo⟩
 ·by_cases hyi:y=i
  ·subst hyi
   rw [List.getElem?_set_self (by rw [o.len];exact hy)]
  ·rw [List.getElem?_set_ne hyi,o.lack i hi,hc,if_neg hyi];simp
 ·have:=o.mem i hi
  rw [hc] at this
  by_cases hyi:y=i
  ·subst hyi
   split at hr
   ·rename_i h0
    exact ⟨fun _=>h0,fun _=>.inr (hr.mem_iff.2 (List.mem_cons_self ..))⟩
   ·rename_i h0
    subst hr
    exact ⟨fun h=>absurd h hny,fun h=>absurd h h0⟩
  ·rw [if_neg hyi,Nat.add_zero] at this
   rw [<- this]
   split at hr
   ·rw [hr.mem_iff,List.mem_cons]
    constructor
    ·rintro (h | h | h)
     ·exact .inl h
     ·exact absurd h.symm hyi
     ·exact .inr h
    ·rintro (h | h)
     ·exact .inl h
     ·exact .inr (.inr h)
   ·subst hr;rfl
 ·split at hr
  ·have hp:(out++ready').Perm (y::(out++ready)):=(List.Perm.append_left _ hr).trans List.perm_middle
   rw [hp.nodup_iff,List.nodup_cons,List.mem_append]
   exact ⟨hny,o.nd⟩
  ·subst hr;exact o.nd
 ·split at hr
  ·rw [List.mem_append,hr.mem_iff,List.mem_cons] at hi
   rcases hi with h | h | h
   ·exact o.lt i (List.mem_append_left _ h)
   ·subst h;exact hy
   ·exact o.lt i (List.mem_append_right _ h)
  ·subst hr;exact o.lt i hi
theorem Ord.done {n:Nat} {bl:Nat->List Nat} {out:List Nat} {lack:List Int} (o:Ord n bl out [] [] lack):Topo n bl out:=by
 have hnd:=o.nd
 have hlt:=o.lt
 rw [List.append_nil] at hnd hlt
 refine ⟨hnd,hlt,o.topo,fun i hi h=>?_⟩
 have:=(o.mem i hi).2 (by rw [lk_zero.2 h];rfl)
 simpa using this
theorem Ord.olen {n:Nat} {bl:Nat->List Nat} {out rest ready:List Nat} {lack:List Int} (o:Ord n bl out rest ready lack):out.length+ready.length≤n:=by
 have:=nodup_len n _ o.nd o.lt
 rwa [List.length_append] at this
theorem Topo.none {n:Nat} {bl:Nat->List Nat} {out:List Nat} (t:Topo n bl out) (hl:out.length=n) {i:Nat} (hi:i<n):¬ Relation.TransGen (fun a b=>b∈bl a) i i:=by
 have hall:∀ x,x<n->x∈out:=by
  intro x hx
  refine Classical.byContradiction fun hn=>?_
  have:=nodup_len n (x::out) (List.nodup_cons.2 ⟨hn,t.nd⟩) fun y hy=>by
   rcases List.mem_cons.1 hy with rfl | hy
   ·exact hx
   ·exact t.lt y hy
  simp at this
  omega
 have step:∀ a b,a<n->b∈bl a->b<n/\out.idxOf b<out.idxOf a:=by
  intro a b ha hb
  have hao:=hall a ha
  have hlt:=List.idxOf_lt_length_of_mem hao
  have hat:out[out.idxOf a]=a:=List.getElem_idxOf hlt
  have:=t.topo _ hlt b (by rw [hat];exact hb)
  obtain ⟨k,hk,e⟩:=List.getElem_of_mem this
  rw [List.getElem_take] at e
  simp at hk
  refine ⟨t.lt b (by rw [<- e];exact List.getElem_mem _),?_⟩
  have h2:out.idxOf b≤k:=by
   subst e
   refine Classical.byContradiction fun hc=>?_
   have:=List.not_of_lt_findIdx (show k<out.findIdx (· == out[k]) by simpa [List.idxOf] using hc)
   simp at this
  omega
 have tr:∀ a b,Relation.TransGen (fun a b=>b∈bl a) a b->a<n->b<n/\out.idxOf b<out.idxOf a:=by
  intro a b h
  induction h with
  | single h=>exact fun ha=>step _ _ ha h
  | tail _ h ih=>exact fun ha=>⟨(step _ _ (ih ha).1 h).1,Nat.lt_trans (step _ _ (ih ha).1 h).2 (ih ha).2⟩
 intro h
 have:=(tr i i h hi).2
 omega
end Go.Hx
namespace Go.Hx
def cntF (s:List Bool):Nat:=s.countP fun b=>!b
theorem cntF_set:∀ {s:List Bool} {x:Nat},s[x]?=some false->cntF (s.set x true)+1=cntF s
 | [],x,h=>by simp at h
 | b::s,0,h=>by
  simp at h
  subst h
  simp [cntF]
 | b::s,x+1,h=>by
  have:=cntF_set (s:=s) (x:=x) (by simpa using h)
  simp only [cntF,List.set_cons_succ,List.countP_cons] at this ⊢
  omega
theorem cntF_le (s:List Bool):cntF s≤s.length:=List.countP_le_length
structure Srch (n:Nat) (bl:Nat->List Nat) (i:Nat) (seen:List Bool) (work:List Nat):Prop where
 len:seen.length=n
 lt:∀ x∈work,x<n
 rw_:∀ x∈work,Relation.TransGen (fun a b=>b∈bl a) i x
 rs:∀ x,seen[x]?=some true->Relation.TransGen (fun a b=>b∈bl a) i x
 c0:∀ y∈bl i,y∈work∨seen[y]?=some true
 cs:∀ x,seen[x]?=some true->∀ y∈bl x,y∈work∨seen[y]?=some true
 ni:seen[i]?≠some true
theorem Srch.start {n:Nat} {bl:Nat->List Nat} (hb:∀ i y,y∈bl i->y<n) (i:Nat):Srch n bl i (List.replicate n false) (bl i):=by
 have hf:∀ x,(List.replicate n false)[x]?≠some true:=fun x=>by rw [List.getElem?_replicate];split <;> simp
 exact ⟨by simp,fun x hx=>hb i x hx,fun x hx=>.single hx,fun x hx=>absurd hx (hf x),fun y hy=>.inl hy,fun x hx=>absurd hx (hf x),hf i⟩
theorem Srch.skip {n:Nat} {bl:Nat->List Nat} {i x:Nat} {seen:List Bool} {work:List Nat} (s:Srch n bl i seen (work++[x])) (hx:seen[x]?=some true):Srch n bl i seen work:=by
 have h:∀ y,y∈work++[x]∨seen[y]?=some true->y∈work∨seen[y]?=some true:=fun y hy=>by
  rcases hy with hy | hy
  ·rcases List.mem_append.1 hy with h | h
   ·exact .inl h
   ·simp at h;subst h;exact .inr hx
  ·exact .inr hy
 exact ⟨s.len,fun y hy=>s.lt y (List.mem_append_left _ hy),fun y hy=>s.rw_ y (List.mem_append_left _ hy),s.rs,fun y hy=>h y (s.c0 y hy),fun z hz y hy=>h y (s.cs z hz y hy),s.ni⟩
theorem Srch.look {n:Nat} {bl:Nat->List Nat} (hb:∀ i y,y∈bl i->y<n) {i x:Nat} {seen:List Bool} {work:List Nat} (s:Srch n bl i seen (work++[x])) (hxi:x≠i):Srch n bl i (seen.set x true) (work++bl x):=by
 have hr:=s.rw_ x (by simp)
 have hxn:=s.lt x (by simp)
 have up:∀ y,seen[y]?=some true->(seen.set x true)[y]?=some true:=fun y hy=>by
  by_cases hxy:x=y
  ·subst hxy;rw [List.getElem?_set_self (by rw [s.len];exact hxn)]
  ·rw [List.getElem?_set_ne hxy];exact hy
 have dn:∀ y,(seen.set x true)[y]?=some true->y=x∨seen[y]?=some true:=fun y hy=>by
  by_cases hxy:x=y
  ·exact .inl hxy.symm
  ·rw [List.getElem?_set_ne hxy] at hy;exact .inr hy
 have h:∀ y,y∈work++[x]∨seen[y]?=some true->y∈work++bl x∨(seen.set x true)[y]?=some true:=fun y hy=>by
  rcases hy with hy | hy
  ·rcases List.mem_append.1 hy with h | h
   ·exact .inl (List.mem_append_left _ h)
   ·simp at h;subst h;exact .inr (List.getElem?_set_self (by rw [s.len];exact hxn))
  ·exact .inr (up y hy)
 refine ⟨by rw [List.length_set];exact s.len,fun y hy=>?_,fun y hy=>?_,fun y hy=>?_,fun y hy=>h y (s.c0 y hy),fun z hz y hy=>?_,fun e=>?_⟩
 ·rcases List.mem_append.1 hy with h | h
  ·exact s.lt y (List.mem_append_left _ h)
  ·exact hb x y h
 ·rcases List.mem_append.1 hy with h | h
  ·exact s.rw_ y (List.mem_append_left _ h)
  ·exact .tail hr h
 ·rcases dn y hy with rfl | hy
  ·exact hr
  ·exact s.rs y hy
 ·rcases dn z hz with rfl | hz
  ·exact .inl (List.mem_append_right _ hy)
  ·exact h y (s.cs z hz y hy)
 ·rcases dn i e with e | e
  ·exact hxi e.symm
  ·exact s.ni e
theorem Srch.done {n:Nat} {bl:Nat->List Nat} {i:Nat} {seen:List Bool} (s:Srch n bl i seen []):¬ Relation.TransGen (fun a b=>b∈bl a) i i:=by
 have key:∀ y,Relation.TransGen (fun a b=>b∈bl a) i y->seen[y]?=some true:=by
  intro y h
  induction h with
  | single h=>exact (s.c0 _ h).resolve_left (by simp)
  | tail _ h ih=>exact (s.cs _ ih _ h).resolve_left (by simp)
 exact fun h=>s.ni (key i h)
open Classical in
theorem cyc_some {C:Circ} {B:List Mk} {i:Nat} (hi:i<C.ands.length) (h:Rnd C B i) (hn:∀ j,j<i->¬ Rnd C B j):cyc C B=some i:=by
 unfold cyc
 rw [List.find?_eq_some_iff_getElem]
 refine ⟨by simpa using h,i,by simpa using hi,by simp,fun j hj=>by simpa using hn j hj⟩
open Classical in
theorem cyc_none {C:Circ} {B:List Mk} (hn:∀ j,j<C.ands.length->¬ Rnd C B j):cyc C B=none:=by
 unfold cyc
 rw [List.find?_eq_none]
 intro x hx
 simpa using hn x (by simpa using hx)
end Go.Hx
