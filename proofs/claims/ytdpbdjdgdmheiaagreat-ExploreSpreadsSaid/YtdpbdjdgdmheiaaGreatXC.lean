/- Words and facts that the claim's proof leans on. No condition. -/
import Derived.Test.YtdpbdjdgdmheiaaGreatXA
import Derived.Test.YtdpbdjdgdmheiaaGreatSA
import Derived.Test.YtdpbdjdgdmheiaaGreatSE
import Derived.Test.YtdpbdjdgdmheiaaGreatCR
import Derived.Test.YtdpbdjdgdmheiaaGreatSQ
import Derived.Test.YtdpbdjdgdmheiaaGreatKEa
import Derived.Test.YtdpbdjdgdmheiaaGreatFA
set_option linter.unusedVariables false
set_option linter.unusedSimpArgs false
namespace Go.Hx
open Go.Proofs.YtdpbdjdgdmheiaaGreat
def bitsN (n size:Nat):List Bool:=(List.range size).map fun i=>n.testBit i
theorem bitsN_len {n size:Nat}:(bitsN n size).length=size:=by simp [bitsN]
theorem bitsN_at {n size i:Nat} (h:i<size):(bitsN n size)[i]?=some (n.testBit i):=by simp [bitsN,h]
def numN:List Bool->Nat
 | []=>0
 | b::l=>b.toNat+2*numN l
theorem numN_lt:∀ {l:List Bool},numN l<2 ^ l.length
 | []=>by simp [numN]
 | b::l=>by
  have:=numN_lt (l:=l)
  have hb:b.toNat≤1:=Bool.toNat_le b
  rw [numN,List.length_cons,Nat.pow_succ]
  omega
theorem numN_snoc:∀ {l:List Bool} {b:Bool},numN (l++[b])=numN l+b.toNat*2 ^ l.length
 | [],b=>by simp [numN]
 | c::l,b=>by
  rw [List.cons_append,numN,numN,numN_snoc,List.length_cons,Nat.pow_succ,Nat.mul_add,Nat.add_assoc]
  congr 2
  rw [Nat.mul_comm (2 ^ l.length) 2,Nat.mul_left_comm]
noncomputable def wvals (C:Circ) (s r:Nat):List Bool:=valsOf C (bitsN s C.lats.length) (bitsN r C.ins.length)
noncomputable def warc (C:Circ) (s r:Nat):Option Arc:=if C.cons.all (lit (wvals C s r))=true then some ⟨r,numN (nextL C (wvals C s r)),wvals C s r⟩ else none
noncomputable def warcs (C:Circ) (s n:Nat):List Arc:=(List.range n).filterMap (warc C s)
def wst (C:Circ) (s:Nat):Bool:=(iniF C.lats (bitsN s C.lats.length) 0).isNone
noncomputable def wdC (C:Circ):Wd:=⟨2 ^ C.lats.length,fun s=>warcs C s (2 ^ C.ins.length),(List.range (2 ^ C.lats.length)).filter (wst C)⟩
theorem warcs_succ {C:Circ} {s n:Nat}:warcs C s (n+1)=warcs C s n++(warc C s n).toList:=by
 unfold warcs
 rw [List.range_succ,List.filterMap_append]
 cases h:warc C s n <;> simp [h]
theorem warcs_len {C:Circ} {s n:Nat}:(warcs C s n).length≤n:=by
 unfold warcs
 have:=List.length_filterMap_le (warc C s) (List.range n)
 simpa using this
theorem mem_warcs {C:Circ} {s n:Nat} {a:Arc}:a∈warcs C s n↔∃ r,r<n/\warc C s r=some a:=by
 unfold warcs
 rw [List.mem_filterMap]
 simp only [List.mem_range]
theorem warc_some {C:Circ} {s r:Nat} {a:Arc} (h:warc C s r=some a):C.cons.all (lit (wvals C s r))=true/\a=⟨r,numN (nextL C (wvals C s r)),wvals C s r⟩:=by
 unfold warc at h
 split at h
 ·rename_i hc;exact ⟨hc,(Option.some.inj h).symm⟩
 ·cases h
theorem wd_ok (C:Circ):(wdC C).Ok:=by
 refine ⟨fun s a ha=>?_,fun s hs=>?_,?_⟩
 ·obtain ⟨r,_,h⟩:=mem_warcs.1 ha
  obtain ⟨_,rfl⟩:=warc_some h
  show numN (nextL C (wvals C s r))<2 ^ C.lats.length
  have:=numN_lt (l:=nextL C (wvals C s r))
  rwa [show (nextL C (wvals C s r)).length=C.lats.length by simp [nextL]] at this
 ·have:=(List.mem_filter.1 hs).1
  exact List.mem_range.1 this
 ·exact List.nodup_range.sublist (List.filter_sublist)
end Go.Hx
namespace Go.Hx
theorem bit64 {n i:Nat} (hn:n<18446744073709551616) (hi:i<64):bop .and .u64 ((n:Int) / 2 ^ min (Int.toNat (i:Int)) (IntKind.bits .u64)) 1=((n.testBit i).toNat:Int):=by
 have e:(n:Int) / 2 ^ min (Int.toNat (i:Int)) (IntKind.bits .u64)=((n / 2 ^ i:Nat):Int):=by
  rw [Int.toNat_natCast,show IntKind.bits .u64=64 from rfl,Nat.min_eq_left (by omega)]
  simp
 rw [e]
 have h2:n / 2 ^ i<18446744073709551616:=Nat.lt_of_le_of_lt (Nat.div_le_self _ _) hn
 rw [show (1:Int)=((1:Nat):Int) from rfl,and64 _ _ h2 (by omega),Nat.and_one_is_mod,Nat.testBit_eq_decide_div_mod_eq]
 have:n / 2 ^ i % 2<2:=Nat.mod_lt _ (by omega)
 rcases Nat.lt_or_ge (n / 2 ^ i % 2) 1 with h | h
 ·rw [show n / 2 ^ i % 2=0 by omega];rfl
 ·rw [show n / 2 ^ i % 2=1 by omega];rfl
theorem pow64 {L:Nat} (h:L≤62):IntKind.wrap .i64 (1*2 ^ min (Int.toNat (L:Int)) (IntKind.bits .i64))=((2 ^ L:Nat):Int):=by
 have h2:2 ^ L≤4611686018427387904:=by
  have:=Nat.pow_le_pow_right (n:=2) (by omega) h
  exact Nat.le_trans this (by decide)
 rw [Int.toNat_natCast,show IntKind.bits .i64=64 from rfl,Nat.min_eq_left (by omega),Int.one_mul,show ((2:Int) ^ L)=((2 ^ L:Nat):Int) by simp]
 generalize 2 ^ L=m at h2 ⊢
 rw [w64 (by omega) (by omega)]
theorem powu64 {L:Nat} (h:L≤62):IntKind.wrap .u64 (1*2 ^ min (Int.toNat (L:Int)) (IntKind.bits .u64))=((2 ^ L:Nat):Int):=by
 have h2:2 ^ L≤4611686018427387904:=by
  have:=Nat.pow_le_pow_right (n:=2) (by omega) h
  exact Nat.le_trans this (by decide)
 rw [Int.toNat_natCast,show IntKind.bits .u64=64 from rfl,Nat.min_eq_left (by omega),Int.one_mul,show ((2:Int) ^ L)=((2 ^ L:Nat):Int) by simp,wr_u64]
 generalize 2 ^ L=m at h2 ⊢
 omega
theorem replF_set {α:Type} {l:List α} {i n:Nat} {z:α} (hi:i<n) (hl:l.length=n):(l.take i++List.replicate (n-i) z).set i (l[i]'(by omega))=l.take (i+1)++List.replicate (n-(i+1)) z:=by
 rw [List.set_append_right _ _ (by simp;omega),show i-(l.take i).length=0 by simp;omega,show n-i=(n-(i+1))+1 by omega,List.replicate_succ,List.set_cons_zero,List.take_succ_eq_append_getElem (by omega),List.append_assoc]
 rfl
theorem ReadL.app {h:Heap} {a:Addr} {vs ws:List Value} (r:ReadL h (some a) vs) (s:ReadL h (some (a.add vs.length)) ws):ReadL h (some a) (vs++ws):=fun i v hv=>by
 by_cases hi:i<vs.length
 ·exact r i v (by rwa [List.getElem?_append_left hi] at hv)
 ·rw [List.getElem?_append_right (by omega)] at hv
  have:=s _ v hv
  rwa [Addr.add_add,show vs.length+(i-vs.length)=i by omega] at this
end Go.Hx
namespace Go.Proofs.YtdpbdjdgdmheiaaGreat
open Go.Hx Go.Deep
theorem c88 {h:Heap} {n size:Nat} (hn:n<18446744073709551616) (hs:size≤64):CallsH Tryz.prog 88 #[.int .u64 (n:Int),.int .i64 (size:Int)] h fun w h'=>∃ ad,w=.slice (some ad) size size/\Fr h 1 h' (some ad) size size (bools (bitsN n size)):=by
 refine run88 n size _ h ⟨by omega,Int.le_refl _,by omega,?_⟩
 intro h1
 have f1:Fr h 1 h1 (some ⟨h.size,0,none⟩) size size (bools (List.replicate size false)):=by
  rw [bools,List.map_replicate]
  exact Fr.zeros (h:=h) (.bool false) 4 size
 refine LoopT.to (n:=size) (by omega) (fun i h'=>Fr h 1 h' (some ⟨h.size,0,none⟩) size size (bools ((bitsN n size).take i++List.replicate (size-i) false))) (by simpa using f1) ?_
 rintro i h2 K hi f hK
 refine ⟨fun hlt=>?_,fun hlt=>?_⟩
 ·have hlt:(i:Int)<(size:Nat):=hlt
  have hi':i<size:=by omega
  unfold J88_1
  have hbit:(bitsN n size)[i]'(by rw [bitsN_len];exact hi')=n.testBit i:=by
   have:=bitsN_at (n:=n) hi'
   rw [List.getElem?_eq_getElem (by rw [bitsN_len];exact hi')] at this
   exact Option.some.inj this
  have fin:∀ b,b=n.testBit i->(0:Int)≤i/\(i:Int)<(Int.toNat (size:Int):Nat)/\StoreH h2 (Addr.add ⟨h.size,0,none⟩ (Int.toNat (i:Int)*1)) [.bool b] fun h_3=>K (IntKind.wrap .i64 ((i:Int)+1)) h_3:=fun b hb=>by
   refine ⟨by omega,by omega,f.at1 (j:=(i:Int)) (by omega) (by omega) rfl fun h3 u3 f3=>hK h3 hi' ?_⟩
   rw [Int.toNat_natCast,bools,show Value.bool b=Value.bool ((bitsN n size)[i]'(by rw [bitsN_len];exact hi')) by rw [hbit,hb],<- List.map_set,replF_set hi' bitsN_len] at f3
   exact f3
  refine ⟨by omega,?_⟩
  rw [bit64 hn (by omega)]
  exact ⟨fun h1=>fin true (by cases hb:n.testBit i with | true=>rfl | false=>rw [hb] at h1;simp at h1),fun h1=>fin false (by cases hb:n.testBit i with | false=>rfl | true=>rw [hb] at h1;simp at h1)⟩
 ·have hlt:¬ (i:Int)<(size:Nat):=hlt
  obtain rfl:i=size:=by omega
  rw [List.take_of_length_le (by rw [bitsN_len];omega),Nat.sub_self,List.replicate_zero,List.append_nil] at f
  exact ⟨_,rfl,f⟩
theorem c92 {h:Heap} {a:Option Addr} {n c:Nat} {V:List Bool} (r:Rd h a n (bools V)) {l:Int} (h0:0≤l) (h1:l≤9223372036854775807) (hl:(l / 2).toNat<n):CallsH Tryz.prog 92 #[.slice a n c,.int .i64 l] h (Ret (.bool (lit V l)) h):=by
 refine run92 a n c l _ h ?_
 unfold VC92
 rw [half,and_one h0 h1]
 refine ⟨by omega,by omega,r.geti (j:=l / 2) (by omega) (by omega) fun ad hl2 hc=>⟨_,hc,?_⟩⟩
 have e:lit V l=(V[(l / 2).toNat] != decide (l % 2=1)):=by unfold lit;rw [List.getD_eq_getElem?_getD,List.getElem?_eq_getElem hl2];rfl
 rw [e]
 exact ⟨fun h1=>⟨fun h2=>⟨lt1 h1 h2,rfl⟩,fun h2=>⟨lt2 h1 h2,rfl⟩⟩,fun h1=>⟨fun h2=>⟨lt3 h1 h2,rfl⟩,fun h2=>⟨lt4 h1 h2,rfl⟩⟩⟩
theorem ok91:callOk Tryz.prog 91=true:=by kernel_rfl
section
variable {h h0:Heap} {v:CV} {C:Circ} {k:Addr} {out:List Nat} {V:List Bool} {a:Option Addr} {n c:Nat}
theorem c91 {ad:Addr} (hb:cellH h ad=some (.slice a n c)) (r:Rd h a n (bools V)) {l:Int} (h0:0≤l) (h1:l≤9223372036854775807) (hl:(l / 2).toNat<n):CallsH Tryz.prog 91 #[.int .i64 l,.pointer (some ad)] h (Ret (.bool (!lit V l)) h):=
 run91 l (some ad) _ h (AtP.mk rfl ⟨_,_,_,hb,use (c92 r h0 h1 hl) ⟨_,rfl,rfl,rfl⟩⟩)
theorem c90x {ad:Addr} (hb:cellH h ad=some (.slice a n c)) (r:Rd h a n (bools V)) {la:Option Addr} {ln lc:Nat} {l:List Int} (rl:Rd h la ln (ints l)) (hln:ln<9223372036854775807) (hl:∀ x∈l,0≤x/\x≤9223372036854775807/\(x / 2).toNat<n) :
  CallsH Tryz.prog 90 #[.slice la ln lc,.func (.func 91) #[] #[.pointer (some ad)]] h (Ret (.bool (!l.all (lit V))) h):=by
 have hll:=rl.ilen
 have key:CallsH Tryz.prog 130 #[.slice la ln lc,.func (.func 91) #[] #[.pointer (some ad)]] h fun w h'=>h'=h/\∃ z:Int,w=.int .i64 z/\(0≤z↔l.all (lit V)=false):=by
  refine run130 la ln lc _ _ h (LoopT.to (n:=ln) hln (fun i h'=>h'=h/\∀ x∈l.take i,lit V x=true) ⟨rfl,by simp⟩ ?_)
  rintro i _ K hi ⟨rfl,hI⟩ hK
  refine ⟨fun hlt=>⟨by omega,hlt,rl.getn (i:=i) (by omega) fun ad2 hl1 hc=>⟨_,hc,?_⟩⟩,fun hlt=>⟨rfl,_,rfl,?_⟩⟩
  ·obtain ⟨k1,k2,k3⟩:=hl _ (List.getElem_mem hl1)
   refine CallV.clo ok91 (use (c91 hb r k1 k2 k3) ⟨_,rfl,?_⟩)
   cases hx:lit V l[i] with
   | true=>exact BIf.f (hK _ (by omega) ⟨rfl,fun x hx'=>by
     rw [List.take_succ_eq_append_getElem hl1,List.mem_append,List.mem_singleton] at hx'
     rcases hx' with hx' | rfl
     ·exact hI x hx'
     ·exact hx⟩)
   | false=>exact BIf.t ⟨rfl,_,rfl,iff_of_true (by omega) (by
     rw [List.all_eq_false]
     exact ⟨_,List.getElem_mem hl1,by rw [hx];simp⟩)⟩
  ·rw [List.take_of_length_le (by omega)] at hI
   refine iff_of_false (by omega) ?_
   rw [Bool.not_eq_false,List.all_eq_true]
   exact hI
 refine run90 la ln lc _ _ h (key.mono ?_)
 rintro _ _ ⟨rfl,z,rfl,hz⟩
 refine ⟨z,rfl,fun h0=>⟨by rw [hz.1 h0];rfl,rfl⟩,fun h0=>⟨?_,rfl⟩⟩
 cases hb:l.all (lit V) with
 | true=>rfl
 | false=>exact absurd (hz.2 hb) h0
noncomputable def fewE (C:Circ):Int:=if (chk C).2≠0 then (chk C).2 else if 8<C.lats.length∨6<C.ins.length∨1024<C.ands.length then 6 else 0
theorem fewE_0 {C:Circ} (h:fewE C=0):(chk C).2=0/\C.lats.length≤8/\C.ins.length≤6:=by
 unfold fewE at h
 split at h
 ·rename_i h1;exact absurd h h1
 ·rename_i h1
  split at h
  ·simp at h
  ·exact ⟨Decidable.not_not.1 h1,by omega,by omega⟩
theorem c87 (r:CIs h v C) (ok:C.Ok):CallsH Tryz.prog 87 #[v.v] h (Xt (.int .i64 (fewE C)) h):=by
 have q1:=r.len.i
 have q2:=r.len.l
 have q8:=r.len.g
 refine run87 v _ h ?_
 unfold VC87
 intro h1
 have e1:Ext h h1:=Ext.box h _
 have hb:Rd h1 (some ⟨h.size,0,none⟩) 11 v.cs:=boxC v 29
 refine ldC hb (useX (c114 (r.ext e1) ok) fun h2 e2=>⟨_,_,rfl,fun hz=>?_,fun hz=>⟨by unfold fewE;rw [if_pos hz],e1.trans e2⟩⟩)
 have hb2:=hb.ext e2
 have six:(8<C.lats.length∨6<C.ins.length∨1024<C.ands.length)->Xt (.int .i64 (fewE C)) h (.int .i64 6) h2:=fun hx=>⟨by unfold fewE;rw [if_neg (by simp [hz]),if_pos hx],e1.trans e2⟩
 unfold J87_0
 refine ⟨_,_,_,hb2.fld 2 rfl,fun h1=>six (by omega),fun n1=>⟨_,_,_,hb2.fld 1 rfl,fun h1=>six (by omega),fun n2=>⟨_,_,_,hb2.fld 8 rfl,fun h1=>six (by omega),fun n3=>⟨?_,e1.trans e2⟩⟩⟩⟩
 unfold fewE
 rw [if_neg (by simp [hz]),if_neg (by omega)]
end
end Go.Proofs.YtdpbdjdgdmheiaaGreat
namespace Go.Hx
open Go.Proofs.YtdpbdjdgdmheiaaGreat
theorem LoopT.tou {B:Int->Heap->(Int->Heap->Prop)->Prop} {n:Nat} {h:Heap} (hn:n<18446744073709551615) (I:Nat->Heap->Prop) (h0:I 0 h)
  (hs:∀ (i:Nat) (h':Heap) (K:Int->Heap->Prop),i≤n->I i h'->(∀ h'',i<n->I (i+1) h''->K (IntKind.wrap .u64 ((i:Int)+1)) h'')->B i h' K):LoopT B 0 h:=by
 refine ⟨fun t h' m=>∃ i:Nat,t=i/\i≤n/\m=n-i/\I i h',⟨n,0,rfl,Nat.zero_le _,rfl,h0⟩,?_⟩
 rintro t h' m ⟨i,rfl,hi,rfl,hI⟩
 refine hs i h' _ hi hI fun h'' hlt hI'=>?_
 exact ⟨n-(i+1),by omega,i+1,by rw [wr_u64];omega,by omega,rfl,hI'⟩
theorem Zone.of_hasL {S:Nat->Prop} {h:Heap} {x:Addr} (hx:S x.block):Zone.hasL (Zone.of S) h x:=fun h' z=>cellH_congr (z _ hx)
theorem Upd.zone {S Q:Nat->Prop} {h h':Heap} (u:Upd Q h h') (hS:∀ b,S b->b<h.size/\¬ Q b):(Zone.of S).r h h':=fun b hb=>u.2 b (hS b hb).1 (hS b hb).2
structure AW where
 row:Nat
 nx:Nat
 sl:Sl
 vl:List Bool
def AW.cs (x:AW):List Value:=[.int .i64 (x.row:Int),.int .u64 (x.nx:Int),.slice x.sl.a x.sl.n x.sl.c]
def AW.arc (x:AW):Arc:=⟨x.row,x.nx,x.vl⟩
def AW.it (x:AW):Itm:=⟨1,x.sl.a,x.sl.n,x.sl.c,bools x.vl⟩
theorem AW.csl (x:AW):x.cs.length=3:=rfl
theorem AW.one {l:List AW}:∀ y∈l.flatMap AW.cs,y.oneCell'=true:=by
 intro y hy
 obtain ⟨x,_,hx⟩:=List.mem_flatMap.1 hy
 simp only [AW.cs,List.mem_cons,List.not_mem_nil,or_false] at hx
 rcases hx with rfl | rfl | rfl <;> rfl
def ArcsIs (h:Heap) (s:Sl) (L:List Arc):Prop:=∃ vs:List AW,Rd h s.a (s.n*3) (vs.flatMap AW.cs)/\vs.map AW.arc=L/\∀ v∈vs,Rd h v.sl.a v.sl.n (bools v.vl)
theorem ArcsIs.ext {h h':Heap} {s:Sl} {L:List Arc} (r:ArcsIs h s L) (u:Ext h h'):ArcsIs h' s L:=let ⟨vs,h1,h2,h3⟩:=r;⟨vs,h1.ext u,h2,fun v hv=>(h3 v hv).ext u⟩
theorem ArcsIs.len {h:Heap} {s:Sl} {L:List Arc} (r:ArcsIs h s L):s.n=L.length:=by
 obtain ⟨vs,h1,h2,h3⟩:=r
 have:=h1.elen AW.csl (by omega)
 rw [<- h2,List.length_map,this]
abbrev ukey (n:Nat):Value:=.agg #[.int .u64 (n:Int)]
theorem ukr:KeyR (.flat [.int .u64]) ukey:=KeyR.one .u64
structure WIs (h:Heap) (k:Addr) (C:Circ):Prop where
 few:fewE C=0
 ex:∃ (v:CV) (b:Nat) (M:List (Nat×Sl)),Rd h (some k) 12 (v.cs++[.map (some b)])/\CIs h v C/\MapIs ukey Sl.v h b M/\(∀ s sl,atM M s=some sl->ArcsIs h sl ((wdC C).arcs s))/\∀ s,s<2 ^ C.lats.length->atM M s=none->(wdC C).arcs s=[]
theorem WIs.ext {h h':Heap} {k:Addr} {C:Circ} (w:WIs h k C) (u:Ext h h'):WIs h' k C:=
 ⟨w.few,let ⟨v,b,M,h1,h2,h3,h4,h5⟩:=w.ex;⟨v,b,M,h1.ext u,h2.ext u,h3.ext u,fun s sl hs=>(h4 s sl hs).ext u,h5⟩⟩
theorem putM_snoc {α β:Type} [DecidableEq α] {l:List (α×β)} {x:α} {u v:β} (h:∀ p∈l,p.1≠x):putM (l++[(x,u)]) x v=l++[(x,v)]:=by
 induction l with
 | nil=>simp [putM]
 | cons p l ih=>
  rw [List.cons_append,putM,if_neg (h p (List.mem_cons_self ..)),ih fun q hq=>h q (List.mem_cons_of_mem _ hq)]
  rfl
theorem arcs_far {h2 h:Heap} {sl:Sl} {vs:List AW} {p:Nat} (m:Mem h2 h (⟨3,sl.a,sl.n,sl.c,vs.flatMap AW.cs⟩::vs.map AW.it)) (hp:∀ t∈((⟨3,sl.a,sl.n,sl.c,vs.flatMap AW.cs⟩:Itm)::vs.map AW.it),∀ ad,t.a=some ad->p≤ad.block) :
  Far h p h.size fun h'=>ArcsIs h' sl (vs.map AW.arc):=fun S h' u hS=>by
 have key:∀ t∈((⟨3,sl.a,sl.n,sl.c,vs.flatMap AW.cs⟩:Itm)::vs.map AW.it),Rd h' t.a (t.n*t.sz) t.vs:=fun t ht=>(m.fr t ht).own.rd.upd u fun ad ha hQ=>hS _ (hp t ht ad ha) (m.lt ht ha) hQ
 exact ⟨vs,key _ (List.mem_cons_self ..),rfl,fun v hv=>Rd.one (key v.it (List.mem_cons_of_mem _ (List.mem_map.2 ⟨v,hv,rfl⟩)))⟩
end Go.Hx
namespace Go.Proofs.YtdpbdjdgdmheiaaGreat
open Go.Hx Go.Deep
section
variable {h:Heap} {v:CV} {C:Circ}
theorem m_next {h20:Heap} {b:Nat} {va:Option Addr} {vn vc:Nat} {V:List Bool} (hb:cellH h20 (Addr.mk b 0 none)=some (.slice va vn vc)) (rv:Rd h20 va vn (bools V)) {la:Option Addr} {ln:Nat} (rl:Rd h20 la (ln*3) (C.lats.flatMap L3.cs)) (hl:C.lats.length≤8)
  (hx:∀ x∈C.lats,0≤x.b/\x.b≤40000/\(x.b / 2).toNat<vn) {h_3:Heap} {t3 t4:Int} {next_1:Int->Heap->Prop}
  (hR:∀ h',Ext h20 h'->J42_8 h_3 t3 t4 next_1 b ((numN (nextL C V):Nat):Int) h') :
  LoopT (σ:=Int×Int) (fun st_ h_st nx_st=>B42_11 Tryz.prog h_3 t3 t4 next_1 b la ln (st_.1) (st_.2) h_st nx_st) (0,0) h20:=by
 have hln:C.lats.length=ln:=rl.elen L3.csl (by omega)
 refine LoopT.to2 (n:=C.lats.length) (by omega) (fun i x h'=>x=((numN ((nextL C V).take i):Nat):Int)/\Ext h20 h') ⟨rfl,.refl _⟩ ?_
 rintro i _ h' K hi ⟨rfl,e⟩ hK
 refine ⟨fun hlt=>?_,fun hlt=>?_⟩
 ·have hlt:(i:Int)<(ln:Nat):=hlt
  have hi':i<C.lats.length:=by omega
  unfold J42_9
  refine ⟨by omega,hlt,(rl.ext e).elem L3.csl (by omega) (i:=i) (by omega) fun ad hl1 re=>⟨_,_,_,re.cells,?_⟩⟩
  refine box3 C.lats[i] fun h2 e2 b2=>?_
  have e02:=e.trans e2
  obtain ⟨x1,x2,x3⟩:=hx _ (List.getElem_mem hl1)
  refine ⟨_,_,_,Ext.cell e02 hb,_,b2.fld 1 rfl,use (c92 (rv.ext e02) x1 (by omega) x3) ⟨_,rfl,?_⟩⟩
  have htk:(nextL C V).take (i+1)=(nextL C V).take i++[lit V C.lats[i].b]:=by
   rw [List.take_succ_eq_append_getElem (by simp [nextL];omega)]
   simp [nextL]
  have hlen:((nextL C V).take i).length=i:=by simp [nextL];omega
  have hnum:numN ((nextL C V).take (i+1))=numN ((nextL C V).take i)+(lit V C.lats[i].b).toNat*2 ^ i:=by rw [htk,numN_snoc,hlen]
  cases hlv:lit V C.lats[i].b with
  | true=>
   refine BIf.t ⟨by omega,hK _ _ hi' ⟨?_,e02⟩⟩
   rw [hnum,hlv,powu64 (by omega)]
   have hlt2:=numN_lt (l:=(nextL C V).take i)
   rw [hlen] at hlt2
   have h256:2 ^ i≤256:=Nat.pow_le_pow_right (n:=2) (by omega) (show i≤8 by omega)
   rw [or64 _ _ (by omega) (by omega)]
   have:=Nat.two_pow_add_eq_or_of_lt hlt2 1
   rw [Nat.mul_one] at this
   rw [Nat.or_comm,<- this,Bool.toNat_true,Nat.one_mul,Nat.add_comm]
  | false=>
   refine BIf.f (hK _ _ hi' ⟨?_,e02⟩)
   rw [hnum,hlv,Bool.toNat_false,Nat.zero_mul,Nat.add_zero]
 ·obtain rfl:i=C.lats.length:=by omega
  have:=hR h' e
  rw [List.take_of_length_le (by simp [nextL])]
  exact this
def MadeW (C:Circ) (h:Heap) (w:Value) (h':Heap):Prop:=Ext h h'/\((fewE C=0/\∃ k,w=.tuple #[.pointer (some k),.int .i64 0]/\WIs h' k C)∨(fewE C≠0/\w=.tuple #[.pointer none,.int .i64 (fewE C)]))
theorem m_row (hz:(chk C).2=0) (ok:C.Ok) (hL:C.lats.length≤8) (hI:C.ins.length≤6) {R:Value->Heap->Prop} {hA h2 h4 hs h9:Heap} {b0:Nat} {s i:Nat} (hsl:s<2 ^ C.lats.length) (hi:i<2 ^ C.ins.length) {sa:Option Addr} {sn sc:Nat} {next_1:Int->Heap->Prop}
  (hb:Rd h9 (some ⟨hA.size,0,none⟩) 11 v.cs) (r:CIs h9 v C) (rs:Rd h9 sa sn (bools (bitsN s C.lats.length))) (hk:cellH h9 ((Addr.mk h4.size 0 none).add 11)=some (.map (some b0))) (hk0:h4.size<hs.size) (hb0:b0<hs.size) (hbk:h4.size≠b0)
  {M0:List (Nat×Sl)} (hM0:∀ p∈M0,p.1≠s) {sl:Sl} {vs:List AW} (m:Mem h2 h9 (⟨3,sl.a,sl.n,sl.c,vs.flatMap AW.cs⟩::vs.map AW.it)) (hp:∀ t∈((⟨3,sl.a,sl.n,sl.c,vs.flatMap AW.cs⟩:Itm)::vs.map AW.it),∀ ad,t.a=some ad->hs.size≤ad.block) (h29:hs.size≤h9.size) (h2b:h2.size≤b0)
  (hvs:vs.map AW.arc=warcs C s i) (he:vs=[]->sl=⟨none,0,0⟩) (mp:MapIs ukey Sl.v h9 b0 (if vs=[] then M0 else M0++[(s,sl)]))
  (hK:∀ h' sl' vs',Upd (fun x=>x=b0∨hs.size≤x) h9 h'->Mem h2 h' (⟨3,sl'.a,sl'.n,sl'.c,vs'.flatMap AW.cs⟩::vs'.map AW.it)->(∀ t∈((⟨3,sl'.a,sl'.n,sl'.c,vs'.flatMap AW.cs⟩:Itm)::vs'.map AW.it),∀ ad,t.a=some ad->hs.size≤ad.block) ->
   vs'.map AW.arc=warcs C s (i+1)->(vs'=[]->sl'=⟨none,0,0⟩)->MapIs ukey Sl.v h' b0 (if vs'=[] then M0 else M0++[(s,sl')])->next_1 (IntKind.wrap .i64 ((i:Int)+1)) h') :
  J42_4 Tryz.prog R hA h4 (s:Int) sa sn sc (i:Int) next_1 h9:=by
 obtain ⟨q1,q2,q3,q4,q5,q6,q7,q8,q9,q10⟩:=r.len
 have hmx:=r.mx
 obtain ⟨⟨m0,m1⟩,_⟩:=chk_bounds hz
 obtain ⟨l1,_,_,l4,_⟩:=good_lits hz
 have hi64:2 ^ C.ins.length≤64:=Nat.pow_le_pow_right (n:=2) (by omega) hI
 have hbl:(Addr.mk hA.size 0 none).block<h9.size:=by have:=cellH_lt (hb.fld 0 rfl);rwa [add_block] at this
 unfold J42_4
 have mu:=MemU.start (Mem.nil (.refl h9))
 refine ⟨by rw [add_block];exact hbl,_,_,_,hb.fld 1 rfl,fun U h10 g=>?_⟩
 have mu0:=mu.grow g
 rw [show IntKind.wrap .u64 (i:Int)=(i:Int) by rw [wr_u64];omega,<- q1]
 refine (c88 (n:=i) (size:=C.ins.length) (by omega) (by omega)).mono ?_
 rintro _ h11 ⟨rad,rfl,f11⟩
 obtain ⟨k11,mu1⟩:=mu0.add1 (t:=⟨1,some rad,C.ins.length,C.ins.length,bools (bitsN i C.ins.length)⟩) f11
 have e11:Ext h9 h11:=mu1.mem.ext
 refine ⟨_,_,_,rfl,k11,hbl,ldC (hb.ext e11) fun U1 h12 g1=>?_⟩
 have mu2:=mu1.grow g1
 have e12:Ext h9 h12:=mu2.mem.ext
 refine (c89n (r.ext e12) ok (rs.ext e12) ((mu2.mem.get 0 rfl).rd)).mono ?_
 have hok:StepOk C (bitsN s C.lats.length) (bitsN i C.ins.length):=⟨hz,bitsN_len,bitsN_len⟩
 rintro _ h13 ⟨e13,⟨_,va,vc,rfl,fv⟩ | ⟨hno,_⟩⟩
 rotate_left
 ·exact absurd hok hno
 obtain ⟨k13,mu3⟩:=mu2.add1 (t:=⟨1,va,(C.mx+1).toNat,vc,bools (wvals C s i)⟩) fv
 refine ⟨_,_,_,_,rfl,k13,fun U2 h14 bx g2 hU ho U3 h15 g3=>?_⟩
 have mu4:=mu3.grow g2
 have hbx:=mu4.lt bx hU
 have mu5:=(mu4.take hU hbx.1 (t:=⟨1,some ⟨bx,0,none⟩,1,1,[.slice none 0 0]⟩) ⟨Own.row ho rfl,(fun ad ha=>by cases ha;exact hbx.1),mu4.mem.ext⟩ fun ad ha=>by cases ha;rfl).grow g3
 refine (mu5.mem.get 0 rfl).put (ws:=[.slice va (C.mx+1).toNat vc]) rfl (by simp [Value.oneCell']) fun h16 f16 u16=>⟨u16.1,?_⟩
 have m16:=mu5.mem.setAt 0 (t':=⟨1,some ⟨bx,0,none⟩,1,1,[.slice va (C.mx+1).toNat vc]⟩) rfl f16 u16 (.inl rfl)
 have e16:Ext h9 h16:=m16.ext
 refine ⟨fun _=>?_,fun hh=>absurd rfl hh⟩
 have hbx16:cellH h16 ⟨bx,0,none⟩=some (.slice va (C.mx+1).toNat vc):=by
  have:=(m16.get 0 rfl).rd.fld 0 rfl
  rwa [addr_add0] at this
 have rv:Rd h16 va (C.mx+1).toNat (bools (wvals C s i)):=(m16.get 1 rfl).rd
 unfold J42_6
 refine ⟨_,_,_,(hb.ext e16).fld 5 rfl,use (c90x hbx16 rv (r.ext e16).c (by omega) fun x hx=>?_) ⟨_,rfl,?_⟩⟩
 ·have:=l4 x hx;omega
 have z9:h9.size≤h16.size:=e16.1
 have mall:=(m.app m16)
 cases hall:C.cons.all (lit (wvals C s i)) with
 | false=>
  refine BIf.t ?_
  unfold J42_5
  have hw:warcs C s (i+1)=warcs C s i:=by rw [warcs_succ,warc,if_neg (by simp [hall])];simp
  exact hK h16 sl vs (Upd.wide e16) (m.ext' e16) hp (by rw [hw];exact hvs) he (mp.ext e16)
 | true=>
  refine BIf.f ?_
  unfold J42_7
  refine ⟨_,_,_,(hb.ext e16).fld 2 rfl,m_next (C:=C) (V:=wvals C s i) hbx16 rv (r.ext e16).l hL (fun x hx=>?_) fun h26 e26=>?_⟩
  ·have:=l1 x hx;omega
  have hw:warcs C s (i+1)=warcs C s i++[⟨i,numN (nextL C (wvals C s i)),wvals C s i⟩]:=by rw [warcs_succ,warc,if_pos hall];rfl
  have e926:=e16.trans e26
  have m26:=mall.ext' e26
  have mp26:=mp.ext e926
  unfold J42_8
  let S:Nat->Prop:=fun x=>x<h26.size/\¬ atb sl.a x
  have hSb:∀ {x:Nat},x<hs.size->S x:=fun {x} hx=>⟨by have:=e926.1;omega,fun ⟨ad,ha,e⟩=>by have:=hp _ (List.mem_cons_self ..) ad ha;omega⟩
  have hSx:S bx:=⟨by have:=cellH_lt (Ext.cell e26 hbx16);exact this,fun ⟨ad,ha,e⟩=>by
   have h1:=m.lt (List.mem_cons_self ..) ha
   have h2:=(m16.get 0 rfl).new ⟨bx,0,none⟩ rfl
   simp only at h2
   omega⟩
  have hk26:=Ext.cell e926 hk
  have hkS:Zone.hasL (Zone.of S) h26 ((Addr.mk h4.size 0 none).add 11):=Zone.of_hasL (by rw [add_block];exact hSb hk0)
  refine ⟨Zone.of S,hkS,_,hk26,hkS,_,hk26,?_⟩
  show ∃ _,_
  refine ⟨sl.a,sl.n,sl.c,fun h' hz'=>?_,Zone.of_hasL hSx,_,_,_,Ext.cell e26 hbx16,?_⟩
  ·
   have mp':MapIs ukey Sl.v h' b0 (if vs=[] then M0 else M0++[(s,sl)]):=by
    obtain ⟨es,c,h1,o⟩:=mp26
    exact ⟨es,c,by rw [hz' b0 (hSb hb0)];exact h1,o⟩
   refine (mp'.lookAs ukr s (.slice none 0 0) _).2 ?_
   by_cases hv:vs=[]
   ·rw [if_pos hv,atM_none hM0,he hv]
   ·rw [if_neg hv,atM_snoc (atM_none hM0),if_pos rfl]
    rfl
  intro h30
  have e30:Ext h26 h30:=Ext.push h26 _
  let aw:AW:=⟨i,numN (nextL C (wvals C s i)),⟨va,(C.mx+1).toNat,vc⟩,wvals C s i⟩
  have r30:Rd h30 (some ⟨h26.size,0,none⟩) 3 aw.cs:=(Fr.lit (.refl h26) aw.cs 148 3 rfl).rd
  have m30:=m26.ext' e30
  have hvn:sl.n=vs.length:=by have:=(m.get 0 rfl).own.rd.elen AW.csl (by omega);omega
  have hvl:vs.length≤i:=by have:=congrArg List.length hvs;rw [List.length_map] at this;have:=warcs_len (C:=C) (s:=s) (n:=i);omega
  have hidx:∀ {l:List Itm},([⟨1,some ⟨bx,0,none⟩,1,1,[.slice va (C.mx+1).toNat vc]⟩,⟨1,va,(C.mx+1).toNat,vc,bools (wvals C s i)⟩,⟨1,some rad,C.ins.length,C.ins.length,bools (bitsN i C.ins.length)⟩]++l:List Itm)[3]?=l[0]?:=fun {l}=>rfl
  refine ⟨Upd.zone e30 fun x hx=>⟨hx.1,fun h=>h⟩,aw.cs,r30.read,rfl,(m30.get 3 rfl).app rfl (by simp [AW.cs,Value.oneCell']) (by omega) fun a' c' h31 f31 u31 hor=>⟨u31.zone fun x hx=>⟨Nat.lt_of_lt_of_le hx.1 e30.1,hx.2⟩,?_⟩⟩
  have m31:=m30.setAt 3 (t':=⟨3,a',sl.n+1,c',vs.flatMap AW.cs++aw.cs⟩) rfl f31 u31 hor
  have hb0S:¬ atb sl.a b0:=fun ⟨ad,ha,e⟩=>by have:=hp _ (List.mem_cons_self ..) ad ha;omega
  have mp31:=(mp26.ext e30).upd u31 hb0S
  refine MapIs.put (val:=Sl.v) ukr mp31 s (⟨a',sl.n+1,c'⟩:Sl) fun h32 mp32 u32=>?_
  unfold J42_5
  have hpm:putM (if vs=[] then M0 else M0++[(s,sl)]) s (⟨a',sl.n+1,c'⟩:Sl)=M0++[(s,⟨a',sl.n+1,c'⟩)]:=by
   by_cases hv:vs=[]
   ·rw [if_pos hv,putM_none hM0]
   ·rw [if_neg hv,putM_snoc hM0]
  rw [hpm] at mp32
  have ef:vs.flatMap AW.cs++aw.cs=(vs++[aw]).flatMap AW.cs:=by rw [List.flatMap_append];simp
  rw [ef] at m31
  have m31':Mem h2 h31 (⟨3,a',sl.n+1,c',(vs++[aw]).flatMap AW.cs⟩::(vs++[aw]).map AW.it):=by
   have hsub:=m31.sub (l':=⟨1,va,(C.mx+1).toNat,vc,bools (wvals C s i)⟩::⟨3,a',sl.n+1,c',(vs++[aw]).flatMap AW.cs⟩::vs.map AW.it) (.cons _ (.cons_cons _ (.cons _ (.refl _))))
   refine hsub.perm ?_
   rw [List.map_append]
   exact (List.Perm.swap _ _ _).trans (.cons _ (List.perm_append_singleton _ _).symm)
  have hnew31:∀ t∈((⟨3,a',sl.n+1,c',(vs++[aw]).flatMap AW.cs⟩:Itm)::(vs++[aw]).map AW.it),∀ ad,t.a=some ad->hs.size≤ad.block:=fun t ht ad ha=>by
   rcases List.mem_cons.1 ht with rfl | ht
   ·rcases hor with h1 | ⟨ad',h1,h2⟩
    ·exact hp _ (List.mem_cons_self ..) ad (by rw [<- h1];exact ha)
    ·simp only at ha
     rw [h1] at ha
     cases ha
     have:=e30.1
     omega
   ·rw [List.map_append,List.mem_append] at ht
    rcases ht with ht | ht
    ·exact hp _ (List.mem_cons_of_mem _ ht) ad ha
    ·simp only [List.map_cons,List.map_nil,List.mem_singleton] at ht
     subst ht
     have:=(m16.get 1 rfl).new ad ha
     omega
  have u931:Upd (fun x=>x=b0∨hs.size≤x) h9 h32:=by
   have h1:Upd (fun x=>x=b0∨hs.size≤x) h30 h31:=u31.mono fun x _ ⟨ad,ha,e⟩=>.inr (by have:=hp _ (List.mem_cons_self ..) ad ha;omega)
   exact (((Upd.wide e926).trans (Upd.wide e30)).trans h1).trans (u32.mono fun x _ hx=>.inl hx)
  have m32:Mem h2 h32 (⟨3,a',sl.n+1,c',(vs++[aw]).flatMap AW.cs⟩::(vs++[aw]).map AW.it):=by
   refine ⟨m31'.ext.newer u32 fun x hx hxb=>by omega,fun t ht=>?_,m31'.dis⟩
   have f:=m31'.fr t ht
   exact ⟨f.own.upd u32 fun ad ha hxb=>by have:=hnew31 t ht ad ha;omega,f.new,m31'.ext.newer u32 fun x hx hxb=>by omega⟩
  exact hK h32 ⟨a',sl.n+1,c'⟩ (vs++[aw]) u931 m32 hnew31 (by rw [List.map_append,hvs,hw];rfl) (fun h=>absurd h (by simp)) (by rw [if_neg (by simp)];exact mp32)
end
end Go.Proofs.YtdpbdjdgdmheiaaGreat
namespace Go.Hx
theorem cell_offmap {h:Heap} {ad:Addr} {v:Value} {b:Nat} (hm:∃ es c,h[b]?=Option.some (Obj.map es c)) (hc:cellH h ad=some v):ad.block≠b:=fun e=>by
 obtain ⟨es,c,hm⟩:=hm
 unfold cellH at hc
 rw [e,hm] at hc
 cases hc
theorem Rd.offmap {h h':Heap} {a:Option Addr} {n:Nat} {vs:List Value} {b:Nat} (r:Rd h a n vs) (hm:∃ es c,h[b]?=Option.some (Obj.map es c)) (u:Upd (fun x=>x=b) h h'):Rd h' a n vs:=by
 refine ⟨?_,r.len⟩
 cases a with
 | none=>exact r.read
 | some ad=>exact fun i v hv=>u.cell (cell_offmap hm (r.read i v hv)) (r.read i v hv)
theorem RdRs.offmap {h h':Heap} {a:Option Addr} {n:Nat} {L:List (List Int)} {b:Nat} (r:RdRs h a n L) (hm:∃ es c,h[b]?=Option.some (Obj.map es c)) (u:Upd (fun x=>x=b) h h'):RdRs h' a n L:=by
 obtain ⟨rows,h1,h2,h3⟩:=r.ex
 exact ⟨rows,h1.offmap hm u,fun s hs=>⟨(h2 s hs).1.offmap hm u,(h2 s hs).2⟩,h3⟩
theorem CIs.offmap {h h':Heap} {v:CV} {C:Circ} {b:Nat} (r:CIs h v C) (hm:∃ es c,h[b]?=Option.some (Obj.map es c)) (u:Upd (fun x=>x=b) h h'):CIs h' v C:=
 ⟨r.mx,r.i.offmap hm u,r.l.offmap hm u,r.o.offmap hm u,r.b.offmap hm u,r.c.offmap hm u,r.j.offmap hm u,r.f.offmap hm u,r.g.offmap hm u,r.s.offmap hm u,r.m.offmap hm u⟩
theorem MapIs.isMap {α β:Type} {key:α->Value} {val:β->Value} {h:Heap} {b:Nat} {l:List (α×β)} (m:MapIs key val h b l):∃ es c,h[b]?=Option.some (Obj.map es c):=let ⟨es,c,h1,_⟩:=m;⟨es,c,h1⟩
end Go.Hx
namespace Go.Proofs.YtdpbdjdgdmheiaaGreat
open Go.Hx Go.Deep
section
variable {h:Heap} {v:CV} {C:Circ}
structure Mad (C:Circ) (h4 h:Heap) (b0 s:Nat) (M:List (Nat×Sl)):Prop where
 mp:MapIs ukey Sl.v h b0 M
 lt:∀ p∈M,p.1<s
 arcs:∀ s' sl,atM M s'=some sl->Far h h4.size h.size fun h'=>ArcsIs h' sl ((wdC C).arcs s')
 none:∀ s',s'<s->atM M s'=none->(wdC C).arcs s'=[]
theorem Mad.ext {h4 h h':Heap} {b0 s:Nat} {M:List (Nat×Sl)} (m:Mad C h4 h b0 s M) (u:Ext h h'):Mad C h4 h' b0 s M:=
 ⟨m.mp.ext u,m.lt,fun s' sl hs S h'' u' hS=>(m.arcs s' sl hs) _ h'' ((Upd.wide u).trans u') fun b h1 h2 hb=>hS b h1 (Nat.lt_of_lt_of_le h2 u.1) hb,m.none⟩
theorem m_state (hz:(chk C).2=0) (ok:C.Ok) (hL:C.lats.length≤8) (hI:C.ins.length≤6) {R:Value->Heap->Prop} {hA h2 h4 h4' h6:Heap} {b0 s:Nat} (hsl:s<2 ^ C.lats.length) {next_:Int->Heap->Prop}
  (hb:Rd h6 (some ⟨hA.size,0,none⟩) 11 v.cs) (r:CIs h6 v C) (hk:cellH h6 ((Addr.mk h4.size 0 none).add 11)=some (.map (some b0))) (hbk:h4.size≠b0) (h2b:h2.size≤b0) (h26:h2.size≤h6.size) (e26:Upd (fun x=>x=b0) h2 h6)
  (h44:h4'.size≤h6.size) (hb4:b0<h4'.size) (hk4:h4.size<h4'.size) {M:List (Nat×Sl)} (md:Mad C h4' h6 b0 s M)
  (hK:∀ h' M',Upd (fun x=>x=b0) h6 h'->Mad C h4' h' b0 (s+1) M'->next_ (IntKind.wrap .u64 ((s:Int)+1)) h') :
  J42_2 Tryz.prog R hA h4 (s:Int) next_ h6:=by
 obtain ⟨q1,q2,q3,q4,q5,q6,q7,q8,q9,q10⟩:=r.len
 have hs256:2 ^ C.lats.length≤256:=Nat.pow_le_pow_right (n:=2) (by omega) hL
 unfold J42_2
 refine ⟨_,_,_,hb.fld 2 rfl,?_⟩
 rw [<- q2]
 refine (c88 (n:=s) (size:=C.lats.length) (by omega) (by omega)).mono ?_
 rintro _ h7 ⟨sad,rfl,f7⟩
 have e7:Ext h6 h7:=f7.ext
 refine ⟨_,_,_,rfl,_,_,_,(hb.ext e7).fld 1 rfl,by omega,?_⟩
 have hM0:∀ p∈M,p.1≠s:=fun p hp e=>by have:=md.lt p hp;omega
 have mp7:=md.mp.ext e7
 have z7:h6.size≤h7.size:=e7.1
 have rs7:Rd h7 (some sad) C.lats.length (bools (bitsN s C.lats.length)):=f7.rd
 have u27:Upd (fun x=>x=b0) h2 h7:=e26.trans (Upd.wide e7)
 refine LoopT.to (n:=2 ^ C.ins.length) (by have:2 ^ C.ins.length≤64:=Nat.pow_le_pow_right (n:=2) (by omega) hI;omega) (fun i h'=>∃ (sl:Sl) (vs:List AW),Upd (fun x=>x=b0) h7 h'/\Mem h2 h' (⟨3,sl.a,sl.n,sl.c,vs.flatMap AW.cs⟩::vs.map AW.it) /\
  (∀ t∈((⟨3,sl.a,sl.n,sl.c,vs.flatMap AW.cs⟩:Itm)::vs.map AW.it),∀ ad,t.a=some ad->h7.size≤ad.block)/\vs.map AW.arc=warcs C s i/\(vs=[]->sl=⟨none,0,0⟩)/\MapIs ukey Sl.v h' b0 (if vs=[] then M else M++[(s,sl)])) ?_ ?_
 ·refine ⟨⟨none,0,0⟩,[],.refl _,?_,fun t ht ad ha=>?_,rfl,fun _=>rfl,mp7⟩
  ·have ex:Ext h2 h7:=⟨u27.1,fun x hx _=>u27.2 x hx fun e=>by omega⟩
   exact (Mem.nil ex).add (t:=⟨3,none,0,0,[]⟩) (.nil (.refl h7)) |> fun m=>m
  ·simp only [List.map_nil,List.mem_singleton] at ht
   subst ht
   cases ha
 rintro i h9 K hi ⟨sl,vs,u9,m,hp,hvs,he,mp⟩ hK2
 have z9:h7.size≤h9.size:=u9.1
 refine ⟨fun hlt=>?_,fun hlt=>?_⟩
 ·rw [<- q1,pow64 (by omega)] at hlt
  have hi':i<2 ^ C.ins.length:=by omega
  have hb9:Rd h9 (some ⟨hA.size,0,none⟩) 11 v.cs:=(hb.ext e7).offmap mp7.isMap u9
  have r9:CIs h9 v C:=(r.ext e7).offmap mp7.isMap u9
  have rs9:Rd h9 (some sad) C.lats.length (bools (bitsN s C.lats.length)):=rs7.offmap mp7.isMap u9
  have hk9:cellH h9 ((Addr.mk h4.size 0 none).add 11)=some (.map (some b0)):=by
   rw [cellH_congr (u9.2 _ (by rw [add_block];simp only;omega) (by rw [add_block];exact hbk))]
   exact Ext.cell e7 hk
  refine m_row (hs:=h7) hz ok hL hI hsl hi' hb9 r9 rs9 hk9 (by omega) (by omega) hbk hM0 m hp z9 h2b hvs he mp fun h' sl' vs' u' m' hp' hv' he' mp'=>hK2 h' hi' ⟨sl',vs',?_,m',hp',hv',he',mp'⟩
  exact ⟨Nat.le_trans z9 u'.1,fun x hx hne=>(u'.2 x (by omega) fun h=>h.elim hne fun h=>by omega).trans (u9.2 x hx hne)⟩
 ·rw [<- q1,pow64 (by omega)] at hlt
  obtain rfl:i=2 ^ C.ins.length:=by omega
  unfold J42_3
  have u69:Upd (fun x=>x=b0) h6 h9:=(Upd.wide e7).trans u9
  have old:∀ s' sl',atM M s'=some sl'->Far h9 h4'.size h9.size fun h'=>ArcsIs h' sl' ((wdC C).arcs s'):=fun s' sl' hs' S h'' u' hS=>
   (md.arcs s' sl' hs') _ h'' (u69.mono (T:=fun x=>x=b0∨S x) (fun _ _ h=>.inl h) |>.trans (u'.mono fun _ _ h=>.inr h)) fun b h1 h2 hb=>by
    rcases hb with rfl | hb
    ·omega
    ·exact hS b h1 (by have:=u69.1;omega) hb
  by_cases hv:vs=[]
  ·rw [if_pos hv] at mp
   refine hK h9 M u69 ⟨mp,fun p hp=>by have:=md.lt p hp;omega,old,fun s' hs' hn=>?_⟩
   rcases Nat.lt_or_ge s' s with h | h
   ·exact md.none s' h hn
   ·obtain rfl:s'=s:=by omega
    show warcs C s' (2 ^ C.ins.length)=[]
    rw [<- hvs,hv];rfl
  ·rw [if_neg hv] at mp
   have hat:∀ s',atM (M++[(s,sl)]) s'=if s'=s then some sl else atM M s':=fun s'=>atM_snoc (atM_none hM0)
   refine hK h9 (M++[(s,sl)]) u69 ⟨mp,fun p hp=>?_,fun s' sl' hs'=>?_,fun s' hs' hn=>?_⟩
   ·rcases List.mem_append.1 hp with h | h
    ·have:=md.lt p h;omega
    ·rw [List.mem_singleton] at h;subst h;simp
   ·rw [hat] at hs'
    by_cases hss:s'=s
    ·rw [if_pos hss] at hs'
     obtain rfl:=Option.some.inj hs'
     subst hss
     have:=arcs_far (p:=h4'.size) m fun t ht ad ha=>by have:=hp t ht ad ha;omega
     rw [hvs] at this
     exact this
    ·rw [if_neg hss] at hs'
     exact old s' sl' hs'
   ·rw [hat] at hn
    by_cases hss:s'=s
    ·rw [if_pos hss] at hn;cases hn
    ·rw [if_neg hss] at hn
     exact md.none s' (by omega) hn
set_option maxRecDepth 4000 in
theorem c42 (r:CIs h v C) (ok:C.Ok):CallsH Tryz.prog 42 #[v.v] h (MadeW C h):=by
 refine run42 v _ h ?_
 unfold VC42
 intro h1
 have e1:Ext h h1:=Ext.box h _
 have hb:Rd h1 (some ⟨h.size,0,none⟩) 11 v.cs:=boxC v 29
 refine ldC hb (useX (c87 (r.ext e1) ok) fun h2 e2=>⟨_,rfl,fun hz=>?_,fun hz=>⟨e1.trans e2,.inr ⟨hz,rfl⟩⟩⟩)
 obtain ⟨hc,hL,hI⟩:=fewE_0 hz
 have hb2:=hb.ext e2
 have e02:=e1.trans e2
 have q2:=r.len.l
 unfold J42_0
 refine ldC hb2 ?_
 intro h3 h4
 have e23:Ext h2 h3:=Ext.push h2 _
 have e34:Ext h3 h4:=Ext.push h3 _
 have e24:Ext h2 h4:=e23.trans e34
 have hs3:h3.size=h2.size+1:=by simp [h3]
 have hs4:h4.size=h3.size+1:=by simp [h4]
 have mp:MapIs (α:=Nat) (β:=Sl) ukey Sl.v h4 h2.size []:=(MapIs.new h2).ext e34
 have rk:Rd h4 (some ⟨h3.size,0,none⟩) 12 (v.cs++[.map (some h2.size)]):=(Fr.lit (.refl h3) (v.cs++[.map (some h2.size)]) 141 12 rfl).rd
 have h1s:h1.size=h.size+1:=by simp [h1]
 have z2:=e2.1
 refine ⟨_,_,_,(hb2.ext e24).fld 2 rfl,by omega,?_⟩
 rw [<- q2]
 refine LoopT.tou (n:=2 ^ C.lats.length) (by have:2 ^ C.lats.length≤256:=Nat.pow_le_pow_right (n:=2) (by omega) hL;omega) (fun s h'=>∃ M,Upd (fun x=>x=h2.size) h4 h'/\Mad C h4 h' h2.size s M) ⟨[],.refl _,⟨mp,(fun p hp=>by cases hp),(fun s' sl hs=>by simp [atM] at hs),fun s' hs' _=>by omega⟩⟩ ?_
 rintro s h6 K hs ⟨M,u,md⟩ hK
 have m4:=mp.isMap
 refine ⟨fun hlt=>?_,fun hlt=>?_⟩
 ·rw [powu64 (by omega)] at hlt
  have hk:cellH h6 ((Addr.mk h3.size 0 none).add 11)=some (.map (some h2.size)):=(rk.offmap m4 u).fld 11 rfl
  exact m_state (h2:=h2) (h4':=h4) (h6:=h6) hc ok hL hI (by omega) ((hb2.ext e24).offmap m4 u) ((r.ext (e02.trans e24)).offmap m4 u) hk (by omega) (Nat.le_refl _) (by have:=u.1;omega) ((Upd.wide e24).trans u) u.1 (by omega) (by omega) md fun h' M' u' md'=>hK h' (by omega) ⟨M',u.trans u',md'⟩
 ·rw [powu64 (by omega)] at hlt
  obtain rfl:s=2 ^ C.lats.length:=by omega
  unfold J42_1
  have e2_6:Ext h2 h6:=⟨Nat.le_trans e24.1 u.1,fun x hx _=>by rw [u.2 x (by omega) (by omega)];exact e24.2 x hx fun h=>h⟩
  exact ⟨e02.trans e2_6,.inl ⟨hz,_,rfl,⟨hz,v,h2.size,M,rk.offmap m4 u,r.ext (e02.trans e2_6),md.mp,fun s sl hs=>(md.arcs s sl hs).now,md.none⟩⟩⟩
end
end Go.Proofs.YtdpbdjdgdmheiaaGreat
namespace Go.Hx
theorem LoopT.to2u {τ:Type} {B:τ×Int->Heap->(τ×Int->Heap->Prop)->Prop} {n:Nat} {h:Heap} {s0:τ} (hn:n<18446744073709551615) (I:Nat->τ->Heap->Prop) (h0:I 0 s0 h)
  (hs:∀ (i:Nat) (s:τ) (h':Heap) (K:τ×Int->Heap->Prop),i≤n->I i s h'->(∀ s' h'',i<n->I (i+1) s' h''->K (s',IntKind.wrap .u64 ((i:Int)+1)) h'')->B (s,i) h' K):LoopT B (s0,0) h:=by
 refine ⟨fun st h' m=>∃ i:Nat,st.2=i/\i≤n/\m=n-i/\I i st.1 h',⟨n,0,rfl,Nat.zero_le _,rfl,h0⟩,?_⟩
 rintro ⟨s,t⟩ h' m ⟨i,rfl,hi,rfl,hI⟩
 refine hs i s h' _ hi hI fun s' h'' hlt hI'=>?_
 exact ⟨n-(i+1),by omega,i+1,by show IntKind.wrap .u64 ((i:Int)+1)=_;rw [wr_u64];omega,by omega,rfl,hI'⟩
abbrev kv (n:Nat):Value:=.int .u64 (n:Int)
abbrev dv (n:Nat):Value:=.int .i64 (n:Int)
end Go.Hx
namespace Go.Proofs.YtdpbdjdgdmheiaaGreat
open Go.Hx Go.Deep
section
variable {h:Heap} {k:Addr} {C:Circ}
theorem c53 (w:WIs h k C):CallsH Tryz.prog 53 #[.pointer (some k)] h fun x h'=>∃ a c,x=.slice a (wdC C).st.length c/\Fr h 1 h' a (wdC C).st.length c ((wdC C).st.map kv):=by
 obtain ⟨hz,hL,hI⟩:=fewE_0 w.few
 obtain ⟨v,b,M,rk,r,_,_,_⟩:=w.ex
 have q2:=r.len.l
 have h256:2 ^ C.lats.length≤256:=Nat.pow_le_pow_right (n:=2) (by omega) hL
 refine run53 (some k) _ h (AtP.mk rfl ⟨v.l.a,v.l.n,v.l.c,by rw [addr_add0];exact rk.fld 2 rfl,by omega,?_⟩)
 refine LoopT.to2u (n:=2 ^ C.lats.length) (by omega) (fun s x h'=>∃ n,x.2.1=n/\Fr h 1 h' x.1 x.2.1 x.2.2 (((List.range s).filter (wst C)).map kv)) ⟨0,rfl,.nil (.refl h)⟩ ?_
 rintro s ⟨oa,on,oc⟩ h1 K hs ⟨_,rfl,f⟩ hK
 have fl:((List.range s).filter (wst C)).length=on:=f.rd.ilen
 refine ⟨fun hlt=>?_,fun hlt=>?_⟩
 ·rw [<- q2,powu64 (by omega)] at hlt
  have hs':s<2 ^ C.lats.length:=by omega
  unfold J53_1
  refine AtP.mk rfl ⟨_,_,_,by rw [addr_add0];exact (rk.ext f.ext).fld 2 rfl,?_⟩
  refine LoopT.to2 (n:=v.l.n) (by omega) (fun i (ok:Bool) h'=>Ext h1 h'/\(ok=true->(iniF (C.lats.drop i) ((bitsN s C.lats.length).drop i) i).isNone=wst C s)/\(ok=false->wst C s=false)) ⟨.refl _,fun _=>rfl,fun h=>by cases h⟩ ?_
  rintro i okb h2 K2 hi ⟨e2,i1,i2⟩ hK2
  refine ⟨fun hlt2=>?_,fun hlt2=>?_⟩
  ·have hi':i<C.lats.length:=by omega
   have hib:i<(bitsN s C.lats.length).length:=by rw [bitsN_len];exact hi'
   unfold J53_4
   refine ⟨by omega,by omega,((r.ext f.ext).ext e2).l.elem L3.csl (by omega) (i:=i) (by omega) fun ad hl1 re=>⟨_,_,_,re.cells,?_⟩⟩
   refine box3 C.lats[i] fun h3 e3 b3=>?_
   have e23:=e2.trans e3
   have hbit:(bitsN s C.lats.length)[i]=s.testBit i:=by
    have:=bitsN_at (n:=s) hi'
    rw [List.getElem?_eq_getElem hib] at this
    exact Option.some.inj this
   obtain ⟨x1,x2,x3,x4⟩:=(dok_of hz).l i _ (List.getElem?_eq_getElem hi')
   have hc:C.lats[i].c=0∨C.lats[i].c=1∨C.lats[i].c=C.lats[i].a:=by
    unfold rst at x4
    split at x4
    ·assumption
    ·simp at x4
   have drp:=iniF_drop (L:=C.lats) (S:=bitsN s C.lats.length) hi' hib
   rw [hbit] at drp
   have w0:IntKind.wrap .i64 ((i:Int)+1)=((i+1:Nat):Int):=by rw [w64 (by omega) (by omega)];rfl
   cases okb with
   | false=>exact BIf.f (hK2 _ _ (by omega) ⟨e23,(fun h=>by cases h),fun _=>i2 rfl⟩)
   | true=>
    refine BIf.t ⟨_,b3.fld 2 rfl,fun h1=>hK2 _ _ (by omega) ⟨e23,fun _=>?_,fun h=>by cases h⟩,fun h1=>⟨by omega,_,b3.fld 2 rfl,?_⟩⟩
    ·rw [if_neg (by omega)] at drp
     rw [<- drp];exact i1 rfl
    rw [bit64 (by omega) (by omega),wr_u64]
    refine ⟨fun h2=>hK2 _ _ (by omega) ⟨e23,fun _=>?_,fun h=>by cases h⟩,fun h2=>hK2 _ _ (by omega) ⟨e23,(fun h=>by cases h),fun _=>?_⟩⟩
    ·rw [if_neg (by
      rintro ⟨_,hne⟩
      apply hne
      cases hb:s.testBit i with
      | true=>rw [hb] at h2;simp only [Bool.toNat_true] at h2;symm;exact decide_eq_true (by omega)
      | false=>rw [hb] at h2;simp only [Bool.toNat_false] at h2;symm;exact decide_eq_false (by omega))] at drp
     rw [<- drp];exact i1 rfl
    ·rw [<- i1 rfl,drp,if_pos]
     ·rfl
     refine ⟨by omega,fun hne=>h2 ?_⟩
     rw [hne]
     rcases hc with hc | hc | hc
     ·rw [hc];rfl
     ·rw [hc];rfl
     ·omega
  ·obtain rfl:i=v.l.n:=by omega
   rw [iniF_end (by omega)] at i1
   unfold J53_3
   have hfs:(List.range (s+1)).filter (wst C)=(List.range s).filter (wst C)++(if wst C s=true then [s] else []):=by
    rw [List.range_succ,List.filter_append]
    congr 1
    by_cases hw:wst C s=true
    ·rw [if_pos hw];simp [hw]
    ·rw [if_neg hw];simp [hw]
   cases okb with
   | true=>
    have hw:wst C s=true:=by rw [<- i1 rfl];rfl
    refine BIf.t ?_
    intro h3
    have e3:Ext h2 h3:=Ext.push h2 _
    have r3:=(Fr.lit (.refl h2) [kv s] 76 1 rfl).rd
    have hon:on≤s:=by
     have:=List.length_filter_le (wst C) (List.range s)
     simp at this
     omega
    refine ⟨[kv s],r3.read,rfl,(f.upd (e2.trans e3)).app rfl (by simp [Value.oneCell']) (by show (on+1)*8≤_;omega) fun a' c' h4 f4 u4 hor=>?_⟩
    unfold J53_2
    refine hK (a',on+1,c') h4 hs' ⟨_,rfl,?_⟩
    rw [hfs,if_pos hw,List.map_append]
    exact f4
   | false=>
    have hw:=i2 rfl
    refine BIf.f ?_
    unfold J53_2
    refine hK (oa,on,oc) h2 hs' ⟨_,rfl,?_⟩
    rw [hfs,if_neg (by rw [hw];simp),List.append_nil]
    exact f.upd e2
 ·rw [<- q2,powu64 (by omega)] at hlt
  obtain rfl:s=2 ^ C.lats.length:=by omega
  unfold J53_0
  have:on=(wdC C).st.length:=by rw [<- fl];rfl
  subst this
  exact ⟨oa,oc,rfl,f⟩
def DepP (C:Circ) (h:Heap) (x:Value) (h':Heap):Prop:=Ext h h'/\∃ b M,x=.map (some b)/\h.size≤b/\MapIs ukey dv h' b M/\DepM (wdC C) M
end
end Go.Proofs.YtdpbdjdgdmheiaaGreat
namespace Go.Hx
theorem Own.cut {sz:Nat} {h:Heap} {a:Option Addr} {n c:Nat} {vs:List Value} (o:Own sz h a n c vs) {l:Nat} (hl:l≤n):Own sz h (cutA sz a c l) (n-l) (c-l) (vs.drop (l*sz)):=by
 have hlen:=o.rd.len
 have hcap:=o.cap
 have h1:l*sz+(n-l)*sz=n*sz:=by rw [<- Nat.add_mul];congr 1;omega
 refine ⟨?_,by omega,?_⟩
 ·have:=o.rd.cutA (sz:=sz) (c:=c) l ((n-l)*sz) (by omega) (Nat.mul_le_mul_right _ hcap)
  rwa [List.take_of_length_le (by rw [List.length_drop];omega)] at this
 ·cases a with
  | none=>
   have:c=0:=o.mem
   unfold cutA
   split
   ·show c-l=0;omega
   ·show c-l=0;omega
  | some ad=>
   obtain ⟨hsp,cs,e,hb,hle⟩:=o.mem
   have h2:l*sz≤c*sz:=Nat.mul_le_mul_right _ (by omega)
   unfold cutA
   split
   ·rename_i hcl
    exact ⟨hsp,cs,e,hb,by rw [hcl,Nat.sub_self,Nat.zero_mul];omega⟩
   ·refine ⟨?_,cs,e,by simp only [add_block];exact hb,?_⟩
    ·unfold Addr.add;split <;> simp_all
    ·have ho:(ad.add (l*sz)).off=ad.off+l*sz:=by unfold Addr.add;split <;> simp_all
     rw [ho,Nat.sub_mul]
     omega
theorem cutA_block {sz:Nat} {a:Option Addr} {c l:Nat} {ad:Addr} (h:cutA sz a c l=some ad):∃ ad',a=some ad'/\ad'.block=ad.block:=by
 unfold cutA at h
 split at h
 ·exact ⟨ad,h,rfl⟩
 ·cases a with
  | none=>cases h
  | some x=>exact ⟨x,rfl,by have:=Option.some.inj h;rw [<- this,add_block]⟩
theorem Fr.cut {h0:Heap} {sz:Nat} {h:Heap} {a:Option Addr} {n c:Nat} {vs:List Value} (f:Fr h0 sz h a n c vs) {l:Nat} (hl:l≤n):Fr h0 sz h (cutA sz a c l) (n-l) (c-l) (vs.drop (l*sz)):=
 ⟨f.own.cut hl,(fun ad ha=>by obtain ⟨ad',h1,h2⟩:=cutA_block ha;rw [<- h2];exact f.new ad' h1),f.ext⟩
theorem Own.offmap {sz:Nat} {h h':Heap} {a:Option Addr} {n c:Nat} {vs:List Value} {b:Nat} (o:Own sz h a n c vs) (hm:∃ es k,h[b]?=Option.some (Obj.map es k)) (u:Upd (fun x=>x=b) h h'):Own sz h' a n c vs:=
 o.upd u fun ad ha e=>by
  subst ha
  obtain ⟨_,cs,t,hb,_⟩:=o.mem
  obtain ⟨es,k,hm⟩:=hm
  rw [e,hm] at hb
  cases hb
theorem Fr.offmap {h0:Heap} {sz:Nat} {h h':Heap} {a:Option Addr} {n c:Nat} {vs:List Value} {b:Nat} (f:Fr h0 sz h a n c vs) (hm:∃ es k,h[b]?=Option.some (Obj.map es k)) (u:Upd (fun x=>x=b) h h') (hb:h0.size≤b):Fr h0 sz h' a n c vs:=
 ⟨f.own.offmap hm u,f.new,f.ext.newer u fun i hi e=>by omega⟩
theorem Own.notmap {sz:Nat} {h:Heap} {a:Option Addr} {n c:Nat} {vs:List Value} {b:Nat} (o:Own sz h a n c vs) (hm:∃ es k,h[b]?=Option.some (Obj.map es k)):¬ atb a b:=fun ⟨ad,ha,e⟩=>by
 subst ha
 obtain ⟨_,cs,t,hb,_⟩:=o.mem
 obtain ⟨es,k,hm⟩:=hm
 rw [<- e,hm] at hb
 cases hb
theorem boxK {h:Heap} {z x:Value} (hx:x.oneCell'=true) {e:TypeId} {K:Heap->Prop} (hK:∀ h',Ext h h'->Rd h' (some ⟨h.size,0,none⟩) 1 [x]->K h'):StoreH (h.push (.cells #[z] e)) ⟨h.size,0,none⟩ [x] K:=
 boxN (zs:=[z]) (ws:=[x]) rfl (by simpa using hx) fun h' e b=>hK h' e b
theorem cells1 {h:Heap} {ad:Addr} {i:Nat} {x:Value} (hc:cellH h (ad.add i)=some x):cellsH h (ad.add i) 0 [x]:=by
 refine cellsH_of fun j v hv=>?_
 cases j with
 | zero=>
  simp only [List.getElem?_cons_zero,Option.some.injEq] at hv
  subst hv
  rw [Nat.add_zero,Addr.add_add,Nat.add_zero];exact hc
 | succ j=>simp at hv
theorem map_ukey_drop {W:Wd} {i:Nat} (hi:i<W.st.length):(W.st.take (i+1)).map (fun s=>((s,0):Nat×Nat))=(W.st.take i).map (fun s=>(s,0))++[(W.st[i],0)]:=by
 rw [List.take_succ_eq_append_getElem hi,List.map_append];rfl
end Go.Hx
namespace Go.Proofs.YtdpbdjdgdmheiaaGreat
open Go.Hx Go.Deep
section
variable {h:Heap} {k:Addr} {C:Circ}
theorem d_arcs {h8 h9:Heap} (eh:Ext h h9) {s D:Nat} {sl:Sl} (hsl:ArcsIs h sl ((wdC C).arcs s)) (h256:(wdC C).n≤256) {M:List (Nat×Nat)} {work:List Nat} (b1:Bfs1 (wdC C) M s D ((wdC C).arcs s) work) (bd:∀ p∈M,p.2<M.length) (hn:((wdC C).arcs s).length≤100000) {wa:Option Addr} {wn wc:Nat}
  (mp:MapIs ukey dv h9 h.size M) (fw:Fr h 1 h9 wa wn wc (work.map kv)) (bs:Rd h9 (some ⟨h8.size,0,none⟩) 1 [kv s]) (hw:work.length≤1000) (hne:∀ ad,wa=some ad->ad.block≠h8.size) {next_1:(Option Addr×Nat×Nat)->Heap->Prop}
  (hK:∀ h' M' work' a' n' c',Bfs0 (wdC C) M' work'->(∀ p∈M',p.2<M'.length)->MapIs ukey dv h' h.size M'->Fr h 1 h' a' n' c' (work'.map kv)->M.length≤M'.length->work'.length=work.length+(M'.length-M.length)->next_1 (a',n',c') h') :
  LoopT (σ:=(Option Addr×Nat×Nat)×Int) (fun st_ h_st nx_st=>B43_10 h next_1 h8 sl.a sl.n (st_.1.1) (st_.1.2.1) (st_.1.2.2) (st_.2) h_st nx_st) ((wa,wn,wc),0) h9:=by
 have hln:=hsl.len
 obtain ⟨vs,rv,hvs,hvr⟩:=hsl
 have hvl:vs.length=sl.n:=rv.elen AW.csl (by omega)
 refine LoopT.to2 (n:=sl.n) (by omega) (fun i x h'=>∃ M' work',Bfs1 (wdC C) M' s D (((wdC C).arcs s).drop i) work'/\(∀ p∈M',p.2<M'.length)/\MapIs ukey dv h' h.size M'/\Fr h 1 h' x.1 x.2.1 x.2.2 (work'.map kv)/\M.length≤M'.length/\work'.length=work.length+(M'.length-M.length)/\Rd h' (some ⟨h8.size,0,none⟩) 1 [kv s]/\Ext h h'/\∀ ad,x.1=some ad->ad.block≠h8.size)
  ⟨M,work,b1,bd,mp,fw,Nat.le_refl _,by omega,bs,eh,hne⟩ ?_
 rintro i ⟨a,n,c⟩ h1 K hi ⟨M',work',bf,bd',mp',fw',hl1,hl2,bs',eh',hne'⟩ hK2
 have fl:work'.length=n:=fw'.rd.ilen
 refine ⟨fun hlt=>?_,fun hlt=>?_⟩
 ·have hiv:i<vs.length:=by omega
  have hia:i<((wdC C).arcs s).length:=by omega
  have harc:((wdC C).arcs s)[i]=vs[i].arc:=by simp only [<- hvs,List.getElem_map]
  rw [List.drop_eq_getElem_cons hia,harc] at bf
  unfold J43_8
  refine ⟨by omega,hlt,(rv.ext eh').elem AW.csl (by omega) (i:=i) (by omega) fun ad hl3 re=>⟨_,_,_,_,_,re.cells,?_⟩⟩
  refine boxN (zs:=[.int .i64 0,.int .u64 0,.slice none 0 0]) (ws:=vs[i].cs) rfl (by simp [AW.cs,Value.oneCell']) fun h3 e3 b3=>?_
  have b3:Rd h3 (some ⟨h1.size,0,none⟩) 3 vs[i].cs:=b3
  have mp3:=mp'.ext e3
  have c1:=b3.fld 1 rfl
  refine ⟨_,cells1 c1,MapIs.look (val:=dv) ukr mp3 vs[i].nx (fun hno=>?_) fun e he=>⟨_,rfl,hK2 (a,n,c) h3 (by omega) ⟨M',work',bf.old he,bd',mp3,fw'.upd e3,hl1,hl2,bs'.ext e3,eh'.trans e3,hne'⟩⟩⟩
  refine ⟨_,cells1 c1,_,by rw [<- addr_add0 ⟨h8.size,0,none⟩];exact cells1 ((bs'.ext e3).fld 0 rfl),MapIs.look (val:=dv) ukr mp3 s (fun hno2=>?_) fun e he=>⟨_,rfl,?_⟩⟩
  ·have:=bf.at_
   rw [hno2] at this
   cases this
  have hDe:e=D:=by rw [bf.at_] at he;exact (Option.some.inj he).symm
  subst hDe
  have hmem:=bd' _ (atM_mem bf.at_)
  have hlen:=bf.len (wd_ok C)
  rw [show IntKind.wrap .i64 ((e:Int)+1)=((e+1:Nat):Int) by rw [w64 (by omega) (by omega)];rfl]
  refine MapIs.put (val:=dv) ukr mp3 vs[i].nx (e+1) fun h4 mp4 u4=>?_
  rw [putM_none (atM_none' hno)] at mp4
  have hm3:=mp3.isMap
  have b4:=b3.offmap hm3 u4
  have fw4:=(fw'.upd e3).offmap hm3 u4 (Nat.le_refl _)
  refine ⟨_,cells1 (b4.fld 1 rfl),?_⟩
  intro h5
  have e5:Ext h4 h5:=Ext.push h4 _
  have r5:=(Fr.lit (.refl h4) [kv vs[i].nx] 76 1 rfl).rd
  have hwn:n≤10000:=by
   have:=bf.len (wd_ok C)
   omega
  refine ⟨[kv vs[i].nx],r5.read,rfl,(fw4.upd e5).app rfl (by simp [Value.oneCell']) (by show (n+1)*8≤_;omega) fun a' c' h6 f6 u6 hor=>?_⟩
  have em:work'.map kv++[kv vs[i].nx]=(work'++[vs[i].nx]).map kv:=by simp
  rw [em] at f6
  have mp5:=mp4.ext e5
  have hnm:=(fw4.upd e5).own.notmap mp5.isMap
  have bs6:Rd h6 (some ⟨h8.size,0,none⟩) 1 [kv s]:=(((bs'.ext e3).offmap hm3 u4).ext e5).upd u6 fun ad ha ⟨ad',ha',e⟩=>by cases ha;exact hne' ad' ha' e.symm
  refine hK2 (a',n+1,c') h6 (by omega) ⟨M'++[(vs[i].nx,e+1)],work'++[vs[i].nx],bf.new hno,fun p hp=>?_,mp5.upd u6 hnm,f6,by simp;omega,by simp;omega,bs6,f6.ext,fun ad ha=>?_⟩
  rotate_left
  ·rcases hor with h7 | ⟨ad',h7,h8'⟩
   ·exact hne' ad (by rw [<- h7];exact ha)
   ·have ha:a'=some ad:=ha
    rw [h7] at ha
    cases ha
    have:=cellH_lt (((bs'.ext e3).offmap hm3 u4).fld 0 rfl)
    rw [add_block] at this
    have:=e5.1
    simp only at *
    omega
  rcases List.mem_append.1 hp with hp | hp
  ·have:=bd' p hp;simp;omega
  ·rw [List.mem_singleton] at hp;subst hp;simp;omega
 ·obtain rfl:i=sl.n:=by omega
  rw [List.drop_of_length_le (by omega)] at bf
  exact hK h1 M' work' a n c bf.done bd' mp' fw' hl1 hl2
theorem c43 (w:WIs h k C):CallsH Tryz.prog 43 #[.pointer (some k)] h (DepP C h):=by
 have wk:=wd_ok C
 obtain ⟨hz,hL,hI⟩:=fewE_0 w.few
 have h256:(wdC C).n≤256:=Nat.pow_le_pow_right (n:=2) (by omega) hL
 have h64:2 ^ C.ins.length≤64:=Nat.pow_le_pow_right (n:=2) (by omega) hI
 have hst:(wdC C).st.length≤256:=by
  have h1:=nodup_lt wk.nd wk.st
  omega
 refine run43 (some k) _ h ?_
 unfold VC43
 intro h1
 have e1:Ext h h1:=Ext.push h _
 have mp1:MapIs (α:=Nat) (β:=Nat) ukey dv h1 h.size []:=MapIs.new h
 refine (c53 (w.ext e1)).mono ?_
 rintro _ h2 ⟨sa,sc,rfl,f2⟩
 have e12:Ext h1 h2:=f2.ext
 refine ⟨_,_,_,rfl,?_⟩
 refine LoopT.to (n:=(wdC C).st.length) (by omega) (fun i h'=>MapIs ukey dv h' h.size (((wdC C).st.take i).map fun s=>(s,0))/\Fr h 1 h' sa (wdC C).st.length sc ((wdC C).st.map kv)) ⟨mp1.ext e12,f2.base e1⟩ ?_
 rintro i h3 K hi ⟨mp,f⟩ hK
 refine ⟨fun hlt=>?_,fun hlt=>?_⟩
 ·have hi':i<(wdC C).st.length:=by omega
  unfold J43_1
  refine ⟨by omega,hlt,f.rd.getn (i:=i) hi' fun ad hl hc=>⟨_,cells1 hc,?_⟩⟩
  refine boxK rfl fun h4 e4 b4=>⟨_,by rw [<- addr_add0 ⟨h3.size,0,none⟩];exact cells1 (b4.fld 0 rfl),?_⟩
  refine MapIs.put (val:=dv) ukr (mp.ext e4) _ 0 fun h5 mp5 u5=>hK h5 hi' ⟨?_,(f.upd e4).offmap (mp.ext e4).isMap u5 (Nat.le_refl _)⟩
  rw [map_ukey_drop hi',<- putM_none (l:=((wdC C).st.take i).map fun s=>((s,0):Nat×Nat)) (x:=(wdC C).st[i]) (v:=0) fun p hp=>?_]
  ·exact mp5
  ·obtain ⟨x,hx,rfl⟩:=List.mem_map.1 hp
   intro e
   have hnd:=wk.nd
   rw [<- List.take_append_drop i (wdC C).st,List.drop_eq_getElem_cons hi',List.nodup_append] at hnd
   exact hnd.2.2 x hx _ (List.mem_cons_self ..) e
 ·obtain rfl:i=(wdC C).st.length:=by omega
  rw [List.take_length] at mp
  unfold J43_0
  refine ⟨fun x h' m=>∃ M work,Bfs0 (wdC C) M work/\(∀ p∈M,p.2<M.length)/\MapIs ukey dv h' h.size M/\Fr h 1 h' x.1 x.2.1 x.2.2 (work.map kv)/\m=2*((wdC C).n-M.length)+work.length/\work.length≤M.length,⟨_,_,_,Bfs0.start wk,fun p hp=>?_,mp,f,rfl,by simp⟩,?_⟩
  ·obtain ⟨x,hx,rfl⟩:=List.mem_map.1 hp
   rw [List.length_map]
   exact List.length_pos_of_mem hx
  rintro ⟨a,n,c⟩ h8 m ⟨M,work,b0,bd,mp8,f8,rfl,hwl⟩
  have fl:work.length=n:=f8.rd.ilen
  have hMl:=b0.len wk
  refine ⟨fun hpos=>?_,fun hpos=>?_⟩
  ·have hpos:(0:Int)<(n:Nat):=hpos
   have hpos':0<work.length:=by omega
   obtain ⟨s,work',rfl⟩:=List.exists_cons_of_ne_nil (List.ne_nil_of_length_pos hpos')
   obtain ⟨D,b1⟩:=b0.pop
   obtain ⟨v,wb,WM,rk,r,wmp,wma,wmn⟩:=w.ex
   rw [List.length_cons] at fl hwl
   have hslt:s<2 ^ C.lats.length:=by
    obtain ⟨d,hd⟩:=b0.wk s (List.mem_cons_self ..)
    exact (b0.val _ (atM_mem hd)).lt wk
   unfold J43_4
   refine ⟨Int.le_refl _,hpos,f8.rd.getn (i:=0) (by omega) fun ad hl hc=>⟨_,cells1 hc,?_⟩⟩
   refine boxK rfl fun h9 e9 b9=>?_
   have e09:Ext h h9:=f8.ext.trans e9
   refine ⟨by omega,by omega,by have:=f8.own.cap;omega,AtP.mk rfl ⟨_,(rk.ext e09).fld 11 rfl,_,by rw [<- addr_add0 ⟨h8.size,0,none⟩];exact cells1 (b9.fld 0 rfl),?_⟩⟩
   have fc:Fr h 1 h9 (cutA 1 a c 1) (n-1) (c-1) (work'.map kv):=by
    have:=(f8.upd e9).cut (l:=1) (by omega)
    simpa using this
   have hne:∀ ad,cutA 1 a c 1=some ad->ad.block≠h8.size:=fun ad ha=>by
    obtain ⟨ad',h1,h2⟩:=cutA_block ha
    subst h1
    have:=f8.own.lt
    omega
   have h1n:Int.toNat (((n:Nat):Int))-Int.toNat 1=n-1:=by simp
   have h1c:c-Int.toNat 1=c-1:=by simp
   rw [h1n,h1c]
   show MapLook _ (ukey s) h9 (some wb) none _ _
   refine MapIs.look (val:=Sl.v) ukr (wmp.ext e09) s (fun hno=>?_) fun sl hsl=>⟨_,_,_,rfl,?_⟩
   ·have hnil:=wmn s hslt hno
    rw [hnil] at b1
    refine LoopT.once fun K'=>⟨fun hh=>absurd hh (by simp),fun _=>⟨_,?_,M,work',b1.done,bd,mp8.ext e9,fc,rfl,by omega⟩⟩
    rw [List.length_cons];omega
   ·have ha:=wma s sl hsl
    refine d_arcs e09 ha h256 b1 bd ?_ (mp8.ext e9) fc b9 (by omega) hne fun h' M' work2 a' n' c' b0' bd' mp' f' hl1 hl2=>⟨_,?_,M',work2,b0',bd',mp',f',rfl,by omega⟩
    ·have:=warcs_len (C:=C) (s:=s) (n:=2 ^ C.ins.length)
     show (warcs C s (2 ^ C.ins.length)).length≤_
     omega
    ·have:=b0'.len wk
     rw [List.length_cons]
     omega
  ·have hpos:¬ (0:Int)<(n:Nat):=hpos
   have hnil:work=[]:=List.length_eq_zero_iff.1 (by omega)
   subst hnil
   unfold J43_3
   exact ⟨f8.ext,h.size,M,rfl,Nat.le_refl _,mp8,b0.done⟩
end
end Go.Proofs.YtdpbdjdgdmheiaaGreat
namespace Go.Hx
def leftM {α β:Type} [DecidableEq α] (M:List (α×β)) (done:List α):Nat:=(M.filter fun p=>decide (p.1∉done)).length
theorem leftM_lt {α β:Type} [DecidableEq α] {M:List (α×β)} {done:List α} {p:α×β} (h:p∈M) (hd:p.1∉done):leftM M (p.1::done)<leftM M done:=by
 unfold leftM
 induction M with
 | nil=>cases h
 | cons q M ih=>
  have le:(M.filter fun x=>decide (x.1∉p.1::done)).length≤(M.filter fun x=>decide (x.1∉done)).length:=by
   rw [<- List.countP_eq_length_filter,<- List.countP_eq_length_filter]
   exact List.countP_mono_left fun x _ hx=>by
    simp only [List.mem_cons,not_or,decide_eq_true_eq] at hx ⊢
    exact hx.2
  rw [List.filter_cons,List.filter_cons]
  by_cases hq:q.1=p.1
  ·rw [if_neg (by simp [hq]),if_pos (by rw [hq];exact decide_eq_true hd),List.length_cons]
   omega
  ·have hM:p∈M:=by
    rcases List.mem_cons.1 h with rfl | h
    ·exact absurd rfl hq
    ·exact h
   have:=ih hM
   by_cases hqd:q.1∈done
   ·rw [if_neg (by simp [hqd]),if_neg (by simp [hqd])];exact this
   ·rw [if_pos (decide_eq_true (by simp [hq,hqd])),if_pos (decide_eq_true hqd),List.length_cons,List.length_cons]
    omega
def BadZ (W:Wd) (P:Arc->Bool) (M:List (Nat×Nat)) (done:List Nat) (z:Int):Prop:=
 (z = -1/\∀ p∈M,p.1∈done->(W.arcs p.1).any P=false)∨∃ d:Nat,z=d/\(∃ p∈M,p.2=d/\(W.arcs p.1).any P=true)/\∀ p∈M,p.1∈done->(W.arcs p.1).any P=true->d≤p.2
theorem BadZ.done {W:Wd} {P:Arc->Bool} {M:List (Nat×Nat)} {done:List Nat} {z:Int} (b:BadZ W P M done z) (dm:DepM W M) (hd:∀ p∈M,p.1∈done):BadIs W (fun a=>P a=true) z:=by
 have key:∀ {s d},IsDep W s d->(s,d)∈M:=fun {s d} h=>atM_mem ((dm.is s d).2 h)
 have yek:∀ {p},p∈M->IsDep W p.1 p.2:=fun {p} h=>(dm.is p.1 p.2).1 (atM_nodup dm.nd h)
 rcases b with ⟨rfl,h⟩ | ⟨d,rfl,⟨p,hp,rfl,ha⟩,h⟩
 ·refine .inl ⟨rfl,fun s d hs a ha hP=>?_⟩
  have:=h _ (key hs) (hd _ (key hs))
  rw [List.any_eq_false] at this
  exact this a ha hP
 ·obtain ⟨a,ha1,ha2⟩:=List.any_eq_true.1 ha
  refine .inr ⟨p.2,rfl,⟨p.1,a,yek hp,ha1,ha2⟩,fun s e a ha hb hP=>?_⟩
  exact h (s,e) (key ha) (hd _ (key ha)) (List.any_eq_true.2 ⟨a,hb,hP⟩)
theorem BadZ.step {W:Wd} {P:Arc->Bool} {M:List (Nat×Nat)} {done:List Nat} {z:Int} (nd:(M.map Prod.fst).Nodup) (b:BadZ W P M done z) {p:Nat×Nat} (hp:p∈M) :
  BadZ W P M (p.1::done) (if 0≤z/\z≤p.2 then z else if (W.arcs p.1).any P=true then (p.2:Int) else z):=by
 have same:∀ q∈M,q.1=p.1->q=p:=fun q hq e=>by
  have h1:=atM_nodup nd (x:=q.1) (v:=q.2) hq
  have h2:=atM_nodup nd (x:=p.1) (v:=p.2) hp
  rw [e,h2] at h1
  exact Prod.ext e (Option.some.inj h1).symm
 rcases b with ⟨rfl,h⟩ | ⟨d,rfl,hex,h⟩
 ·rw [if_neg (by omega)]
  by_cases ha:(W.arcs p.1).any P=true
  ·rw [if_pos ha]
   refine .inr ⟨p.2,rfl,⟨p,hp,rfl,ha⟩,fun q hq hd hqa=>?_⟩
   rcases List.mem_cons.1 hd with e | hd
   ·rw [same q hq e];exact Nat.le_refl _
   ·have:=h q hq hd
    rw [hqa] at this
    cases this
  ·rw [if_neg ha]
   refine .inl ⟨rfl,fun q hq hd=>?_⟩
   rcases List.mem_cons.1 hd with e | hd
   ·rw [e];simpa using ha
   ·exact h q hq hd
 ·by_cases hle:(0:Int)≤d/\(d:Int)≤p.2
  ·rw [if_pos hle]
   refine .inr ⟨d,rfl,hex,fun q hq hd hqa=>?_⟩
   rcases List.mem_cons.1 hd with e | hd
   ·rw [same q hq e];omega
   ·exact h q hq hd hqa
  ·rw [if_neg hle]
   by_cases ha:(W.arcs p.1).any P=true
   ·rw [if_pos ha]
    refine .inr ⟨p.2,rfl,⟨p,hp,rfl,ha⟩,fun q hq hd hqa=>?_⟩
    rcases List.mem_cons.1 hd with e | hd
    ·rw [same q hq e];exact Nat.le_refl _
    ·have:=h q hq hd hqa;omega
   ·rw [if_neg ha]
    refine .inr ⟨d,rfl,hex,fun q hq hd hqa=>?_⟩
    rcases List.mem_cons.1 hd with e | hd
    ·rw [e] at hqa;exact absurd hqa ha
    ·exact h q hq hd hqa
end Go.Hx
namespace Go.Proofs.YtdpbdjdgdmheiaaGreat
open Go.Hx Go.Deep
section
variable {h:Heap} {k:Addr} {C:Circ}
theorem arc_len (hz:(chk C).2=0) {s n:Nat} {a:Arc} (ha:a∈warcs C s n):a.vl.length=(C.mx+1).toNat:=by
 obtain ⟨r,_,h⟩:=mem_warcs.1 ha
 obtain ⟨_,rfl⟩:=warc_some h
 exact valsOf_len hz bitsN_len bitsN_len
theorem c99g {f:Value} {p:Arc->Bool} {s:Sl} {L:List Arc} (hs:ArcsIs h s L) (hn:s.n<9223372036854775807)
  (hf:∀ (h':Heap) (x:AW) (K:Value->Heap->Prop),Ext h h'->x.arc∈L->Rd h' x.sl.a x.sl.n (bools x.vl)->(∀ h'',Ext h' h''->K (.bool (p x.arc)) h'')->CallV Tryz.prog f [.agg x.cs.toArray] h' K) :
  CallsH Tryz.prog 99 #[s.v,f] h (Xt (.bool (L.any p)) h):=by
 have hln:=hs.len
 obtain ⟨vs,rv,hvs,hvr⟩:=hs
 have hvl:vs.length=s.n:=rv.elen AW.csl (by omega)
 have key:CallsH Tryz.prog 140 #[.slice s.a s.n s.c,f] h fun w h'=>Ext h h'/\∃ z:Int,w=.int .i64 z/\(0≤z↔L.any p=true):=by
  refine run140 s.a s.n s.c f _ h (LoopT.to (n:=s.n) hn (fun i h'=>Ext h h'/\∀ a∈L.take i,p a=false) ⟨.refl _,by simp⟩ ?_)
  rintro i h1 K hi ⟨e,hI⟩ hK
  refine ⟨fun hlt=>?_,fun hlt=>⟨e,_,rfl,?_⟩⟩
  ·have hiv:i<vs.length:=by omega
   have hia:i<L.length:=by omega
   have harc:L[i]=vs[i].arc:=by simp only [<- hvs,List.getElem_map]
   unfold J140_1
   refine ⟨by omega,hlt,(rv.ext e).elem AW.csl (by omega) (i:=i) (by omega) fun ad hl3 re=>⟨_,_,_,_,_,re.cells,?_⟩⟩
   refine hf h1 vs[i] _ e (by rw [<- harc];exact List.getElem_mem hia) ((hvr _ (List.getElem_mem hiv)).ext e) fun h2 e2=>⟨_,rfl,?_⟩
   cases hp:p vs[i].arc with
   | true=>exact BIf.t ⟨e.trans e2,_,rfl,iff_of_true (by omega) (List.any_eq_true.2 ⟨vs[i].arc,by rw [<- harc];exact List.getElem_mem hia,hp⟩)⟩
   | false=>exact BIf.f (hK _ (by omega) ⟨e.trans e2,fun a ha=>by
     rw [List.take_succ_eq_append_getElem hia,List.mem_append,List.mem_singleton] at ha
     rcases ha with ha | rfl
     ·exact hI a ha
     ·rw [harc];exact hp⟩)
  ·rw [List.take_of_length_le (by omega)] at hI
   refine iff_of_false (by omega) ?_
   rw [Bool.not_eq_true,List.any_eq_false]
   exact fun a ha=>by rw [hI a ha];simp
 refine run99 s.a s.n s.c f _ h (key.mono ?_)
 rintro _ h2 ⟨e,z,rfl,hz⟩
 refine ⟨z,rfl,fun h0=>⟨by rw [hz.1 h0],e⟩,fun h0=>⟨?_,e⟩⟩
 cases hb:L.any p with
 | false=>rfl
 | true=>exact absurd (hz.2 hb) h0
theorem ok100:callOk Tryz.prog 100=true:=by kernel_rfl
theorem c100 {x:AW} {ad:Addr} {l:Int} (hl:cellH h ad=some (.int .i64 l)) (rv:Rd h x.sl.a x.sl.n (bools x.vl)) (h0:0≤l) (h1:l≤9223372036854775807) (h2:(l / 2).toNat<x.sl.n):CallsH Tryz.prog 100 #[.agg x.cs.toArray,.pointer (some ad)] h (Xt (.bool (lit x.vl l)) h):=by
 refine run100 x.row x.nx x.sl.a x.sl.n x.sl.c (some ad) _ h ?_
 unfold VC100
 intro h3
 have e3:Ext h h3:=Ext.push h _
 have r3:Rd h3 (some ⟨h.size,0,none⟩) 3 x.cs:=(Fr.lit (.refl h) x.cs 148 3 rfl).rd
 exact ⟨_,_,_,r3.fld 2 rfl,AtP.mk rfl ⟨_,Ext.cell e3 hl,use (c92 (rv.ext e3) h0 h1 h2) ⟨_,rfl,rfl,e3⟩⟩⟩
theorem lit_any (hz:(chk C).2=0) (hI:C.ins.length≤6) {s:Nat} {sl:Sl} (ha:ArcsIs h sl ((wdC C).arcs s)) {ad:Addr} {l:Int} (hl:cellH h ad=some (.int .i64 l)) (h0:0≤l) (h1:l≤2*C.mx+1) :
  CallsH Tryz.prog 99 #[sl.v,.func (.func 100) #[] #[.pointer (some ad)]] h (Xt (.bool (((wdC C).arcs s).any fun a=>lit a.vl l)) h):=by
 have hm:=(chk_bounds hz).1
 have hln:=ha.len
 have hw:((wdC C).arcs s).length≤2 ^ C.ins.length:=warcs_len
 refine c99g (p:=fun a=>lit a.vl l) ha ?_ fun h' x K e hx rv hK=>CallV.clo ok100 (useX (c100 (Ext.cell e hl) rv h0 (by omega) ?_) hK)
 ·have:2 ^ C.ins.length≤64:=Nat.pow_le_pow_right (n:=2) (by omega) hI
  omega
 ·have h3:=arc_len hz hx
  have h4:=rv.ilen
  have h5:x.arc.vl=x.vl:=rfl
  rw [h5] at h3
  omega
end
end Go.Proofs.YtdpbdjdgdmheiaaGreat
namespace Go.Hx
theorem WIs.newer {h h':Heap} {k:Addr} {C:Circ} (w:WIs h k C) (u:Ext h h'):WIs h' k C:=w.ext u
theorem and32 {y:Nat} (h:y<4294967296):bop .and .u64 (y:Int) 4294967295=(y:Int):=by
 rw [show (4294967295:Int)=((4294967295:Nat):Int) from rfl,and64 _ _ (by omega) (by omega)]
 have:=Nat.and_two_pow_sub_one_eq_mod y 32
 rw [show (2:Nat) ^ 32-1=4294967295 from rfl] at this
 rw [this]
 congr 1
 exact Nat.mod_eq_of_lt h
end Go.Hx
namespace Go.Proofs.YtdpbdjdgdmheiaaGreat
open Go.Hx Go.Deep
section
variable {h:Heap} {k:Addr} {C:Circ}
set_option maxRecDepth 4000 in
theorem c51 (w:WIs h k C) {l:Int} (h0:0≤l) (hl:l≤2*C.mx+1):CallsH Tryz.prog 51 #[.pointer (some k),.int .i64 l] h fun x h'=>Ext h h'/\∃ z,x=.int .i64 z/\BadIs (wdC C) (fun a=>lit a.vl l=true) z:=by
 obtain ⟨hz,hL,hI⟩:=fewE_0 w.few
 have wk:=wd_ok C
 have hn256:(wdC C).n≤256:=Nat.pow_le_pow_right (n:=2) (by omega) hL
 refine run51 (some k) l _ h ?_
 unfold VC51
 intro h1
 have e1:Ext h h1:=Ext.push h _
 have hl1:cellH h1 ⟨h.size,0,none⟩=some (.int .i64 l):=by
  have:=(Fr.lit (.refl h) [Value.int .i64 l] 3 1 rfl).rd.fld 0 rfl
  rwa [addr_add0] at this
 refine (c43 (w.ext e1)).mono ?_
 rintro _ h2 ⟨e2,b,M,rfl,hb,mp,dm⟩
 refine ⟨_,rfl,mp.range dm.nd fun h3 mi e3=>?_⟩
 have e03:=(e1.trans e2).trans e3
 have z03:h.size<h2.size:=by have:=e2.1;have:h1.size=h.size+1:=(by simp [h1]);omega
 refine ⟨fun z h' m=>∃ done,MapIt ukey dv h' h2.size b M done/\BadZ (wdC C) (fun a=>lit a.vl l) M done z/\Ext h h'/\cellH h' ⟨h.size,0,none⟩=some (.int .i64 l)/\m=leftM M done,⟨_,[],mi,.inl ⟨rfl,fun p _ hd=>by cases hd⟩,e03,Ext.cell (e2.trans e3) hl1,rfl⟩,?_⟩
 rintro z h4 m ⟨done,it,bz,e4,hl4,rfl⟩
 refine ⟨rfl,it.next (fun hall=>⟨e4,_,rfl,bz.done dm hall⟩) fun p hp hnd h5 e it5 u5 hk hv hme=>⟨_,rfl,_,rfl,?_⟩⟩
 have e45:Ext h h5:=e4.newer u5 fun i hi hh=>by omega
 have hl5:cellH h5 ⟨h.size,0,none⟩=some (.int .i64 l):=u5.cell (by simp only;omega) hl4
 unfold J51_2
 refine ⟨rfl,hme _ ⟨_,hk,_,hv,?_⟩⟩
 refine boxK rfl fun h6 e6 b6=>?_
 have it6:=it5.ext e6
 have e06:=e45.trans e6
 have hl6:=Ext.cell e6 hl5
 have st:=bz.step dm.nd hp
 have go:∀ h',Ext h6 h'->∀ y,y=(if 0≤z/\z≤p.2 then z else if (((wdC C).arcs p.1).any fun a=>lit a.vl l)=true then (p.2:Int) else z)->∃ m'<leftM M done,∃ done',MapIt ukey dv h' h2.size b M done'/\BadZ (wdC C) (fun a=>lit a.vl l) M done' y/\Ext h h'/\cellH h' ⟨h.size,0,none⟩=some (.int .i64 l)/\m'=leftM M done':=fun h' e7 y hy=>
  ⟨_,leftM_lt hp hnd,p.1::done,it6.ext e7,by rw [hy];exact st,e06.trans e7,Ext.cell e7 hl6,rfl⟩
 have third:¬ (0≤z/\z≤(p.2:Int))->J51_3 Tryz.prog h (some k) z (fun st' h'=>∃ m'<leftM M done,∃ done',MapIt ukey dv h' h2.size b M done'/\BadZ (wdC C) (fun a=>lit a.vl l) M done' st'/\Ext h h'/\cellH h' ⟨h.size,0,none⟩=some (.int .i64 l)/\m'=leftM M done') h5 (p.2:Int) h6:=fun hno=>by
  rw [if_neg hno] at st go
  obtain ⟨v,wb,WM,rk,r,wmp,wma,wmn⟩:=(w.ext e06).ex
  have hplt:p.1<2 ^ C.lats.length:=((dm.is p.1 p.2).1 (atM_nodup dm.nd hp)).1.lt wk
  unfold J51_3
  refine AtP.mk rfl ⟨_,rk.fld 11 rfl,_,by rw [<- addr_add0 ⟨h5.size,0,none⟩];exact cells1 (b6.fld 0 rfl),?_⟩
  show MapLook _ (ukey p.1) h6 (some wb) none _ _
  have fin:∀ h',Ext h6 h'->BIf (((wdC C).arcs p.1).any fun a=>lit a.vl l) (∃ m'<leftM M done,∃ done',MapIt ukey dv h' h2.size b M done'/\BadZ (wdC C) (fun a=>lit a.vl l) M done' (p.2:Int)/\Ext h h'/\cellH h' ⟨h.size,0,none⟩=some (.int .i64 l)/\m'=leftM M done') (∃ m'<leftM M done,∃ done',MapIt ukey dv h' h2.size b M done'/\BadZ (wdC C) (fun a=>lit a.vl l) M done' z/\Ext h h'/\cellH h' ⟨h.size,0,none⟩=some (.int .i64 l)/\m'=leftM M done'):=fun h' e7=>by
   cases hany:((wdC C).arcs p.1).any fun a=>lit a.vl l with
   | true=>exact BIf.t (go h' e7 _ (by rw [hany] <;> rfl))
   | false=>exact BIf.f (go h' e7 _ (by rw [hany] <;> rfl))
  refine MapIs.look (val:=Sl.v) ukr wmp p.1 (fun hnone=>?_) fun sl hsl=>⟨_,_,_,rfl,?_⟩
  ·have hnil:=wmn _ hplt hnone
   have ha0:ArcsIs h6 ⟨none,0,0⟩ ((wdC C).arcs p.1):=by rw [hnil];exact ⟨[],.nil,rfl,fun v hv=>by cases hv⟩
   exact useX (lit_any hz hI ha0 hl6 h0 hl) fun h7 e7=>⟨_,rfl,fin h7 e7⟩
  ·exact useX (lit_any hz hI (wma _ sl hsl) hl6 h0 hl) fun h7 e7=>⟨_,rfl,fin h7 e7⟩
 refine ⟨fun hz0=>⟨fun hle=>?_,fun hgt=>third (by omega)⟩,fun hz0=>third (by omega)⟩
 exact go h6 (.refl _) _ (by rw [if_pos ⟨hz0,hle⟩])
theorem c139 {y:Nat} (hy:y<4294967296):CallsH Tryz.prog 139 #[.int .u64 1,.int .u64 (y:Int)] h (Ret (.tuple #[.int .u64 0,.int .u64 (y:Int)]) h):=by
 refine run139 1 y _ h ?_
 unfold VC139
 have h1:bop .and .u64 1 4294967295=1:=and32 (y:=1) (by omega)
 have h2:(1:Int) / ((2 ^ 32:Nat):Int)=0:=rfl
 have h3:(y:Int) / ((2 ^ 32:Nat):Int)=0:=by
  rw [show ((2 ^ 32:Nat):Int)=4294967296 from rfl];omega
 rw [h1,h2,h3,and32 hy]
 have e1:IntKind.wrap .u64 (1*(y:Int))=y:=by rw [wr_u64];omega
 have e0:IntKind.wrap .u64 (0*(0:Int))=0:=rfl
 have e2:IntKind.wrap .u64 (0*(y:Int))=0:=by rw [Int.zero_mul];rfl
 have e3:IntKind.wrap .u64 (1*(0:Int))=0:=rfl
 rw [e1,e0,e2,e3,h3]
 exact ⟨rfl,rfl⟩
theorem c98 {y:Nat} (hy:y<4294967296):CallsH Tryz.prog 98 #[.int .u64 1,.int .u64 (y:Int)] h (Ret (.tuple #[.int .u64 0,.int .u64 (y:Int)]) h):=run98 1 y _ h (use (c139 hy) ⟨_,_,rfl,rfl,rfl⟩)
theorem c50 {a:Option Addr} {c:Nat} {x:Int} (r:Rd h a 1 (ints [x])) {n:Nat} (h1:1≤n) (hn:n≤100000):CallsH Tryz.prog 50 #[.slice a 1 c,.int .i64 (n:Int)] h fun w h'=>∃ ad,w=.slice (some ad) n n/\Fr h 1 h' (some ad) n n (ints (List.replicate n x)):=by
 refine run50 a 1 c n _ h ⟨fun hh=>absurd hh (by omega),fun _=>?_⟩
 unfold J50_0
 rw [show IntKind.wrap .u64 (((1:Nat):Int))=1 from rfl,show IntKind.wrap .u64 (n:Int)=n by rw [wr_u64];omega]
 refine use (c98 (y:=n) (by omega)) ⟨_,_,rfl,fun hh=>absurd hh (by omega),fun _=>⟨fun hh=>absurd hh (by omega),fun _=>?_⟩⟩
 unfold J50_1
 have hw:IntKind.wrap .i64 (n:Int)=n:=w64 (by omega) (by omega)
 rw [hw]
 refine ⟨by omega,Int.le_refl _,by omega,?_⟩
 intro h3
 have f3:Fr h 1 h3 (some ⟨h.size,0,none⟩) n n (ints (List.replicate n 0)):=by
  rw [ints,List.map_replicate]
  exact Fr.zeros (h:=h) (.int .i64 0) 3 n
 refine ⟨ints [x],(r.ext f3.ext).read,by show (1:Nat)=min 1 (Int.toNat (n:Int))*1;simp;omega,?_⟩
 have put:∀ {h':Heap} {i m:Nat} {K:Heap->Prop},Fr h 1 h' (some ⟨h.size,0,none⟩) n n (ints (List.replicate i x++List.replicate (n-i) 0))->i+m≤n->(∀ h'',Fr h 1 h'' (some ⟨h.size,0,none⟩) n n (ints (List.replicate (i+m) x++List.replicate (n-(i+m)) 0))->K h'') ->
   StoreH h' ((Addr.mk h.size 0 none).add i) (ints (List.replicate m x)) K:=fun {h' i m K} f hm hK=>by
  refine f.write i (ints (List.replicate m x)) (ints (List.replicate (i+m) x++List.replicate (n-(i+m)) 0)) (by simp [ints];omega) ints_one (by simp [ints];omega) (fun j hj=>?_) fun h'' f'=>hK h'' f'
  simp only [ints,List.length_map,List.length_replicate]
  by_cases h1:i≤j/\j<i+m
  ·rw [if_pos h1,List.getElem?_map,List.getElem?_append_left (by simp;omega),List.getElem?_replicate,if_pos (by omega),List.getElem?_map,List.getElem?_replicate,if_pos (by omega)]
  ·rw [if_neg h1,List.getElem?_map,List.getElem?_map]
   congr 1
   by_cases h2:j<i
   ·rw [List.getElem?_append_left (by simp;omega),List.getElem?_append_left (by simp;omega),List.getElem?_replicate,if_pos (by omega),List.getElem?_replicate,if_pos h2]
   ·rw [List.getElem?_append_right (by simp;omega),List.getElem?_append_right (by simp;omega),List.getElem?_replicate,List.getElem?_replicate,if_pos (by simp;omega),if_pos (by simp;omega)]
 have hm1:min 1 (Int.toNat (n:Int))=1:=by simp;omega
 rw [hm1]
 have:=put (i:=0) (m:=1) (K:=fun h_4=>LoopT (σ:=Int) (fun st_ h_st nx_st=>B50_4 (fun w h'=>∃ ad,w=.slice (some ad) n n/\Fr h 1 h' (some ad) n n (ints (List.replicate n x))) (n:Int) h (st_) h_st nx_st) (((1:Nat):Int)) h_4) (by simpa using f3) (by omega) fun h4 f4=>?_
 ·rw [addr_add0] at this
  exact this
 rw [Nat.zero_add] at f4
 refine ⟨fun t h' m=>∃ i:Nat,t=i/\1≤i/\i≤n/\m=n-i/\Fr h 1 h' (some ⟨h.size,0,none⟩) n n (ints (List.replicate i x++List.replicate (n-i) 0)),⟨_,1,rfl,Nat.le_refl _,h1,rfl,f4⟩,?_⟩
 rintro t h5 m ⟨i,rfl,hi1,hin,rfl,f⟩
 have hwn:Int.toNat (IntKind.wrap .i64 (n:Int))=n:=by rw [hw];omega
 unfold B50_4
 refine ⟨fun hlt=>?_,fun hlt=>?_⟩
 ·rw [hwn] at hlt
  unfold J50_3
  rw [hwn]
  have e1:Int.toNat ((n:Nat):Int)=n:=by omega
  have e2:Int.toNat ((i:Nat):Int)=i:=by omega
  have e3:Int.toNat 0=0:=rfl
  rw [e1,e2,e3,Nat.sub_zero]
  refine ⟨by omega,by omega,by omega,by omega,by omega,by omega,ints (List.replicate (min i (n-i)) x),?_,by simp [ints],?_⟩
  ·show ReadL h5 (cutA 1 (some ⟨h.size,0,none⟩) n (Int.toNat 0)) _
   rw [cutA0]
   have:=(f.rd.take (min i (n-i)) (by omega)).read
   rw [ints,<- List.map_take,List.take_append_of_le_length (by simp;omega),List.take_replicate,Nat.min_eq_left (by omega)] at this
   exact this
  ·have hcut:cutA 1 (some ⟨h.size,0,none⟩) n i=some ((Addr.mk h.size 0 none).add i):=by unfold cutA;rw [if_neg (by omega),Nat.mul_one];rfl
   rw [hcut]
   refine CpyH.some (put f (by omega) fun h6 f6=>⟨n-(i+min i (n-i)),by omega,i+min i (n-i),?_,by omega,by omega,rfl,f6⟩)
   rw [w64 (by omega) (by omega)]
   omega
 ·rw [hwn] at hlt
  obtain rfl:i=n:=by omega
  unfold J50_2
  rw [hwn]
  rw [Nat.sub_self,List.replicate_zero,List.append_nil] at f
  exact ⟨_,rfl,f⟩
end
end Go.Proofs.YtdpbdjdgdmheiaaGreat
namespace Go.Hx
open Classical in
noncomputable def depI (W:Wd) (s:Nat):Int:=if h:∃ d,IsDep W s d then (h.choose:Int) else -1
theorem depI_eq {W:Wd} {s d:Nat} (h:IsDep W s d):depI W s=d:=by
 have hex:∃ d,IsDep W s d:=⟨d,h⟩
 unfold depI
 rw [dif_pos hex,hex.choose_spec.uniq h]
theorem depI_no {W:Wd} {s:Nat} (h:∀ d,¬ IsDep W s d):depI W s = -1:=by
 unfold depI
 rw [dif_neg fun ⟨d,hd⟩=>h d hd]
noncomputable def depL (W:Wd):List Int:=(List.range W.n).map (depI W)
theorem depL_len {W:Wd}:(depL W).length=W.n:=by simp [depL]
theorem depL_at {W:Wd} {s:Nat} (h:s<W.n):(depL W)[s]?=some (depI W s):=by simp [depL,h]
def MostIs (W:Wd) (m:Int):Prop:=0≤m/\(∀ s d,IsDep W s d->(d:Int)≤m)/\(m=0∨∃ s d,IsDep W s d/\m=d)
theorem MostIs.uniq {W:Wd} {m n:Int} (a:MostIs W m) (b:MostIs W n):m=n:=by
 obtain ⟨a1,a2,a3⟩:=a
 obtain ⟨b1,b2,b3⟩:=b
 rcases a3 with rfl | ⟨s,d,h,rfl⟩ <;> rcases b3 with rfl | ⟨t,e,k,rfl⟩
 ·rfl
 ·have:=a2 t e k;omega
 ·have:=b2 s d h;omega
 ·have:=a2 t e k;have:=b2 s d h;omega
theorem range_set {n i:Nat} {f:Nat->Int} {v:Int}:((List.range n).map f).set i v=(List.range n).map fun s=>if s=i then v else f s:=by
 refine List.ext_getElem? fun j=>?_
 rw [List.getElem?_set,List.getElem?_map]
 by_cases hj:j<n
 ·by_cases hij:i=j
  ·subst hij;simp [hj]
  ·rw [if_neg hij];simp [hj,Ne.symm hij]
 ·have h1:(List.range n)[j]?=none:=List.getElem?_eq_none (by simp;omega)
  by_cases hij:i=j
  ·subst hij;simp [hj]
  ·rw [if_neg hij];simp [hj]
def depM (M:List (Nat×Nat)) (s:Nat):Int:=match atM M s with | some d=>(d:Int) | none =>-1
theorem DepM.dep {W:Wd} {M:List (Nat×Nat)} (dm:DepM W M) (s:Nat):depM M s=depI W s:=by
 unfold depM
 cases h:atM M s with
 | some d=>exact (depI_eq ((dm.is s d).1 h)).symm
 | none=>exact (depI_no fun d hd=>by rw [(dm.is s d).2 hd] at h;cases h).symm
end Go.Hx
namespace Go.Proofs.YtdpbdjdgdmheiaaGreat
open Go.Hx Go.Deep
section
variable {h:Heap} {v:CV} {C:Circ}
def SprP (C:Circ) (h:Heap) (x:Value) (h':Heap):Prop:=Ext h h'/\((fewE C=0/\∃ a n c m,x=.tuple #[.agg #[.slice a n c,.int .i64 m],.int .i64 0]/\Fr h 1 h' a n c (ints (depL (wdC C)))/\MostIs (wdC C) m)∨(fewE C≠0/\x=.tuple #[.agg #[.slice none 0 0,.int .i64 0],.int .i64 (fewE C)]))
theorem cells2 {h:Heap} {ad:Addr} {a:Option Addr} {n c:Nat} {m:Int} (r:Rd h (some ad) 2 [.slice a n c,.int .i64 m]) {Q:Option Addr->Nat->Nat->Int->Prop} (hq:Q a n c m):∃ (A:Option Addr) (N C:Nat) (t:Int),cellsH h ad 0 [.slice A N C,.int .i64 t]/\Q A N C t:=⟨_,_,_,_,r.cells,hq⟩
set_option maxRecDepth 4000 in
theorem c16 (r:CIs h v C) (ok:C.Ok):CallsH Tryz.prog 16 #[v.v] h (SprP C h):=by
 have q2:=r.len.l
 refine run16 v _ h ?_
 unfold VC16
 intro h1 h2
 have e1:Ext h h1:=Ext.box h _
 have e12:Ext h1 h2:=Ext.push h1 _
 have e2:=e1.trans e12
 have hs1:h1.size=h.size+1:=by simp [h1]
 have hs2:h2.size=h1.size+1:=by simp [h2]
 have hb:Rd h2 (some ⟨h.size,0,none⟩) 11 v.cs:=(boxC v 29).ext e12
 have fb:Fr h1 1 h2 (some ⟨h1.size,0,none⟩) 2 2 [.slice none 0 0,.int .i64 0]:=Fr.lit (.refl h1) [.slice none 0 0,.int .i64 0] 41 2 rfl
 refine ldC hb ((c42 (r.ext e2) ok).mono ?_)
 rintro _ h3 ⟨e3,⟨hz,k,rfl,w⟩ | ⟨hz,rfl⟩⟩
 rotate_left
 ·refine ⟨_,_,rfl,fun he=>absurd he hz,fun _=>?_⟩
  refine (fb.upd e3).put (ws:=[.slice none 0 0,.int .i64 0]) rfl (by simp [Value.oneCell']) fun h4 f4 u4=>cells2 f4.rd ⟨e1.trans f4.ext,.inr ⟨hz,rfl⟩⟩
 refine ⟨_,_,rfl,fun _=>?_,fun he=>absurd rfl he⟩
 obtain ⟨hc,hL,hI⟩:=fewE_0 hz
 have wk:=wd_ok C
 have hn256:2 ^ C.lats.length≤256:=Nat.pow_le_pow_right (n:=2) (by omega) hL
 have hn1:1≤2 ^ C.lats.length:=Nat.one_le_two_pow
 unfold J16_0
 intro h5
 have e5:Ext h3 h5:=Ext.push h3 _
 have r5:Rd h5 (some ⟨h3.size,0,none⟩) 1 (ints [-1]):=(Fr.lit (.refl h3) (ints [-1]) 3 1 rfl).rd
 refine ⟨_,_,_,(hb.ext (e3.trans e5)).fld 2 rfl,by omega,?_⟩
 rw [<- q2,pow64 (by omega)]
 refine (c50 r5 hn1 (by omega)).mono ?_
 rintro _ h6 ⟨ra,rfl,f6⟩
 refine ⟨_,_,_,rfl,?_⟩
 intro h7
 have f7:Fr h6 1 h7 (some ⟨h6.size,0,none⟩) 2 2 [.slice none 0 0,.int .i64 0]:=Fr.lit (.refl h6) [.slice none 0 0,.int .i64 0] 41 2 rfl
 have m7:Mem h5 h7 [⟨1,some ⟨h6.size,0,none⟩,2,2,[.slice none 0 0,.int .i64 0]⟩,⟨1,some ra,2 ^ C.lats.length,2 ^ C.lats.length,ints (List.replicate (2 ^ C.lats.length) (-1))⟩]:=((Mem.nil (.refl h5)).add (t:=⟨1,some ra,2 ^ C.lats.length,2 ^ C.lats.length,ints (List.replicate (2 ^ C.lats.length) (-1))⟩) f6).add (t:=⟨1,some ⟨h6.size,0,none⟩,2,2,[.slice none 0 0,.int .i64 0]⟩) f7
 refine (m7.get 0 rfl).put (ws:=[.slice (some ra) (2 ^ C.lats.length) (2 ^ C.lats.length),.int .i64 0]) rfl (by simp [Value.oneCell']) fun h8 f8 u8=>?_
 have m8:=m7.setAt 0 (t':=⟨1,some ⟨h6.size,0,none⟩,2,2,[.slice (some ra) (2 ^ C.lats.length) (2 ^ C.lats.length),.int .i64 0]⟩) rfl f8 u8 (.inl rfl)
 have e38:Ext h3 h8:=e5.trans m8.ext
 refine (c43 (w.ext e38)).mono ?_
 rintro _ h9 ⟨e9,b,M,rfl,hbb,mp,dm⟩
 refine ⟨_,rfl,mp.range dm.nd fun h10 mi e10=>?_⟩
 have m10:=m8.ext' (e9.trans e10)
 have z8:h6.size<h8.size:=(m8.get 0 rfl).own.lt
 have hrep:List.replicate (2 ^ C.lats.length) (-1:Int)=(List.range (wdC C).n).map fun s=>if s∈([]:List Nat) then depM M s else -1:=by
  refine List.ext_getElem? fun i=>?_
  rw [List.getElem?_replicate,List.getElem?_map]
  by_cases hi:i<2 ^ C.lats.length
  ·rw [if_pos hi,List.getElem?_range (show i<(wdC C).n from hi)];rfl
  ·rw [if_neg hi,List.getElem?_eq_none (by rw [List.length_range];exact Nat.not_lt.1 hi)];rfl
 rw [hrep] at m10
 refine ⟨fun _ h' m=>∃ done y,MapIt ukey dv h' h9.size b M done/\Mem h5 h' [⟨1,some ⟨h6.size,0,none⟩,2,2,[.slice (some ra) (2 ^ C.lats.length) (2 ^ C.lats.length),.int .i64 y]⟩,⟨1,some ra,2 ^ C.lats.length,2 ^ C.lats.length,ints ((List.range (wdC C).n).map fun s=>if s∈done then depM M s else -1)⟩] /\
  (0≤y/\(∀ p∈M,p.1∈done->(p.2:Int)≤y)/\(y=0∨∃ p∈M,y=p.2))/\m=leftM M done,⟨_,[],0,mi,m10,⟨Int.le_refl _,(fun p _ hd=>by cases hd),.inl rfl⟩,rfl⟩,?_⟩
 rintro _ h11 m ⟨done,y,it,mm,⟨y0,y1,y2⟩,rfl⟩
 have z9:h8.size≤h9.size:=e9.1
 refine ⟨rfl,it.next (fun hall=>?_) fun p hp hnd h12 e it12 u12 hk hv hme=>⟨_,rfl,_,rfl,?_⟩⟩
 ·unfold J16_1
  have efin:(List.range (wdC C).n).map (fun s=>if s∈done then depM M s else -1)=depL (wdC C):=by
   unfold depL
   refine List.map_congr_left fun s hs=>?_
   by_cases hd:s∈done
   ·rw [if_pos hd,dm.dep]
   ·rw [if_neg hd]
    refine (depI_no fun d hdep=>hd ?_).symm
    exact hall (s,d) (atM_mem ((dm.is s d).2 hdep))
  rw [efin] at mm
  refine cells2 (mm.get 0 rfl).rd ?_
  have fb11:Fr h1 1 h11 (some ⟨h1.size,0,none⟩) 2 2 [.slice none 0 0,.int .i64 0]:=fb.upd ((e3.trans e5).trans mm.ext)
  refine fb11.put (ws:=[.slice (some ra) (2 ^ C.lats.length) (2 ^ C.lats.length),.int .i64 y]) rfl (by simp [Value.oneCell']) fun h13 f13 u13=>cells2 f13.rd ⟨e1.trans f13.ext,.inl ⟨hz,_,_,_,_,rfl,?_,y0,fun s d hd=>?_,?_⟩⟩
  ·have z3:h2.size≤h3.size:=e3.1
   have:=mm.over (h00:=h) (u0:=(e2.trans e3).trans e5) u13 fun i ⟨ad,ha,e⟩=>by cases ha;have:=e5.1;simp only at e;omega
   exact this.get 1 rfl
  ·have h7:=atM_mem ((dm.is s d).2 hd)
   exact y1 (s,d) h7 (hall _ h7)
  ·rcases y2 with h | ⟨p,hp,h⟩
   ·exact .inl h
   ·exact .inr ⟨p.1,p.2,(dm.is p.1 p.2).1 (atM_nodup dm.nd hp),h⟩
 ·unfold J16_3
  refine ⟨rfl,hme _ ⟨_,hk,_,hv,?_⟩⟩
  have hit:h9.size<h11.size:=it.lt
  have mm12:Mem h5 h12 [⟨1,some ⟨h6.size,0,none⟩,2,2,[.slice (some ra) (2 ^ C.lats.length) (2 ^ C.lats.length),.int .i64 y]⟩,⟨1,some ra,2 ^ C.lats.length,2 ^ C.lats.length,ints ((List.range (wdC C).n).map fun s=>if s∈done then depM M s else -1)⟩]:=by
   have h7:=(m8.get 1 rfl).own.lt
   have h8z:=(m8.get 0 rfl).own.lt
   refine ⟨mm.ext.newer u12 fun i hi hh=>by have:=m8.ext.1;omega,fun t ht=>?_,mm.dis⟩
   have f:=mm.fr t ht
   refine ⟨f.own.upd u12 fun ad ha hh=>?_,f.new,mm.ext.newer u12 fun i hi hh=>by have:=m8.ext.1;omega⟩
   simp only [List.mem_cons,List.not_mem_nil,or_false] at ht
   rcases ht with rfl | rfl
   ·cases ha;simp only at hh h8z;omega
   ·cases ha;omega
  refine boxK rfl fun h14 e14 b14=>?_
  have mm14:=mm12.ext' e14
  have hplt:p.1<(wdC C).n:=((dm.is p.1 p.2).1 (atM_nodup dm.nd hp)).1.lt wk
  refine ⟨_,_,_,(mm14.get 0 rfl).rd.fld 0 rfl,Int.le_refl _,by omega,_,by show cellH h14 ((Addr.mk h12.size 0 none).add (Int.toNat 0*1))=_;exact b14.fld 0 rfl,by omega,by show ((p.1:Nat):Int)<((2 ^ C.lats.length:Nat):Int);exact Int.ofNat_lt.2 hplt,?_⟩
  refine AtP.mk rfl ((mm14.get 1 rfl).at1 (j:=((p.1:Nat):Int)) (by omega) (Int.ofNat_lt.2 hplt) rfl fun h15 u15 f15=>?_)
  have mm15:=mm14.setAt 1 (t':=⟨1,some ra,2 ^ C.lats.length,2 ^ C.lats.length,_⟩) rfl f15 u15 (.inl rfl)
  refine ⟨_,(mm15.get 0 rfl).rd.fld 1 rfl,(mm15.get 0 rfl).cellAt 1 (by omega) rfl fun h16 u16 f16=>?_⟩
  have mm16:=mm15.setAt 0 (t':=⟨1,some ⟨h6.size,0,none⟩,2,2,_⟩) rfl f16 u16 (.inl rfl)
  have es:(ints ((List.range (wdC C).n).map fun s=>if s∈done then depM M s else -1)).set (Int.toNat ((p.1:Nat):Int)) (.int .i64 (p.2:Int))=ints ((List.range (wdC C).n).map fun s=>if s∈p.1::done then depM M s else -1):=by
   rw [Int.toNat_natCast,ints,ints,<- List.map_set,range_set]
   congr 1
   refine List.map_congr_left fun s hs=>?_
   by_cases hsp:s=p.1
   ·subst hsp
    rw [if_pos rfl,if_pos (List.mem_cons_self ..)]
    unfold depM
    rw [atM_nodup dm.nd hp]
   ·rw [if_neg hsp]
    by_cases hd:s∈done
    ·rw [if_pos hd,if_pos (List.mem_cons_of_mem _ hd)]
    ·rw [if_neg hd,if_neg (by simp [hsp,hd])]
  refine ⟨_,leftM_lt hp hnd,p.1::done,max y p.2,?_,?_,⟨by omega,fun q hq hd=>?_,?_⟩,rfl⟩
  ·
   have it14:=it12.ext e14
   have hn1':ra.block<h8.size:=(m8.get 1 rfl).own.lt
   have it15:=it14.upd u15 (fun ⟨ad,ha,e⟩=>by cases ha;have:=mp.lt;omega) (fun ⟨ad,ha,e⟩=>by cases ha;omega)
   exact it15.upd u16 (fun ⟨ad,ha,e⟩=>by cases ha;have:=mp.lt;simp only at e;omega) (fun ⟨ad,ha,e⟩=>by cases ha;simp only at e;omega)
  ·rw [<- es]
   exact mm16
  ·rcases List.mem_cons.1 hd with e | hd
   ·have:q.2=p.2:=by
     have h1:=atM_nodup dm.nd (x:=q.1) (v:=q.2) hq
     have h2:=atM_nodup dm.nd (x:=p.1) (v:=p.2) hp
     rw [e,h2] at h1
     exact (Option.some.inj h1).symm
    omega
   ·have:=y1 q hq hd;omega
  ·rcases Int.le_total y p.2 with h | h
   ·exact .inr ⟨p,hp,by omega⟩
   ·rw [Int.max_eq_left h];exact y2
end
end Go.Proofs.YtdpbdjdgdmheiaaGreat
