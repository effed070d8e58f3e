/- Words and facts that the claim's proof leans on. No condition. -/
import Derived.Test.YtdpbdjdgdmheiaaGreatXC
import Derived.Test.YtdpbdjdgdmheiaaGreatPA
import Derived.Test.YtdpbdjdgdmheiaaGreatKEe
set_option linter.unusedVariables false
set_option linter.unusedSimpArgs false
namespace Go.Hx
theorem bit_div {n i:Nat}:(((n / 2 ^ i:Nat):Int).tmod 2=1)↔n.testBit i=true:=by
 rw [Nat.testBit_eq_decide_div_mod_eq,decide_eq_true_iff]
 generalize n / 2 ^ i=m
 rw [Int.tmod_eq_emod_of_nonneg (by omega)]
 omega
theorem div_next {n i:Nat} (hn:n<4611686018427387904):IntKind.wrap .i64 (Int.tdiv ((n / 2 ^ i:Nat):Int) 2)=((n / 2 ^ (i+1):Nat):Int):=by
 have h1:n / 2 ^ i≤n:=Nat.div_le_self _ _
 rw [Nat.pow_succ,<- Nat.div_div_eq_div_mul]
 generalize n / 2 ^ i=m at *
 rw [Int.tdiv_eq_ediv_of_nonneg (by omega),w64 (by omega) (by omega)]
 rfl
end Go.Hx
namespace Go.Proofs.YtdpbdjdgdmheiaaGreat
open Go.Hx Go.Deep
section
variable {h:Heap} {v:CV} {C:Circ} {a:Option Addr} {n c:Nat}
theorem c94 {n:Nat} (hn:n≤62) (h:Heap):CallsH Tryz.prog 94 #[.int .i64 (n:Int)] h (Ret (.int .u64 ((2 ^ n:Nat):Int)) h):=by
 refine run94 n _ h ?_
 unfold VC94
 refine LoopT.to2 (n:=n) (by omega) (fun i (x:Int) h'=>x=((2 ^ i:Nat):Int)/\h'=h) ⟨rfl,rfl⟩ ?_
 rintro i _ h' K hi ⟨rfl,rfl⟩ hK
 refine ⟨fun hlt=>hK _ _ (by omega) ⟨?_,rfl⟩,fun hlt=>?_⟩
 ·have h2:2 ^ (i+1)≤4611686018427387904:=Nat.le_trans (Nat.pow_le_pow_right (n:=2) (by omega) (show i+1≤62 by omega)) (by decide)
  rw [wr_u64]
  rw [Nat.pow_succ] at h2 ⊢
  omega
 ·obtain rfl:i=n:=by omega
  exact ⟨rfl,rfl⟩
theorem c137 {L:List Bool} (r:Rd h a n (bools L)) (hn:n≤62):CallsH Tryz.prog 137 #[.slice a n c] h (Ret (.tuple #[.int .i64 (numN L:Int),.int .i64 0]) h):=by
 have hl:=r.ilen
 refine run137 a n c _ h ⟨fun hx=>by omega,fun _=>?_⟩
 unfold J137_0
 refine LoopT.to2 (n:=n) (by omega) (fun i (x:Int) h'=>x=((numN (L.take i):Nat):Int)/\h'=h) ⟨rfl,rfl⟩ ?_
 rintro i _ h' K hi ⟨rfl,rfl⟩ hK
 refine ⟨fun hlt=>?_,fun hlt=>?_⟩
 ·unfold J137_2
  refine ⟨by omega,by omega,r.getn (i:=i) (by omega) fun ad hl1 hc=>⟨_,hc,?_⟩⟩
  have htk:L.take (i+1)=L.take i++[L[i]]:=List.take_succ_eq_append_getElem hl1
  have hlen:(L.take i).length=i:=by simp;omega
  have hnum:numN (L.take (i+1))=numN (L.take i)+L[i].toNat*2 ^ i:=by rw [htk,numN_snoc,hlen]
  have hlt2:=numN_lt (l:=L.take i)
  rw [hlen] at hlt2
  have h62:2 ^ i≤2 ^ 61:=Nat.pow_le_pow_right (n:=2) (by omega) (show i≤61 by omega)
  rw [show (2:Nat) ^ 61=2305843009213693952 by decide] at h62
  cases hb:L[i] with
  | true=>
   refine BIf.t (use (c94 (n:=i) (by omega) h') ⟨_,rfl,hK _ _ (by omega) ⟨?_,rfl⟩⟩)
   rw [hnum,hb,Bool.toNat_true,Nat.one_mul]
   generalize 2 ^ i=m at *
   rw [w64 (x:=(m:Int)) (by omega) (by omega),w64 (by omega) (by omega)]
   omega
  | false=>
   refine BIf.f (hK _ _ (by omega) ⟨?_,rfl⟩)
   rw [hnum,hb,Bool.toNat_false,Nat.zero_mul,Nat.add_zero]
 ·obtain rfl:i=n:=by omega
  rw [List.take_of_length_le (by omega)]
  exact ⟨rfl,rfl⟩
theorem c96 {L:List Bool} (r:Rd h a n (bools L)) (hn:n≤62):CallsH Tryz.prog 96 #[.slice a n c] h (Ret (.int .i64 (numN L:Int)) h):=
 run96 a n c _ h (use (c137 r hn) ⟨_,_,rfl,rfl,rfl⟩)
theorem c49 {h:Heap} {n size:Nat} (hn:n<4611686018427387904) (hs:size≤64):CallsH Tryz.prog 49 #[.int .i64 (n:Int),.int .i64 (size:Int)] h fun w h'=>∃ ad,w=.slice (some ad) size size/\Fr h 1 h' (some ad) size size (bools (bitsN n size)):=by
 refine run49 n size _ h ⟨by omega,Int.le_refl _,by omega,?_⟩
 intro h1
 have f1:Fr h 1 h1 (some ⟨h.size,0,none⟩) size size (bools (List.replicate size false)):=by
  rw [bools,List.map_replicate]
  exact Fr.zeros (h:=h) (.bool false) 4 size
 refine LoopT.to2 (n:=size) (by omega) (fun i (x:Int) h'=>x=((n / 2 ^ i:Nat):Int)/\Fr h 1 h' (some ⟨h.size,0,none⟩) size size (bools ((bitsN n size).take i++List.replicate (size-i) false))) ⟨by simp,by simpa using f1⟩ ?_
 rintro i _ h2 K hi ⟨rfl,f⟩ hK
 refine ⟨fun hlt=>?_,fun hlt=>?_⟩
 ·have hi':i<size:=by omega
  unfold J49_1
  have hbit:(bitsN n size)[i]'(by rw [bitsN_len];exact hi')=n.testBit i:=by
   have:=bitsN_at (n:=n) hi'
   rw [List.getElem?_eq_getElem (by rw [bitsN_len];exact hi')] at this
   exact Option.some.inj this
  have fin:∀ b,b=n.testBit i->(0:Int)≤i/\(i:Int)<(Int.toNat (size:Int):Nat)/\StoreH h2 (Addr.add ⟨h.size,0,none⟩ (Int.toNat (i:Int)*1)) [.bool b] fun h_3=>K (IntKind.wrap .i64 (Int.tdiv ((n / 2 ^ i:Nat):Int) 2),IntKind.wrap .i64 ((i:Int)+1)) h_3:=fun b hb=>by
   refine ⟨by omega,by omega,f.at1 (j:=(i:Int)) (by omega) (by omega) rfl fun h3 u3 f3=>hK _ h3 hi' ⟨div_next hn,?_⟩⟩
   rw [Int.toNat_natCast,bools,show Value.bool b=Value.bool ((bitsN n size)[i]'(by rw [bitsN_len];exact hi')) by rw [hbit,hb],<- List.map_set,replF_set hi' bitsN_len] at f3
   exact f3
  exact ⟨fun h1=>fin true (bit_div.1 h1).symm,fun h1=>fin false (by cases hb:n.testBit i with | false=>rfl | true=>exact absurd (bit_div.2 hb) h1)⟩
 ·obtain rfl:i=size:=by omega
  rw [List.take_of_length_le (by rw [bitsN_len];omega),Nat.sub_self,List.replicate_zero,List.append_nil] at f
  exact ⟨_,rfl,f⟩
theorem c101 (r:CIs h v C) (hz:(chk C).2=0) {st:List Bool} (rs:Rd h a n (bools st)) (hn:n=C.lats.length):CallsH Tryz.prog 101 #[v.v,.slice a n c] h (Xt (.bool (iniF C.lats st 0).isNone) h):=by
 have q2:=r.len.l
 have hnb:=chk_bounds hz
 have hsl:=rs.ilen
 refine run101 v a n c _ h ?_
 unfold VC101
 intro h1
 have e1:Ext h h1:=Ext.box h _
 have hb:Rd h1 (some ⟨h.size,0,none⟩) 11 v.cs:=boxC v 29
 refine LoopT.to (n:=v.l.n) (by omega) (fun i h'=>h'=h1/\iniF C.lats st 0=iniF (C.lats.drop i) (st.drop i) i) ⟨rfl,rfl⟩ ?_
 rintro i _ K hi ⟨rfl,hI⟩ hK
 refine ⟨_,_,_,hb.fld 2 rfl,fun hlt=>?_,fun hlt=>?_⟩
 ·unfold J101_1
  refine ⟨_,_,_,hb.fld 2 rfl,by omega,hlt,(r.l.ext e1).elem L3.csl (by omega) (i:=i) (by omega) fun ad hl1 re=>⟨_,re.fld 2 rfl,?_⟩⟩
  have his:i<st.length:=by omega
  obtain ⟨x1,x2,x3,x4⟩:=(dok_of hz).l i _ (List.getElem?_eq_getElem hl1)
  have hc:C.lats[i].c=0∨C.lats[i].c=1∨C.lats[i].c=C.lats[i].a:=by
   unfold rst at x4
   split at x4
   ·assumption
   ·simp at x4
  rw [iniF_drop hl1 his] at hI
  have get:∀ {K:Addr->Prop},(∀ ad,cellH h1 (ad.add (Int.toNat (i:Int)*1))=some (.bool st[i])->K ad)->(0:Int)≤i/\(i:Int)<(n:Nat)/\AtP a K:=fun hK=>⟨by omega,by omega,(rs.ext e1).getn (i:=i) (by omega) fun ad _ hc=>hK ad hc⟩
  have go:iniF C.lats st 0=iniF (C.lats.drop (i+1)) (st.drop (i+1)) (i+1)->K (IntKind.wrap .i64 ((i:Int)+1)) h1:=fun e=>hK _ (by omega) ⟨rfl,e⟩
  have no:iniF C.lats st 0=some i->Xt (.bool (iniF C.lats st 0).isNone) h (.bool false) h1:=fun e=>⟨by rw [e] <;> rfl,e1⟩
  have one:C.lats[i].c=1->(0:Int)≤i/\(i:Int)<(n:Nat)/\AtP a fun ad2=>∃ t2:Bool,cellH h1 (ad2.add (Int.toNat (i:Int)*1))=some (.bool t2)/\BIf (!t2) (Xt (.bool (iniF C.lats st 0).isNone) h (.bool false) h1) (K (IntKind.wrap .i64 ((i:Int)+1)) h1):=fun h1=>get fun ad hc=>⟨_,hc,by
   cases hb:st[i] with
   | true=>
    refine BIf.f (go ?_)
    rw [hI,if_neg (by rw [hb,h1];simp)]
   | false=>
    refine BIf.t (no ?_)
    rw [hI,if_pos (by rw [hb,h1];simp)]⟩
  refine ⟨fun h0=>get fun ad hc=>⟨_,hc,?_⟩,fun h0=>⟨fun h1=>one h1,fun h1=>go ?_⟩⟩
  ·cases hb:st[i] with
   | true=>
    refine BIf.t (no ?_)
    rw [hI,if_pos (by rw [hb,h0];simp)]
   | false=>
    refine BIf.f ⟨fun h1=>by omega,fun h1=>go ?_⟩
    rw [hI,if_neg (by rw [hb,h0];simp)]
  ·rw [hI,if_neg (by omega)]
 ·obtain rfl:i=v.l.n:=by omega
  rw [iniF_end (by omega)] at hI
  exact ⟨by rw [hI] <;> rfl,e1⟩
theorem c44 (r:CIs h v C) (ok:C.Ok):CallsH Tryz.prog 44 #[v.v] h (Xt (.int .i64 (fewE C)) h):=by
 have q1:=r.len.i
 have q2:=r.len.l
 have q8:=r.len.g
 refine run44 v _ h ?_
 unfold VC44
 intro h1
 have e1:Ext h h1:=Ext.box h _
 have hb:Rd h1 (some ⟨h.size,0,none⟩) 11 v.cs:=boxC v 29
 refine ldC hb (useX (c93 (r.ext e1) ok) fun h2 e2=>⟨_,_,rfl,fun hz=>?_,fun hz=>⟨by unfold fewE;rw [if_pos hz],e1.trans e2⟩⟩)
 have hb2:=hb.ext e2
 have six:(8<C.lats.length∨6<C.ins.length∨1024<C.ands.length)->Xt (.int .i64 (fewE C)) h (.int .i64 6) h2:=fun hx=>⟨by unfold fewE;rw [if_neg (by simp [hz]),if_pos hx],e1.trans e2⟩
 unfold J44_0
 refine ⟨_,_,_,hb2.fld 2 rfl,fun h1=>six (by omega),fun n1=>⟨_,_,_,hb2.fld 1 rfl,fun h1=>six (by omega),fun n2=>⟨_,_,_,hb2.fld 8 rfl,fun h1=>six (by omega),fun n3=>⟨?_,e1.trans e2⟩⟩⟩⟩
 unfold fewE
 rw [if_neg (by simp [hz]),if_neg (by omega)]
end
end Go.Proofs.YtdpbdjdgdmheiaaGreat
namespace Go.Hx
open Go.Proofs.YtdpbdjdgdmheiaaGreat
theorem LoopT.to222 {τ υ φ:Type} {B:τ×υ×φ×Int->Heap->(τ×υ×φ×Int->Heap->Prop)->Prop} {n:Nat} {h:Heap} {a0:τ} {b0:υ} {c0:φ} (hn:n<9223372036854775807) (I:Nat->τ->υ->φ->Heap->Prop) (h0:I 0 a0 b0 c0 h)
  (hs:∀ (i:Nat) (a:τ) (b:υ) (c:φ) (h':Heap) (K:τ×υ×φ×Int->Heap->Prop),i≤n->I i a b c h'->(∀ a' b' c' h'',i<n->I (i+1) a' b' c' h''->K (a',b',c',IntKind.wrap .i64 ((i:Int)+1)) h'')->B (a,b,c,i) h' K):LoopT B (a0,b0,c0,0) h:=by
 refine ⟨fun st h' m=>∃ i:Nat,st.2.2.2=i/\i≤n/\m=n-i/\I i st.1 st.2.1 st.2.2.1 h',⟨n,0,rfl,Nat.zero_le _,rfl,h0⟩,?_⟩
 rintro ⟨a,b,c,t⟩ h' m ⟨i,rfl,hi,rfl,hI⟩
 refine hs i a b c h' _ hi hI fun a' b' c' h'' hlt hI'=>?_
 exact ⟨n-(i+1),by omega,i+1,by show IntKind.wrap .i64 ((i:Int)+1)=_;rw [w64 (by omega) (by omega)];rfl,by omega,rfl,hI'⟩
theorem agrE {n0:Nat} {h h':Heap} (e:Ext h h') (hn:n0≤h.size):AgreeH n0 h h':=fun b hb=>e.2 b (by omega) fun x=>x
theorem fr_snoc {h0 h:Heap} {a:Option Addr} {n c:Nat} {l:List Sl} {x:Sl} (f:Fr h0 1 h a n c (l.map Sl.v++[x.v])):Fr h0 1 h a n c ((l++[x]).map Sl.v):=by rw [List.map_append];exact f
theorem wp2 {L:Nat} (h:L≤62):IntKind.wrap .i64 ((2 ^ L:Nat):Int)=((2 ^ L:Nat):Int):=by
 have h2:2 ^ L≤4611686018427387904:=Nat.le_trans (Nat.pow_le_pow_right (n:=2) (by omega) h) (by decide)
 generalize 2 ^ L=m at h2 ⊢
 exact w64 (by omega) (by omega)
theorem Sl.one {l:List Sl}:∀ y∈l.map Sl.v,y.oneCell'=true:=by intro y hy;obtain ⟨x,_,rfl⟩:=List.mem_map.1 hy;rfl
noncomputable def okB (C:Circ) (s i:Nat):Bool:=C.cons.all (lit (wvals C s i))
noncomputable def nxN (C:Circ) (s i:Nat):Nat:=numN (nextL C (wvals C s i))
noncomputable def holdsL (C:Circ) (s n:Nat):List Bool:=(List.range n).map (okB C s)
noncomputable def nextsL (C:Circ) (s n:Nat):List Int:=(List.range n).map fun i=>(nxN C s i:Int)
theorem holdsL_succ {C:Circ} {s n:Nat}:holdsL C s (n+1)=holdsL C s n++[okB C s n]:=by unfold holdsL;rw [List.range_succ,List.map_append];rfl
theorem nextsL_succ {C:Circ} {s n:Nat}:nextsL C s (n+1)=nextsL C s n++[(nxN C s n:Int)]:=by unfold nextsL;rw [List.range_succ,List.map_append];rfl
theorem warc_eq {C:Circ} {s i:Nat}:warc C s i=if okB C s i=true then some ⟨i,nxN C s i,wvals C s i⟩ else none:=rfl
theorem nxN_lt {C:Circ} {s i:Nat}:nxN C s i<2 ^ C.lats.length:=by
 have:=numN_lt (l:=nextL C (wvals C s i))
 rwa [show (nextL C (wvals C s i)).length=C.lats.length by simp [nextL]] at this
abbrev wcs (C:Circ) (v:CV) (H N V:Sl):List Value:=v.cs++[.int .i64 ((2 ^ C.lats.length:Nat):Int),.int .i64 ((2 ^ C.ins.length:Nat):Int),H.v,N.v,V.v]
structure RWs (h:Heap) (k:Addr) (C:Circ):Prop where
 few:fewE C=0
 ex:∃ (v:CV) (H N V:Sl) (hs ns vs:List Sl),Rd h (some k) 16 (wcs C v H N V)/\CIs h v C /\
  (H.n=2 ^ C.lats.length/\Rd h H.a (2 ^ C.lats.length) (hs.map Sl.v)/\∀ j x,hs[j]?=some x->x.n=2 ^ C.ins.length/\Rd h x.a (2 ^ C.ins.length) (bools (holdsL C j (2 ^ C.ins.length)))) /\
  (N.n=2 ^ C.lats.length/\Rd h N.a (2 ^ C.lats.length) (ns.map Sl.v)/\∀ j x,ns[j]?=some x->x.n=2 ^ C.ins.length/\Rd h x.a (2 ^ C.ins.length) (ints (nextsL C j (2 ^ C.ins.length)))) /\
  (V.n=2 ^ C.lats.length/\Rd h V.a (2 ^ C.lats.length) (vs.map Sl.v)/\∀ j x,vs[j]?=some x->x.n=2 ^ C.ins.length/\∃ ys:List Sl,Rd h x.a (2 ^ C.ins.length) (ys.map Sl.v) /\
   ∀ i y,ys[i]?=some y->y.n=(C.mx+1).toNat/\Rd h y.a (C.mx+1).toNat (bools (wvals C j i)))
theorem RWs.ext {h h':Heap} {k:Addr} {C:Circ} (w:RWs h k C) (u:Ext h h'):RWs h' k C:=by
 obtain ⟨f,v,H,N,V,hs,ns,vs,h1,h2,⟨a1,a2,a3⟩,⟨b1,b2,b3⟩,c1,c2,c3⟩:=w
 refine ⟨f,v,H,N,V,hs,ns,vs,h1.ext u,h2.ext u,⟨a1,a2.ext u,fun j x hx=>⟨(a3 j x hx).1,(a3 j x hx).2.ext u⟩⟩,⟨b1,b2.ext u,fun j x hx=>⟨(b3 j x hx).1,(b3 j x hx).2.ext u⟩⟩,c1,c2.ext u,fun j x hx=>?_⟩
 obtain ⟨d1,ys,d2,d3⟩:=c3 j x hx
 exact ⟨d1,ys,d2.ext u,fun i y hy=>⟨(d3 i y hy).1,(d3 i y hy).2.ext u⟩⟩
theorem rd_row2 {h:Heap} {a:Option Addr} {n m:Nat} {l:List Sl} (r:Rd h a n (l.map Sl.v)) {s:Nat} (hs:s<n) {α:Type} {f:α->Value} {L:List α} (hl:∀ x,l[s]?=some x->x.n=m/\Rd h x.a m (L.map f)) {i:Nat} (hi:i<m) {x:α} (hx:L[i]?=some x) {K:Addr->Prop} (hK:∀ ad,cellH h (ad.add (Int.toNat (i:Int)*1))=some (f x)->K ad) :
  AtP a fun ad6=>∃ (A1:Option Addr) (N1 C1:Nat),cellH h (ad6.add (Int.toNat (s:Int)*1))=some (.slice A1 N1 C1)/\(0:Int)≤(i:Int)/\(i:Int)<(N1:Nat)/\AtP A1 K:=by
 have hll:=r.ilen
 refine r.getn (i:=s) hs fun ad hl1 hc=>?_
 obtain ⟨e,r2⟩:=hl _ (List.getElem?_eq_getElem hl1)
 exact ⟨_,_,_,hc,by omega,by omega,(r2.getq (j:=(i:Int)) (by omega) (by simpa using hx) hK).2⟩
theorem holdsL_at {C:Circ} {s n i:Nat} (hi:i<n):(holdsL C s n)[i]?=some (okB C s i):=by unfold holdsL;simp [hi]
theorem nextsL_at {C:Circ} {s n i:Nat} (hi:i<n):(nextsL C s n)[i]?=some (nxN C s i:Int):=by unfold nextsL;simp [hi]
theorem RWs.rdH {h:Heap} {k:Addr} {C:Circ} (w:RWs h k C) {s i:Nat} (hs:s<2 ^ C.lats.length) (hi:i<2 ^ C.ins.length) {K:Bool->Prop} (hK:K (okB C s i)) :
  AtP (some k) fun ad5=>∃ (A:Option Addr) (N Cc:Nat),cellH h (ad5.add 13)=some (.slice A N Cc)/\(0:Int)≤(s:Int)/\(s:Int)<(N:Nat)/\AtP A fun ad6=>∃ (A1:Option Addr) (N1 C1:Nat),cellH h (ad6.add (Int.toNat (s:Int)*1))=some (.slice A1 N1 C1)/\(0:Int)≤(i:Int)/\(i:Int)<(N1:Nat) /\
   AtP A1 fun ad7=>∃ t:Bool,cellH h (ad7.add (Int.toNat (i:Int)*1))=some (.bool t)/\K t:=by
 obtain ⟨f,v,H,N,V,hs',ns,vs,h1,h2,⟨a1,a2,a3⟩,_⟩:=w
 exact AtP.mk rfl ⟨_,_,_,h1.fld 13 rfl,by omega,by omega,rd_row2 a2 hs (fun x hx=>a3 s x hx) hi (holdsL_at hi) fun ad hc=>⟨_,hc,hK⟩⟩
theorem RWs.rdN {h:Heap} {k:Addr} {C:Circ} (w:RWs h k C) {s i:Nat} (hs:s<2 ^ C.lats.length) (hi:i<2 ^ C.ins.length) {K:Int->Prop} (hK:K (nxN C s i:Int)) :
  AtP (some k) fun ad5=>∃ (A:Option Addr) (N Cc:Nat),cellH h (ad5.add 14)=some (.slice A N Cc)/\(0:Int)≤(s:Int)/\(s:Int)<(N:Nat)/\AtP A fun ad6=>∃ (A1:Option Addr) (N1 C1:Nat),cellH h (ad6.add (Int.toNat (s:Int)*1))=some (.slice A1 N1 C1)/\(0:Int)≤(i:Int)/\(i:Int)<(N1:Nat) /\
   AtP A1 fun ad7=>∃ t:Int,cellH h (ad7.add (Int.toNat (i:Int)*1))=some (.int .i64 t)/\K t:=by
 obtain ⟨f,v,H,N,V,hs',ns,vs,h1,h2,_,⟨a1,a2,a3⟩,_⟩:=w
 exact AtP.mk rfl ⟨_,_,_,h1.fld 14 rfl,by omega,by omega,rd_row2 a2 hs (fun x hx=>a3 s x hx) hi (nextsL_at hi) fun ad hc=>⟨_,hc,hK⟩⟩
theorem RWs.rdV {h:Heap} {k:Addr} {C:Circ} (w:RWs h k C) {s i:Nat} (hs:s<2 ^ C.lats.length) (hi:i<2 ^ C.ins.length) {K:Option Addr->Nat->Nat->Prop} (hK:∀ a c,Rd h a (C.mx+1).toNat (bools (wvals C s i))->K a (C.mx+1).toNat c) :
  AtP (some k) fun ad5=>∃ (A:Option Addr) (N Cc:Nat),cellH h (ad5.add 15)=some (.slice A N Cc)/\(0:Int)≤(s:Int)/\(s:Int)<(N:Nat)/\AtP A fun ad6=>∃ (A1:Option Addr) (N1 C1:Nat),cellH h (ad6.add (Int.toNat (s:Int)*1))=some (.slice A1 N1 C1)/\(0:Int)≤(i:Int)/\(i:Int)<(N1:Nat) /\
   AtP A1 fun ad7=>∃ (A2:Option Addr) (N2 C2:Nat),cellH h (ad7.add (Int.toNat (i:Int)*1))=some (.slice A2 N2 C2)/\K A2 N2 C2:=by
 obtain ⟨f,v,H,N,V,hs',ns,vs,h1,h2,_,_,a1,a2,a3⟩:=w
 have hll:=a2.ilen
 obtain ⟨e,ys,d2,d3⟩:=a3 s _ (List.getElem?_eq_getElem (by omega))
 have hyl:=d2.ilen
 refine AtP.mk rfl ⟨_,_,_,h1.fld 15 rfl,by omega,by omega,rd_row2 a2 (m:=2 ^ C.ins.length) (L:=ys) (f:=Sl.v) hs (fun x hx=>?_) hi (List.getElem?_eq_getElem (by omega)) fun ad hc=>?_⟩
 ·rw [List.getElem?_eq_getElem (by omega)] at hx
  obtain rfl:=Option.some.inj hx
  exact ⟨e,d2⟩
 ·obtain ⟨g1,g2⟩:=d3 i _ (List.getElem?_eq_getElem (by omega))
  refine ⟨_,_,_,hc,?_⟩
  rw [g1]
  exact hK _ _ g2
theorem RWs.circ {h:Heap} {k:Addr} {C:Circ} (w:RWs h k C):∃ v:CV,CIs h v C/\Rd h (some k) 11 v.cs:=by
 obtain ⟨f,v,H,N,V,hs',ns,vs,h1,h2,_⟩:=w
 exact ⟨v,h2,fun i u hu=>h1.read i u (by rw [List.getElem?_append_left (List.getElem?_eq_some_iff.1 hu).1];exact hu),rfl⟩
theorem RWs.st {h:Heap} {k:Addr} {C:Circ} (w:RWs h k C):cellH h (k.add 11)=some (.int .i64 ((2 ^ C.lats.length:Nat):Int)):=by
 obtain ⟨f,v,H,N,V,hs',ns,vs,h1,h2,_⟩:=w
 exact h1.fld 11 rfl
theorem RWs.rw {h:Heap} {k:Addr} {C:Circ} (w:RWs h k C):cellH h (k.add 12)=some (.int .i64 ((2 ^ C.ins.length:Nat):Int)):=by
 obtain ⟨f,v,H,N,V,hs',ns,vs,h1,h2,_⟩:=w
 exact h1.fld 12 rfl
noncomputable abbrev itH (a:Option Addr) (c:Nat) (C:Circ) (s n:Nat):Itm:=⟨1,a,n,c,bools (holdsL C s n)⟩
noncomputable abbrev itN (a:Option Addr) (c:Nat) (C:Circ) (s n:Nat):Itm:=⟨1,a,n,c,ints (nextsL C s n)⟩
abbrev itS (a:Option Addr) (c n:Nat) (l:List Sl):Itm:=⟨1,a,n,c,l.map Sl.v⟩
def VRows (C:Circ) (X:List Itm) (s:Nat) (ys:List Sl):Prop:=∀ i y,ys[i]?=some y->y.n=(C.mx+1).toNat/\(⟨1,y.a,(C.mx+1).toNat,y.c,bools (wvals C s i)⟩:Itm)∈X
theorem VRows.mono {C:Circ} {X X':List Itm} {s:Nat} {ys:List Sl} (v:VRows C X s ys) (h:∀ t∈X,t∈X'):VRows C X' s ys:=fun i y hy=>⟨(v i y hy).1,h _ (v i y hy).2⟩
theorem snoc_at {α:Type} {l:List α} {x y:α} {i:Nat} (h:(l++[x])[i]?=some y):l[i]?=some y∨(i=l.length/\y=x):=by
 rcases Nat.lt_or_ge i l.length with hi | hi
 ·rw [List.getElem?_append_left hi] at h;exact .inl h
 ·rw [List.getElem?_append_right hi] at h
  cases hd:i-l.length with
  | zero=>rw [hd] at h;exact .inr ⟨by omega,(Option.some.inj h).symm⟩
  | succ n=>rw [hd] at h;cases h
theorem Mem.addIn {h0 h h':Heap} {A B:List Itm} (m:Mem h0 h (A++B)) {t:Itm} (f:t.Fr h h'):Mem h0 h' (A++t::B):=(m.add f).perm List.perm_middle.symm
structure WMd (C:Circ) (h1 h:Heap) (k:Addr) (v:CV) (s:Nat) (H N V:Sl) (hs ns vs:List Sl) (X:List Itm):Prop where
 m:Mem h1 h (⟨1,some k,16,16,wcs C v H N V⟩::itS H.a H.c s hs::itS N.a N.c s ns::itS V.a V.c s vs::X)
 nH:H.n=s
 nN:N.n=s
 nV:V.n=s
 rH:∀ j x,hs[j]?=some x->x.n=2 ^ C.ins.length/\itH x.a x.c C j (2 ^ C.ins.length)∈X
 rN:∀ j x,ns[j]?=some x->x.n=2 ^ C.ins.length/\itN x.a x.c C j (2 ^ C.ins.length)∈X
 rV:∀ j x,vs[j]?=some x->x.n=2 ^ C.ins.length/\∃ ys,itS x.a x.c (2 ^ C.ins.length) ys∈X/\VRows C X j ys
theorem WMd.done {C:Circ} {h1 h:Heap} {k:Addr} {v:CV} {H N V:Sl} {hs ns vs:List Sl} {X:List Itm} (w:WMd C h1 h k v (2 ^ C.lats.length) H N V hs ns vs X) (few:fewE C=0) (r:CIs h v C):RWs h k C:=by
 obtain ⟨m,n1,n2,n3,r1,r2,r3⟩:=w
 have mx:∀ t∈X,t.Fr h1 h:=fun t ht=>m.fr t (by simp [ht])
 refine ⟨few,v,H,N,V,hs,ns,vs,(m.get 0 rfl).rd,r,⟨n1,(m.get 1 rfl).rd,fun j x hx=>?_⟩,⟨n2,(m.get 2 rfl).rd,fun j x hx=>?_⟩,n3,(m.get 3 rfl).rd,fun j x hx=>?_⟩
 ·obtain ⟨h1,h2⟩:=r1 j x hx
  exact ⟨h1,Rd.one (mx _ h2).own.rd⟩
 ·obtain ⟨h1,h2⟩:=r2 j x hx
  exact ⟨h1,Rd.one (mx _ h2).own.rd⟩
 ·obtain ⟨h1,ys,h2,h3⟩:=r3 j x hx
  refine ⟨h1,ys,Rd.one (mx _ h2).own.rd,fun i y hy=>?_⟩
  obtain ⟨h4,h5⟩:=h3 i y hy
  exact ⟨h4,Rd.one (mx _ h5).own.rd⟩
end Go.Hx
namespace Go.Proofs.YtdpbdjdgdmheiaaGreat
open Go.Hx Go.Deep
section
variable {h:Heap} {v:CV} {C:Circ}
theorem md_put {h1 h2 h h5:Heap} {s:Nat} {next_:Int->Heap->Prop} (hs256:s<256) (hR:2 ^ C.ins.length≤64) {ha na va:Option Addr} {hc nc vc:Nat} {H N V:Sl} {hs ns vs ys:List Sl} {X X':List Itm} (hX:∀ t∈X,t∈X')
  (w:WMd C h1 h5 ⟨h2.size,0,none⟩ v s H N V hs ns vs X) (m:Mem h1 h (itH ha hc C s (2 ^ C.ins.length)::itN na nc C s (2 ^ C.ins.length)::itS va vc (2 ^ C.ins.length) ys::⟨1,some ⟨h2.size,0,none⟩,16,16,wcs C v H N V⟩::itS H.a H.c s hs::itS N.a N.c s ns::itS V.a V.c s vs::X'))
  (hy:VRows C X' s ys) (hK:∀ h' H' N' V' hs' ns' vs' X'',(∀ t∈X',t∈X'')->WMd C h1 h' ⟨h2.size,0,none⟩ v (s+1) H' N' V' hs' ns' vs' X''->next_ (IntKind.wrap .i64 ((s:Int)+1)) h') :
  J46_3 h2 (s:Int) next_ ha (2 ^ C.ins.length) hc na (2 ^ C.ins.length) nc va (2 ^ C.ins.length) vc h:=by
 obtain ⟨_,n1,n2,n3,r1,r2,r3⟩:=w
 have lhs:=(m.get 4 rfl).rd.ilen
 have lns:=(m.get 5 rfl).rd.ilen
 have lvs:=(m.get 6 rfl).rd.ilen
 unfold J46_3
 refine ⟨_,_,_,(m.get 3 rfl).rd.fld 13 rfl,?_⟩
 intro h22
 have e22:Ext h h22:=Ext.push h _
 have m22:=m.ext' e22
 refine ⟨[Sl.v ⟨ha,2 ^ C.ins.length,hc⟩],(Fr.lit (.refl h) [Sl.v ⟨ha,2 ^ C.ins.length,hc⟩] 46 1 rfl).rd.read,rfl,?_⟩
 rw [n1]
 refine (m22.get 4 rfl).app rfl (by simp [Sl.v,Value.oneCell']) (by omega) fun a3 c3 h23 f23 u23 hor3=>?_
 have m23:=m22.setAt 4 (t':=itS a3 c3 (s+1) (hs++[⟨ha,2 ^ C.ins.length,hc⟩])) rfl (fr_snoc f23) u23 hor3
 refine (m23.get 3 rfl).cellAt 13 (by omega) rfl fun h24 u24 f24=>?_
 have m24:=m23.setAt 3 (t':=⟨1,some ⟨h2.size,0,none⟩,16,16,wcs C v ⟨a3,s+1,c3⟩ N V⟩) rfl f24 u24 (.inl rfl)
 refine ⟨_,_,_,(m24.get 3 rfl).rd.fld 14 rfl,?_⟩
 intro h25
 have e25:Ext h24 h25:=Ext.push h24 _
 have m25:=m24.ext' e25
 refine ⟨[Sl.v ⟨na,2 ^ C.ins.length,nc⟩],(Fr.lit (.refl h24) [Sl.v ⟨na,2 ^ C.ins.length,nc⟩] 22 1 rfl).rd.read,rfl,?_⟩
 rw [n2]
 refine (m25.get 5 rfl).app rfl (by simp [Sl.v,Value.oneCell']) (by omega) fun a4 c4 h26 f26 u26 hor4=>?_
 have m26:=m25.setAt 5 (t':=itS a4 c4 (s+1) (ns++[⟨na,2 ^ C.ins.length,nc⟩])) rfl (fr_snoc f26) u26 hor4
 refine (m26.get 3 rfl).cellAt 14 (by omega) rfl fun h27 u27 f27=>?_
 have m27:=m26.setAt 3 (t':=⟨1,some ⟨h2.size,0,none⟩,16,16,wcs C v ⟨a3,s+1,c3⟩ ⟨a4,s+1,c4⟩ V⟩) rfl f27 u27 (.inl rfl)
 refine ⟨_,_,_,(m27.get 3 rfl).rd.fld 15 rfl,?_⟩
 intro h28
 have e28:Ext h27 h28:=Ext.push h27 _
 have m28:=m27.ext' e28
 refine ⟨[Sl.v ⟨va,2 ^ C.ins.length,vc⟩],(Fr.lit (.refl h27) [Sl.v ⟨va,2 ^ C.ins.length,vc⟩] 47 1 rfl).rd.read,rfl,?_⟩
 rw [n3]
 refine (m28.get 6 rfl).app rfl (by simp [Sl.v,Value.oneCell']) (by omega) fun a5 c5 h29 f29 u29 hor5=>?_
 have m29:=m28.setAt 6 (t':=itS a5 c5 (s+1) (vs++[⟨va,2 ^ C.ins.length,vc⟩])) rfl (fr_snoc f29) u29 hor5
 refine (m29.get 3 rfl).cellAt 15 (by omega) rfl fun h30 u30 f30=>?_
 have m30:=m29.setAt 3 (t':=⟨1,some ⟨h2.size,0,none⟩,16,16,wcs C v ⟨a3,s+1,c3⟩ ⟨a4,s+1,c4⟩ ⟨a5,s+1,c5⟩⟩) rfl f30 u30 (.inl rfl)
 unfold J46_2
 refine hK h30 ⟨a3,s+1,c3⟩ ⟨a4,s+1,c4⟩ ⟨a5,s+1,c5⟩ (hs++[⟨ha,2 ^ C.ins.length,hc⟩]) (ns++[⟨na,2 ^ C.ins.length,nc⟩]) (vs++[⟨va,2 ^ C.ins.length,vc⟩]) (itH ha hc C s (2 ^ C.ins.length)::itN na nc C s (2 ^ C.ins.length)::itS va vc (2 ^ C.ins.length) ys::X') (fun t ht=>by simp [ht]) ⟨?_,rfl,rfl,rfl,fun j x hx=>?_,fun j x hx=>?_,fun j x hx=>?_⟩
 ·have m31:Mem h1 h30 ([itH ha hc C s (2 ^ C.ins.length),itN na nc C s (2 ^ C.ins.length),itS va vc (2 ^ C.ins.length) ys]++([⟨1,some ⟨h2.size,0,none⟩,16,16,wcs C v ⟨a3,s+1,c3⟩ ⟨a4,s+1,c4⟩ ⟨a5,s+1,c5⟩⟩,itS a3 c3 (s+1) (hs++[(⟨ha,2 ^ C.ins.length,hc⟩:Sl)]),itS a4 c4 (s+1) (ns++[(⟨na,2 ^ C.ins.length,nc⟩:Sl)]),itS a5 c5 (s+1) (vs++[(⟨va,2 ^ C.ins.length,vc⟩:Sl)])]++X')):=m30
  exact m31.perm (List.perm_append_comm_assoc _ _ _)
 ·rcases snoc_at hx with h | ⟨rfl,rfl⟩
  ·exact ⟨(r1 j x h).1,by simp [hX _ (r1 j x h).2]⟩
  ·rw [lhs];exact ⟨rfl,by simp⟩
 ·rcases snoc_at hx with h | ⟨rfl,rfl⟩
  ·exact ⟨(r2 j x h).1,by simp [hX _ (r2 j x h).2]⟩
  ·rw [lns];exact ⟨rfl,by simp⟩
 ·rcases snoc_at hx with h | ⟨rfl,rfl⟩
  ·obtain ⟨k1,zs,k2,k3⟩:=r3 j x h
   exact ⟨k1,zs,by simp [hX _ k2],k3.mono fun t ht=>by simp [hX _ ht]⟩
  ·rw [lvs];exact ⟨rfl,ys,by simp,hy.mono fun t ht=>by simp [ht]⟩
theorem c82f (r:CIs h v C) (ok:C.Ok) (hz:(chk C).2=0):CallsH Tryz.prog 82 #[v.v] h fun w h'=>∃ out a c,w=.tuple #[.slice a (List.length out) c,.int .i64 0]/\GoodC C out/\Fr h 1 h' a out.length c (ints (nI out)):=by
 refine run82 v _ h ?_
 unfold VC82
 intro h1
 have e1:Ext h h1:=Ext.box h _
 have hb:Rd h1 (some ⟨h.size,0,none⟩) 11 v.cs:=boxC v 29
 refine ldC hb (useX (c93 (r.ext e1) ok) fun h2 e2=>⟨_,_,rfl,fun hz=>?_,fun h=>absurd hz h⟩)
 refine ldC (hb.ext e2) ((c128 (r.ext (e1.trans e2)) ok (gd_of (chk_bounds hz).1.1 (chk_ok hz).2.1) (gok hz)).mono ?_)
 rintro _ h3 ⟨out,a,c,t,rfl,f⟩
 exact ⟨_,_,_,rfl,_,_,_,rfl,⟨hz,t⟩,f.base (e1.trans e2)⟩
theorem md_row {h1 hA h:Heap} {s i:Nat} {out:List Nat} {next_:(Option Addr×Nat×Nat)×(Option Addr×Nat×Nat)×(Option Addr×Nat×Nat)×Int->Heap->Prop} (hs:s<256) (hi:i<64) (hz:(chk C).2=0) (g:GoodC C out) (hL:C.lats.length≤8) (hI:C.ins.length≤6)
  (hb:Rd h1 (some ⟨hA.size,0,none⟩) 11 v.cs) (r:CIs h1 v C) {oa:Option Addr} {oc:Nat}
  {ha na va:Option Addr} {hc nc vc:Nat} {ys:List Sl} {X4 X':List Itm} (hO:(⟨1,oa,out.length,oc,ints (nI out)⟩:Itm)∈X') (m:Mem h1 h ([itH ha hc C s i,itN na nc C s i,itS va vc i ys]++X4++X'))
  (hK:∀ h' ha' hc' na' nc' va' vc' y,Mem h1 h' ([itH ha' hc' C s (i+1),itN na' nc' C s (i+1),itS va' vc' (i+1) (ys++[y])]++X4++⟨1,y.a,(C.mx+1).toNat,y.c,bools (wvals C s i)⟩::X')->y.n=(C.mx+1).toNat->next_ ((ha',i+1,hc'),(na',i+1,nc'),(va',i+1,vc'),IntKind.wrap .i64 ((i:Int)+1)) h') :
  J46_4 Tryz.prog hA oa out.length oc (s:Int) ha i hc na i nc va i vc (i:Int) next_ h:=by
 obtain ⟨q1,q2,q3,q4,q5,q6,q7,q8,q9,q10⟩:=r.len
 have lys:=(m.get 2 rfl).rd.ilen
 have hmx:=r.mx
 obtain ⟨⟨m0,m1⟩,_⟩:=chk_bounds hz
 obtain ⟨l1,_,_,l4,_⟩:=good_lits hz
 have e1:=m.ext
 have hbh:=hb.ext e1
 have rh:=r.ext e1
 have ro:Rd h oa out.length (ints (nI out)):=Rd.one (m.fr ⟨1,oa,out.length,oc,ints (nI out)⟩ (List.mem_append_right _ hO)).own.rd
 have hbl:∀ k,(Addr.add ⟨hA.size,0,none⟩ k).block<h.size:=fun k=>by have:=cellH_lt (hbh.fld 0 rfl);rw [add_block] at this ⊢;exact this
 unfold J46_4
 refine ⟨by have:=hbl 0;rwa [add_block] at this,ldC hbh ⟨hbl 2,_,_,_,hbh.fld 2 rfl,?_⟩⟩
 rw [<- q2]
 refine (c49 (n:=s) (size:=C.lats.length) (by omega) (by omega)).mono ?_
 rintro _ h9 ⟨sa,rfl,f9⟩
 have e9:Ext h h9:=f9.ext
 refine ⟨_,_,_,rfl,agrE e9 (Nat.le_refl _),hbl 1,_,_,_,(hbh.ext e9).fld 1 rfl,?_⟩
 rw [<- q1]
 refine (c49 (n:=i) (size:=C.ins.length) (by omega) (by omega)).mono ?_
 rintro _ h10 ⟨ra,rfl,f10⟩
 have e10:Ext h h10:=e9.trans f10.ext
 refine ⟨_,_,_,rfl,agrE f10.ext e9.1,(c83 (rh.ext e10) g (ro.ext e10) (f9.rd.ext f10.ext) f10.rd rfl rfl).mono ?_⟩
 rintro _ h11 ⟨ya,yc,rfl,f11⟩
 have e11:Ext h h11:=e10.trans f11.ext
 have m11:Mem h1 h11 ([itH ha hc C s i,itN na nc C s i,itS va vc i ys]++X4++⟨1,ya,(C.mx+1).toNat,yc,bools (wvals C s i)⟩::X'):=(m.ext' e10).addIn f11
 refine ⟨_,_,_,rfl,agrE f11.ext e10.1,_,_,_,(hbh.ext e11).fld 5 rfl,?_⟩
 have rv11:Rd h11 ya (C.mx+1).toNat (bools (wvals C s i)):=f11.rd
 refine use (c95 rv11 (rh.ext e11).c (by omega) fun x hx=>?_) ⟨_,rfl,?_⟩
 ·have:=l4 x hx;omega
 intro h13
 have m13:=m11.ext' (Ext.push h11 _:Ext h11 h13)
 refine ⟨[.bool (okB C s i)],(Fr.lit (.refl h11) [.bool (okB C s i)] 4 1 rfl).rd.read,rfl,?_⟩
 refine (m13.get 0 rfl).app rfl (by simp [Value.oneCell']) (by omega) fun a3 c3 h14 f14 u14 hor14=>?_
 have m14:Mem h1 h14 ([itH a3 c3 C s (i+1),itN na nc C s i,itS va vc i ys]++X4++⟨1,ya,(C.mx+1).toNat,yc,bools (wvals C s i)⟩::X'):=m13.setAt 0 (t':=itH a3 c3 C s (i+1)) rfl (by show Fr _ _ _ _ _ _ (bools (holdsL C s (i+1)));rw [holdsL_succ,bools,List.map_append];exact f14) u14 hor14
 have rv14:Rd h14 ya (C.mx+1).toNat (bools (wvals C s i)):=Rd.one (m14.fr ⟨1,ya,(C.mx+1).toNat,yc,bools (wvals C s i)⟩ (List.mem_append_right _ (List.mem_cons_self ..))).own.rd
 refine ldC (hb.ext m14.ext) ((c97 (r.ext m14.ext) hz rv14 rfl).mono ?_)
 rintro _ h15 ⟨na2,nc2,rfl,f15⟩
 refine ⟨_,_,_,rfl,use (c96 f15.rd (by omega)) ⟨_,rfl,?_⟩⟩
 intro h17
 have m17:=m14.ext' (f15.ext.trans (Ext.push h15 _):Ext h14 h17)
 refine ⟨[.int .i64 (nxN C s i:Int)],(Fr.lit (.refl h15) [.int .i64 (nxN C s i:Int)] 3 1 rfl).rd.read,rfl,?_⟩
 refine (m17.get 1 rfl).app rfl (by simp [Value.oneCell']) (by omega) fun a4 c4 h18 f18 u18 hor18=>?_
 have m18:Mem h1 h18 ([itH a3 c3 C s (i+1),itN a4 c4 C s (i+1),itS va vc i ys]++X4++⟨1,ya,(C.mx+1).toNat,yc,bools (wvals C s i)⟩::X'):=m17.setAt 1 (t':=itN a4 c4 C s (i+1)) rfl (by show Fr _ _ _ _ _ _ (ints (nextsL C s (i+1)));rw [nextsL_succ,ints,List.map_append];exact f18) u18 hor18
 intro h19
 have m19:=m18.ext' (Ext.push h18 _:Ext h18 h19)
 refine ⟨[Sl.v ⟨ya,(C.mx+1).toNat,yc⟩],(Fr.lit (.refl h18) [Sl.v ⟨ya,(C.mx+1).toNat,yc⟩] 46 1 rfl).rd.read,rfl,?_⟩
 refine (m19.get 2 rfl).app rfl (by simp [Sl.v,Value.oneCell']) (by omega) fun a5 c5 h20 f20 u20 hor20=>?_
 have m20:Mem h1 h20 ([itH a3 c3 C s (i+1),itN a4 c4 C s (i+1),itS a5 c5 (i+1) (ys++[(⟨ya,(C.mx+1).toNat,yc⟩:Sl)])]++X4++⟨1,ya,(C.mx+1).toNat,yc,bools (wvals C s i)⟩::X'):=m19.setAt 2 (t':=itS a5 c5 (i+1) (ys++[(⟨ya,(C.mx+1).toNat,yc⟩:Sl)])) rfl (fr_snoc f20) u20 hor20
 exact hK h20 a3 c3 a4 c4 a5 c5 ⟨ya,(C.mx+1).toNat,yc⟩ m20 rfl
set_option maxRecDepth 4000 in
theorem c46 (r:CIs h v C) (ok:C.Ok) (few:fewE C=0):CallsH Tryz.prog 46 #[v.v] h fun w h'=>Ext h h'/\∃ k,w=.pointer (some k)/\h.size≤k.block/\RWs h' k C:=by
 obtain ⟨hz,hL,hI⟩:=fewE_0 few
 obtain ⟨q1,q2,q3,q4,q5,q6,q7,q8,q9,q10⟩:=r.len
 have hn256:2 ^ C.lats.length≤256:=Nat.pow_le_pow_right (n:=2) (by omega) hL
 have hi64:2 ^ C.ins.length≤64:=Nat.pow_le_pow_right (n:=2) (by omega) hI
 refine run46 v _ h ?_
 unfold VC46
 intro h1
 have e1:Ext h h1:=Ext.box h _
 have hb:Rd h1 (some ⟨h.size,0,none⟩) 11 v.cs:=boxC v 29
 have hbl:∀ k,(Addr.add ⟨h.size,0,none⟩ k).block<h1.size:=fun k=>by have:=cellH_lt (hb.fld 0 rfl);rw [add_block] at this ⊢;exact this
 refine ⟨by have:=hbl 0;rwa [add_block] at this,ldC hb ⟨hbl 2,_,_,_,hb.fld 2 rfl,?_⟩⟩
 have kL:CallsH Tryz.prog 94 #[.int .i64 ((v.l.n:Nat):Int)] h1 (Ret (.int .u64 ((2 ^ C.lats.length:Nat):Int)) h1):=by rw [<- q2];exact c94 (by omega) h1
 have kI:CallsH Tryz.prog 94 #[.int .i64 ((v.i.n:Nat):Int)] h1 (Ret (.int .u64 ((2 ^ C.ins.length:Nat):Int)) h1):=by rw [<- q1];exact c94 (by omega) h1
 refine use kL ⟨_,rfl,agrE (.refl h1) (Nat.le_refl _),hbl 1,_,_,_,hb.fld 1 rfl,?_⟩
 refine use kI ⟨_,rfl,agrE (.refl h1) (Nat.le_refl _),?_⟩
 rw [wp2 (L:=C.lats.length) (by omega),wp2 (L:=C.ins.length) (by omega)]
 intro h3
 have f3:Fr h1 1 h3 (some ⟨h1.size,0,none⟩) 16 16 (wcs C v ⟨none,0,0⟩ ⟨none,0,0⟩ ⟨none,0,0⟩):=Fr.lit (.refl h1) (wcs C v ⟨none,0,0⟩ ⟨none,0,0⟩ ⟨none,0,0⟩) 94 16 rfl
 refine ⟨agrE f3.ext (Nat.le_refl _),ldC (hb.ext f3.ext) ((c82f (r.ext (e1.trans f3.ext)) ok hz).mono ?_)⟩
 rintro _ h4 ⟨out,oa,oc,rfl,g,f4⟩
 have m4:Mem h1 h4 [⟨1,oa,out.length,oc,ints (nI out)⟩,⟨1,some ⟨h1.size,0,none⟩,16,16,wcs C v ⟨none,0,0⟩ ⟨none,0,0⟩ ⟨none,0,0⟩⟩]:=((Mem.nil (.refl h1)).add (t:=⟨1,some ⟨h1.size,0,none⟩,16,16,wcs C v ⟨none,0,0⟩ ⟨none,0,0⟩ ⟨none,0,0⟩⟩) f3).add (t:=⟨1,oa,out.length,oc,ints (nI out)⟩) f4
 have r1:=r.ext e1
 refine ⟨_,_,_,_,rfl,LoopT.to (n:=2 ^ C.lats.length) (by omega) (fun s h'=>∃ H N V hs ns vs X,(⟨1,oa,out.length,oc,ints (nI out)⟩:Itm)∈X/\WMd C h1 h' ⟨h1.size,0,none⟩ v s H N V hs ns vs X) ?_ ?_⟩
 ·have z:∀ (l:List Itm),Mem h1 h4 l->Mem h1 h4 (itS none 0 0 []::l):=fun l m=>m.add (t:=itS none 0 0 []) (Fr.nil (.refl h4))
  refine ⟨⟨none,0,0⟩,⟨none,0,0⟩,⟨none,0,0⟩,[],[],[],[⟨1,oa,out.length,oc,ints (nI out)⟩],by simp,?_,rfl,rfl,rfl,(by intro j x hx;cases hx),(by intro j x hx;cases hx),(by intro j x hx;cases hx)⟩
  exact (z _ (z _ (z _ m4))).perm (List.perm_append_comm (l₁:=[itS none 0 0 [],itS none 0 0 [],itS none 0 0 [],⟨1,oa,out.length,oc,ints (nI out)⟩]) (l₂:=[⟨1,some ⟨h1.size,0,none⟩,16,16,wcs C v ⟨none,0,0⟩ ⟨none,0,0⟩ ⟨none,0,0⟩⟩]))
 rintro s h5 K hs ⟨H,N,V,hs',ns,vs,X,hO,w⟩ hK
 refine ⟨_,(w.m.get 0 rfl).rd.fld 11 rfl,fun hlt=>?_,fun hlt=>?_⟩
 ·have hs2:s<2 ^ C.lats.length:=by omega
  unfold J46_1
  refine LoopT.to222 (n:=2 ^ C.ins.length) (by omega) (fun i a b c h'=>∃ ys X',(∀ t∈X,t∈X')/\VRows C X' s ys/\a.2.1=i/\b.2.1=i/\c.2.1=i/\Mem h1 h' ([itH a.1 a.2.2 C s i,itN b.1 b.2.2 C s i,itS c.1 c.2.2 i ys]++[⟨1,some ⟨h1.size,0,none⟩,16,16,wcs C v H N V⟩,itS H.a H.c s hs',itS N.a N.c s ns,itS V.a V.c s vs]++X')) ?_ ?_
  ·have z:∀ (l:List Itm),Mem h1 h5 l->Mem h1 h5 (itS none 0 0 []::l):=fun l m=>m.add (t:=itS none 0 0 []) (Fr.nil (.refl h5))
   exact ⟨[],X,fun _ h=>h,(by intro j x hx;cases hx),rfl,rfl,rfl,z _ (z _ (z _ w.m))⟩
  rintro i ⟨ha,hn,hc⟩ ⟨na,nn,nc⟩ ⟨va,vn,vc⟩ h7 K2 hi ⟨ys,X',hX,hy,h1',h2,h3,m⟩ hK2
  simp only at h1' h2 h3
  subst h1' h2 h3
  dsimp only
  have lys:=(m.get 2 rfl).rd.ilen
  refine ⟨_,(m.get 3 rfl).rd.fld 12 rfl,fun hlt=>?_,fun hlt=>?_⟩
  ·refine md_row (by omega) (by omega) hz g hL hI hb r1 (hX _ hO) m fun h' ha' hc' na' nc' va' vc' y m' hyn=>hK2 _ _ _ h' (by omega) ⟨ys++[y],_,fun t ht=>List.mem_cons_of_mem _ (hX t ht),fun j x hx=>?_,rfl,rfl,rfl,m'⟩
   rcases snoc_at hx with h | ⟨rfl,rfl⟩
   ·exact ⟨(hy j x h).1,List.mem_cons_of_mem _ (hy j x h).2⟩
   ·rw [lys]
    exact ⟨hyn,List.mem_cons_self ..⟩
  ·obtain rfl:vn=2 ^ C.ins.length:=by omega
   exact md_put (by omega) hi64 hX w m hy fun h' H' N' V' hs'' ns' vs' X'' hX2 w'=>hK h' hs2 ⟨H',N',V',hs'',ns',vs',X'',hX2 _ (hX _ hO),w'⟩
 ·obtain rfl:s=2 ^ C.lats.length:=by omega
  exact ⟨e1.trans w.m.ext,_,rfl,e1.1,w.done few (r1.ext w.m.ext)⟩
end
end Go.Proofs.YtdpbdjdgdmheiaaGreat
namespace Go.Hx
open Go.Proofs.YtdpbdjdgdmheiaaGreat
theorem depI_cases {W:Wd} (s:Nat):(∃ d:Nat,IsDep W s d/\depI W s=d)∨((∀ d,¬ IsDep W s d)/\depI W s = -1):=by
 by_cases h:∃ d,IsDep W s d
 ·obtain ⟨d,hd⟩:=h
  exact .inl ⟨d,hd,depI_eq hd⟩
 ·exact .inr ⟨fun d hd=>h ⟨d,hd⟩,depI_no fun d hd=>h ⟨d,hd⟩⟩
theorem depI_is {W:Wd} {s d:Nat} (h:depI W s=(d:Int)):IsDep W s d:=by
 rcases depI_cases (W:=W) s with ⟨e,he,hx⟩ | ⟨_,hx⟩
 ·obtain rfl:e=d:=by omega
  exact he
 ·omega
noncomputable def levI (W:Wd) (d:Int) (s:Nat):Int:=if depI W s≤d then depI W s else -1
noncomputable def levL (W:Wd) (d:Int):List Int:=(List.range W.n).map (levI W d)
theorem mem_st {C:Circ} {s:Nat} (hs:s<2 ^ C.lats.length):s∈(wdC C).st↔wst C s=true:=by
 show s∈(List.range (2 ^ C.lats.length)).filter (wst C)↔_
 rw [List.mem_filter,List.mem_range]
 exact ⟨fun h=>h.2,fun h=>⟨hs,h⟩⟩
theorem levI_0 {C:Circ} {s:Nat} (hs:s<2 ^ C.lats.length):levI (wdC C) 0 s=if wst C s=true then 0 else -1:=by
 unfold levI
 by_cases hw:wst C s=true
 ·have h0:IsDep (wdC C) s 0:=⟨.zero ((mem_st hs).2 hw),fun e _=>Nat.zero_le e⟩
  rw [depI_eq h0,if_pos hw]
  rfl
 ·rw [if_neg hw]
  rcases depI_cases (W:=wdC C) s with ⟨e,he,hx⟩ | ⟨_,hx⟩
  ·cases e with
   | zero=>
    cases he.1 with
    | zero h=>exact absurd ((mem_st hs).1 h) hw
   | succ e=>rw [if_neg (by omega)]
  ·rw [hx];rfl
theorem okB_arc {C:Circ} {s i:Nat} (hi:i<2 ^ C.ins.length) (h:okB C s i=true):(⟨i,nxN C s i,wvals C s i⟩:Arc)∈(wdC C).arcs s:=mem_warcs.2 ⟨i,hi,by rw [warc_eq,if_pos h]⟩
theorem arc_okB {C:Circ} {s:Nat} {a:Arc} (h:a∈(wdC C).arcs s):∃ i,i<2 ^ C.ins.length/\okB C s i=true/\a=⟨i,nxN C s i,wvals C s i⟩:=by
 obtain ⟨i,hi,hw⟩:=mem_warcs.1 h
 rw [warc_eq] at hw
 by_cases ho:okB C s i=true
 ·rw [if_pos ho] at hw
  exact ⟨i,hi,ho,(Option.some.inj hw).symm⟩
 ·rw [if_neg ho] at hw;cases hw
structure Lvl (C:Circ) (d s i:Nat) (F:List Int):Prop where
 len:F.length=2 ^ C.lats.length
 val:∀ t x,F[t]?=some x->x=levI (wdC C) d t∨(x=d+1/\depI (wdC C) t=d+1)
 done:∀ s' i',(s'<s∨(s'=s/\i'<i))->i'<2 ^ C.ins.length->okB C s' i'=true->depI (wdC C) s'=d->∃ x,F[nxN C s' i']?=some x/\0≤x
theorem Lvl.start {C:Circ} {d:Nat}:Lvl C d 0 0 (levL (wdC C) d):=by
 refine ⟨by simp [levL,wdC],fun t x hx=>.inl ?_,fun s' i' h=>by omega⟩
 unfold levL at hx
 rw [List.getElem?_map,Option.map_eq_some_iff] at hx
 obtain ⟨u,hu,rfl⟩:=hx
 obtain ⟨h1,h2⟩:=List.getElem?_eq_some_iff.1 hu
 rw [List.getElem_range] at h2
 rw [h2]
theorem Lvl.ne {C:Circ} {d s i:Nat} {F:List Int} {x:Int} (l:Lvl C d s i F) (hx:F[s]?=some x) (h:x≠d):Lvl C d (s+1) 0 F:=by
 refine ⟨l.len,l.val,fun s' i' h' hi' ho hd=>?_⟩
 by_cases hs:s'=s
 ·subst hs
  exfalso
  rcases l.val _ x hx with e | ⟨e,e2⟩
  ·unfold levI at e
   rw [hd,if_pos (by omega)] at e
   exact h e
  ·omega
 ·exact l.done s' i' (by omega) hi' ho hd
theorem Lvl.eq {C:Circ} {d s i:Nat} {F:List Int} (l:Lvl C d s i F) (hx:F[s]?=some (d:Int)):depI (wdC C) s=d:=by
 rcases l.val _ _ hx with e | ⟨e,e2⟩
 ·unfold levI at e
  split at e <;> omega
 ·omega
theorem Lvl.row {C:Circ} {d s i:Nat} {F:List Int} (l:Lvl C d s i F) (hi:i=2 ^ C.ins.length):Lvl C d (s+1) 0 F:=
 ⟨l.len,l.val,fun s' i' h' hi' ho hd=>l.done s' i' (by omega) hi' ho hd⟩
theorem Lvl.skip {C:Circ} {d s i:Nat} {F:List Int} (l:Lvl C d s i F) (h:okB C s i=true->∃ x,F[nxN C s i]?=some x/\0≤x):Lvl C d s (i+1) F:=by
 refine ⟨l.len,l.val,fun s' i' h' hi' ho hd=>?_⟩
 by_cases hs:s'=s/\i'=i
 ·obtain ⟨rfl,rfl⟩:=hs
  exact h ho
 ·exact l.done s' i' (by omega) hi' ho hd
theorem Lvl.put {C:Circ} {d s i:Nat} {F:List Int} {y:Int} (l:Lvl C d s i F) (hs:F[s]?=some (d:Int)) (hi:i<2 ^ C.ins.length) (ho:okB C s i=true) (hy:F[nxN C s i]?=some y) (h0:y<0):Lvl C d s (i+1) (F.set (nxN C s i) (d+1)):=by
 have hd:=l.eq hs
 have hlt:nxN C s i<F.length:=by rw [l.len];exact nxN_lt
 have hdn:depI (wdC C) (nxN C s i)=d+1:=by
  have r:Rch (wdC C) (d+1) (nxN C s i):=.step (depI_is hd).1 (okB_arc hi ho)
  obtain ⟨e,h1,h2⟩:=IsDep.of r
  have h3:=depI_eq h2
  rcases l.val _ _ hy with e1 | ⟨e1,e2⟩
  ·unfold levI at e1
   split at e1 <;> omega
  ·omega
 have at':∀ (t:Nat) (x:Int),F[t]?=some x->0≤x->∃ x,(F.set (nxN C s i) ((d:Int)+1))[t]?=some x/\0≤x:=fun t x hx h=>by
  by_cases ht:nxN C s i=t
  ·exact ⟨_,by rw [List.getElem?_set,if_pos ht,if_pos (by omega)],by omega⟩
  ·exact ⟨x,by rw [List.getElem?_set,if_neg ht,hx],h⟩
 refine ⟨by rw [List.length_set,l.len],fun t x hx=>?_,fun s' i' h' hi' ho' hd'=>?_⟩
 ·by_cases ht:nxN C s i=t
  ·rw [List.getElem?_set,if_pos ht,if_pos (by omega)] at hx
   subst ht
   exact .inr ⟨(Option.some.inj hx).symm,hdn⟩
  ·rw [List.getElem?_set,if_neg ht] at hx
   exact l.val t x hx
 ·by_cases hs:s'=s/\i'=i
  ·obtain ⟨rfl,rfl⟩:=hs
   exact ⟨d+1,by rw [List.getElem?_set,if_pos rfl,if_pos hlt],by omega⟩
  ·obtain ⟨x,h1,h2⟩:=l.done s' i' (by omega) hi' ho' hd'
   exact at' _ x h1 h2
theorem Lvl.fin {C:Circ} {d:Nat} {F:List Int} (l:Lvl C d (2 ^ C.lats.length) 0 F):F=levL (wdC C) ((d+1:Nat):Int):=by
 refine List.ext_getElem? fun t=>?_
 by_cases ht:t<2 ^ C.lats.length
 ·have hl:t<F.length:=by rw [l.len];exact ht
  have hx:=List.getElem?_eq_getElem hl
  rw [hx,levL,List.getElem?_map,List.getElem?_range (show t<(wdC C).n from ht)]
  show _=some (levI _ _ _)
  congr 1
  rcases l.val t _ hx with e | ⟨e,e2⟩
  ·rw [e]
   unfold levI
   by_cases h1:depI (wdC C) t≤d
   ·rw [if_pos h1,if_pos (by omega)]
   ·rw [if_neg h1]
    by_cases h2:depI (wdC C) t=((d+1:Nat):Int)
    ·exfalso
     obtain ⟨s',a,h3,h4,h5⟩:=(depI_is h2).pred
     obtain ⟨i',h6,h7,rfl⟩:=arc_okB h4
     obtain ⟨x,h8,h9⟩:=l.done s' i' (.inl (h3.1.lt (wd_ok C))) h6 h7 (depI_eq h3)
     have h5':nxN C s' i'=t:=h5
     rw [h5',hx] at h8
     have:=Option.some.inj h8
     unfold levI at e
     rw [if_neg h1] at e
     omega
    ·rw [if_neg (by omega)]
  ·rw [e]
   unfold levI
   rw [e2,if_pos (by omega)]
 ·rw [List.getElem?_eq_none (by rw [l.len];omega),List.getElem?_eq_none (by rw [levL,List.length_map,List.length_range];exact Nat.not_lt.1 ht)]
theorem levL_all {C:Circ}:levL (wdC C) ((2 ^ C.lats.length:Nat):Int)=depL (wdC C):=by
 unfold levL depL
 refine List.map_congr_left fun s hs=>?_
 unfold levI
 rcases depI_cases (W:=wdC C) s with ⟨e,he,hx⟩ | ⟨_,hx⟩
 ·have h1:=he.lt (wd_ok C)
  have h2:(wdC C).n=2 ^ C.lats.length:=rfl
  rw [if_pos (by omega)]
 ·rw [if_pos (by have:=Int.natCast_nonneg (2 ^ C.lats.length);omega)]
end Go.Hx
namespace Go.Proofs.YtdpbdjdgdmheiaaGreat
open Go.Hx Go.Deep
section
variable {h:Heap} {k:Addr} {v:CV} {C:Circ}
theorem c57 (w:RWs h k C) {s:Nat} (hs:s<2 ^ C.lats.length):CallsH Tryz.prog 57 #[.pointer (some k),.int .i64 (s:Int)] h (Xt (.bool (wst C s)) h):=by
 obtain ⟨hz,hL,hI⟩:=fewE_0 w.few
 obtain ⟨v,r,rk⟩:=w.circ
 have q2:=r.len.l
 have hn256:2 ^ C.lats.length≤256:=Nat.pow_le_pow_right (n:=2) (by omega) hL
 have hbl:∀ j,(Addr.add k j).block<h.size:=fun j=>by have:=cellH_lt (rk.fld 0 rfl);rw [add_block] at this ⊢;exact this
 refine run57 (some k) s _ h (AtP.mk rfl ⟨hbl 0,?_⟩)
 rw [addr_add0]
 refine ldC rk (AtP.mk rfl ⟨by rw [add_block];exact hbl 2,_,_,_,rk.fld 2 rfl,?_⟩)
 have k49:CallsH Tryz.prog 49 #[.int .i64 (s:Int),.int .i64 ((v.l.n:Nat):Int)] h fun w h'=>∃ ad,w=.slice (some ad) C.lats.length C.lats.length/\Fr h 1 h' (some ad) C.lats.length C.lats.length (bools (bitsN s C.lats.length)):=by
  rw [<- q2];exact c49 (by omega) (by omega)
 refine k49.mono ?_
 rintro _ h2 ⟨ad,rfl,f⟩
 refine ⟨_,_,_,rfl,agrE f.ext (Nat.le_refl _),useX (c101 (r.ext f.ext) hz f.rd rfl) fun h3 e3=>⟨_,rfl,agrE e3 f.ext.1,rfl,f.ext.trans e3⟩⟩
set_option maxRecDepth 4000 in
theorem c47 (w:RWs h k C):CallsH Tryz.prog 47 #[.pointer (some k)] h fun x h'=>∃ ad,x=.slice (some ad) (2 ^ C.lats.length) (2 ^ C.lats.length)/\Fr h 1 h' (some ad) (2 ^ C.lats.length) (2 ^ C.lats.length) (ints (depL (wdC C))):=by
 obtain ⟨hz,hL,hI⟩:=fewE_0 w.few
 have hn256:2 ^ C.lats.length≤256:=Nat.pow_le_pow_right (n:=2) (by omega) hL
 have hi64:2 ^ C.ins.length≤64:=Nat.pow_le_pow_right (n:=2) (by omega) hI
 refine run47 (some k) _ h (AtP.mk rfl ⟨_,w.st,Int.natCast_nonneg _,Int.le_refl _,by omega,?_⟩)
 rw [Int.toNat_natCast]
 intro h1
 have f1:Fr h 1 h1 (some ⟨h.size,0,none⟩) (2 ^ C.lats.length) (2 ^ C.lats.length) (ints (List.replicate (2 ^ C.lats.length) 0)):=by
  rw [ints,List.map_replicate]
  exact Fr.zeros (h:=h) (.int .i64 0) 3 (2 ^ C.lats.length)
 have z:List.replicate (2 ^ C.lats.length) (0:Int)=(List.range (2 ^ C.lats.length)).map fun t=>if t<0 then levI (wdC C) 0 t else 0:=by
  refine List.ext_getElem? fun i=>?_
  rw [List.getElem?_replicate,List.getElem?_map]
  by_cases hi:i<2 ^ C.lats.length
  ·rw [if_pos hi,List.getElem?_range hi];rfl
  ·rw [if_neg hi,List.getElem?_eq_none (by rw [List.length_range];omega)];rfl
 rw [z] at f1
 have iset:∀ (V:List Int) (j:Nat) (b:Int),(ints V).set j (.int .i64 b)=ints (V.set j b):=fun V j b=>by rw [ints,ints,List.map_set]
 refine LoopT.to (n:=2 ^ C.lats.length) (by omega) (fun s h'=>Fr h 1 h' (some ⟨h.size,0,none⟩) (2 ^ C.lats.length) (2 ^ C.lats.length) (ints ((List.range (2 ^ C.lats.length)).map fun t=>if t<s then levI (wdC C) 0 t else 0))) f1 ?_
 rintro s h2 K hs f2 hK
 have w2:=w.ext f2.ext
 refine AtP.mk rfl ⟨_,w2.st,fun hlt=>?_,fun hlt=>?_⟩
 ·have hs2:s<2 ^ C.lats.length:=by omega
  unfold J47_1
  refine ⟨by omega,by omega,f2.at1 (j:=(s:Int)) (by omega) (by omega) rfl fun h3 u3 f3=>?_⟩
  rw [iset,Int.toNat_natCast,range_set] at f3
  refine useX (c57 (w.ext f3.ext) hs2) fun h4 e4=>⟨_,rfl,?_⟩
  have f4:=f3.upd e4
  have hl0:=levI_0 hs2
  cases hw:wst C s with
  | true=>
   refine BIf.t ⟨by omega,by omega,f4.at1 (j:=(s:Int)) (by omega) (by omega) rfl fun h5 u5 f5=>hK h5 hs2 ?_⟩
   rw [iset,Int.toNat_natCast,range_set] at f5
   refine (congrArg (fun F=>Fr h 1 h5 (some ⟨h.size,0,none⟩) (2 ^ C.lats.length) (2 ^ C.lats.length) (ints F)) (List.map_congr_left fun t ht=>?_)).mp f5
   rw [hw,if_pos rfl] at hl0
   by_cases hts:t=s
   ·subst hts;rw [if_pos rfl,if_pos (by omega),hl0]
   ·rw [if_neg hts,if_neg hts]
    by_cases h1:t<s
    ·rw [if_pos h1,if_pos (by omega)]
    ·rw [if_neg h1,if_neg (by omega)]
  | false=>
   refine BIf.f (hK h4 hs2 ?_)
   refine (congrArg (fun F=>Fr h 1 h4 (some ⟨h.size,0,none⟩) (2 ^ C.lats.length) (2 ^ C.lats.length) (ints F)) (List.map_congr_left fun t ht=>?_)).mp f4
   rw [hw,if_neg (by simp)] at hl0
   by_cases hts:t=s
   ·subst hts;rw [if_pos rfl,if_pos (by omega),hl0]
   ·rw [if_neg hts]
    by_cases h1:t<s
    ·rw [if_pos h1,if_pos (by omega)]
    ·rw [if_neg h1,if_neg (by omega)]
 obtain rfl:s=2 ^ C.lats.length:=by omega
 have f0:Fr h 1 h2 (some ⟨h.size,0,none⟩) (2 ^ C.lats.length) (2 ^ C.lats.length) (ints (levL (wdC C) ((0:Nat):Int))):=(congrArg (fun F=>Fr h 1 h2 (some ⟨h.size,0,none⟩) (2 ^ C.lats.length) (2 ^ C.lats.length) (ints F)) (List.map_congr_left fun t ht=>by rw [if_pos (show t<2 ^ C.lats.length from List.mem_range.1 ht)];rfl)).mp f2
 clear f2 hK K w2
 unfold J47_0
 refine LoopT.to (n:=2 ^ C.lats.length) (by omega) (fun d h'=>Fr h 1 h' (some ⟨h.size,0,none⟩) (2 ^ C.lats.length) (2 ^ C.lats.length) (ints (levL (wdC C) (d:Int)))) f0 ?_
 rintro d h7 K hd f7 hK
 refine AtP.mk rfl ⟨_,(w.ext f7.ext).st,fun hlt=>?_,fun hlt=>?_⟩
 ·have hd2:d<2 ^ C.lats.length:=by omega
  unfold J47_3
  refine LoopT.to (n:=2 ^ C.lats.length) (by omega) (fun s h'=>∃ F,Lvl C d s 0 F/\Fr h 1 h' (some ⟨h.size,0,none⟩) (2 ^ C.lats.length) (2 ^ C.lats.length) (ints F)) ⟨_,Lvl.start,f7⟩ ?_
  rintro s h9 K1 hs ⟨F,l9,f9⟩ hK1
  refine AtP.mk rfl ⟨_,(w.ext f9.ext).st,fun hlt=>?_,fun hlt=>?_⟩
  ·have hs2:s<2 ^ C.lats.length:=by omega
   unfold J47_5
   refine LoopT.to (n:=2 ^ C.ins.length) (by omega) (fun i h'=>∃ F,Lvl C d s i F/\Fr h 1 h' (some ⟨h.size,0,none⟩) (2 ^ C.lats.length) (2 ^ C.lats.length) (ints F)) ⟨F,l9,f9⟩ ?_
   clear l9 f9 F
   rintro i h11 K2 hi ⟨F,l,f⟩ hK2
   have w11:=w.ext f.ext
   have hFl:=l.len
   have cell:∀ t (ht:t<F.length),cellH h11 ((Addr.mk h.size 0 none).add (Int.toNat (t:Int)*1))=some (.int .i64 F[t]):=fun t ht=>by
    rw [Int.toNat_natCast,Nat.mul_one];exact f.rd.fld t (by simp [ints,ht])
   refine AtP.mk rfl ⟨_,w11.rw,fun hlt=>⟨by omega,by rw [Int.toNat_natCast];omega,_,cell s (by omega),fun he=>?_,fun hne=>?_⟩,fun hlt=>?_⟩
   ·have hi2:i<2 ^ C.ins.length:=by omega
    have hsd:F[s]?=some (d:Int):=by rw [List.getElem?_eq_getElem (by omega),he]
    unfold J47_7
    refine w11.rdH hs2 hi2 ?_
    have hnl:nxN C s i<F.length:=by rw [hFl];exact nxN_lt
    cases ho:okB C s i with
    | true=>
     refine BIf.t (w11.rdN hs2 hi2 ⟨by omega,by rw [Int.toNat_natCast];omega,_,cell _ hnl,fun hneg=>w11.rdN hs2 hi2 ⟨by omega,by rw [Int.toNat_natCast];omega,?_⟩,fun hpos=>hK2 h11 hi2 ⟨F,l.skip fun _=>⟨_,List.getElem?_eq_getElem hnl,by omega⟩,f⟩⟩)
     refine f.at1 (j:=(nxN C s i:Int)) (by omega) (by omega) rfl fun h13 u13 f13=>hK2 h13 hi2 ⟨_,l.put hsd hi2 ho (List.getElem?_eq_getElem hnl) hneg,?_⟩
     rw [iset,Int.toNat_natCast,w64 (by omega) (by omega)] at f13
     exact f13
    | false=>exact BIf.f (hK2 h11 hi2 ⟨F,l.skip fun h=>(by rw [ho] at h;cases h),f⟩)
   ·exact hK1 h11 hs2 ⟨F,l.ne (List.getElem?_eq_getElem (by omega)) hne,f⟩
   ·exact hK1 h11 hs2 ⟨F,l.row (by omega),f⟩
  ·obtain rfl:s=2 ^ C.lats.length:=by omega
   have:=l9.fin
   subst this
   exact hK h9 hd2 f9
 ·obtain rfl:d=2 ^ C.lats.length:=by omega
  rw [levL_all] at f7
  unfold J47_2
  rw [Int.toNat_natCast]
  exact ⟨_,rfl,f7⟩
end
end Go.Proofs.YtdpbdjdgdmheiaaGreat
namespace Go.Hx
open Go.Proofs.YtdpbdjdgdmheiaaGreat
def Ful (C:Circ) (st:List Bool) (l:List Int):Prop:=∃ x∈l,∃ (k:Nat) (y:L3) (b:Bool),C.lats[k]?=some y/\st[k]?=some b/\((x=y.a/\b=true)∨(x=y.a+1/\b=false))
noncomputable def lemE (C:Circ) (l:List Int):Int:=if fewE C≠0 then fewE C else if 16384<l.length then 2 else if Lem0 C l then 0 else 4
def HolP (C:Circ) (l:List Int) (h:Heap) (x:Value) (h':Heap):Prop:=Ext h h'/\∃ b:Bool,x=.tuple #[.bool b,.int .i64 (lemE C l)]/\(lemE C l=0->(b=true↔∀ s d,IsDep (wdC C) s d->Ful C (bitsN s C.lats.length) l))/\(lemE C l≠0->b=false)
theorem HolP.uniq {C:Circ} {l:List Int} {h h1 h2 h3:Heap} {x y:Value} (a:HolP C l h x h1) (b:HolP C l h2 y h3):x=y:=by
 obtain ⟨_,p,rfl,p1,p2⟩:=a
 obtain ⟨_,q,rfl,q1,q2⟩:=b
 have:p=q:=by
  by_cases h:lemE C l=0
  ·have h1:=p1 h
   have h2:=q1 h
   cases p <;> cases q
   ·rfl
   ·exact (h1.2 (h2.1 rfl))
   ·exact (h2.2 (h1.1 rfl)).symm
   ·rfl
  ·rw [p2 h,q2 h]
 rw [this]
end Go.Hx
namespace Go.Proofs.YtdpbdjdgdmheiaaGreat
open Go.Hx Go.Deep
section
variable {h:Heap} {k:Addr} {v:CV} {C:Circ} {a:Option Addr} {n c:Nat} {l:List Int}
end
end Go.Proofs.YtdpbdjdgdmheiaaGreat
namespace Go.Hx
open Go.Proofs.YtdpbdjdgdmheiaaGreat
def LatM (C:Circ) (i:Nat) (M:List (Int×Int)):Prop:=∀ key v,atM M key=some v↔∃ (k:Nat) (y:L3),k<i/\C.lats[k]?=some y/\y.a=key/\v=(k:Int)+1
theorem LatM.start {C:Circ}:LatM C 0 []:=fun key v=>⟨fun h=>by simp [atM] at h,fun ⟨k,_,h,_⟩=>by omega⟩
theorem LatM.put {C:Circ} {i:Nat} {M:List (Int×Int)} {y:L3} (m:LatM C i M) (dk:DOk C) (hy:C.lats[i]?=some y):LatM C (i+1) (putM M y.a ((i:Int)+1)):=fun key v=>by
 rw [atM_putM]
 by_cases hk:key=y.a
 ·rw [if_pos hk]
  constructor
  ·rintro h
   cases h
   exact ⟨i,y,by omega,hy,hk.symm,rfl⟩
  ·rintro ⟨k,y',h1,h2,h3,rfl⟩
   have:k=i:=by
    refine Decidable.byContradiction fun hne=>?_
    exact dk.ll k i y' y (by omega) h2 hy (by rw [h3,hk])
   rw [this]
 ·rw [if_neg hk,m key v]
  constructor
  ·rintro ⟨k,y',h1,h2,h3,h4⟩
   exact ⟨k,y',by omega,h2,h3,h4⟩
  ·rintro ⟨k,y',h1,h2,h3,h4⟩
   refine ⟨k,y',?_,h2,h3,h4⟩
   by_cases hki:k=i
   ·subst hki
    rw [hy] at h2
    cases h2
    exact absurd h3.symm hk
   ·omega
def BitM (C:Circ) (l:List Int) (b:Int) (m:Nat):Prop:=m<256/\∀ k,m.testBit k=true↔∃ x∈l,∃ y,C.lats[k]?=some y/\x=y.a+b
theorem BitM.nil {C:Circ} {b:Int}:BitM C [] b 0:=⟨by omega,fun k=>by simp⟩
theorem BitM.same {C:Circ} {l:List Int} {b x:Int} {m:Nat} (o:BitM C l b m) (h:∀ (k:Nat) (y:L3),C.lats[k]?=some y->x≠y.a+b):BitM C (l++[x]) b m:=⟨o.1,fun k=>by
 rw [o.2 k]
 constructor
 ·rintro ⟨x',h1,h2⟩;exact ⟨x',by simp [h1],h2⟩
 ·rintro ⟨x',h1,y,h2,h3⟩
  rw [List.mem_append,List.mem_singleton] at h1
  rcases h1 with h1 | rfl
  ·exact ⟨x',h1,y,h2,h3⟩
  ·exact absurd h3 (h k y h2)⟩
theorem BitM.put {C:Circ} {l:List Int} {b x:Int} {m k:Nat} {y:L3} (o:BitM C l b m) (dk:DOk C) (hk:k<8) (hy:C.lats[k]?=some y) (hx:x=y.a+b):BitM C (l++[x]) b (m ||| 2 ^ k):=by
 have h2:2 ^ k<2 ^ 8:=Nat.pow_lt_pow_right (by omega) hk
 refine ⟨Nat.or_lt_two_pow (n:=8) o.1 h2,fun j=>?_⟩
 rw [Nat.testBit_or,Bool.or_eq_true,o.2 j,Nat.testBit_two_pow]
 constructor
 ·rintro (⟨x',h1,h2⟩ | h)
  ·exact ⟨x',by simp [h1],h2⟩
  ·have:k=j:=by simpa using h
   subst this
   exact ⟨x,by simp,y,hy,hx⟩
 ·rintro ⟨x',h1,y',h2,h3⟩
  rw [List.mem_append,List.mem_singleton] at h1
  rcases h1 with h1 | rfl
  ·exact .inl ⟨x',h1,y',h2,h3⟩
  ·refine .inr ?_
   have:k=j:=by
    have he:y.a=y'.a:=by omega
    rcases Nat.lt_trichotomy k j with h | h | h
    ·exact absurd he (dk.ll k j y y' h hy h2)
    ·exact h
    ·exact absurd he.symm (dk.ll j k y' y h h2 hy)
   simpa using this
end Go.Hx
namespace Go.Proofs.YtdpbdjdgdmheiaaGreat
open Go.Hx Go.Deep
section
variable {h:Heap} {v:CV} {C:Circ} {a:Option Addr} {n c:Nat} {l:List Int}
end
end Go.Proofs.YtdpbdjdgdmheiaaGreat
