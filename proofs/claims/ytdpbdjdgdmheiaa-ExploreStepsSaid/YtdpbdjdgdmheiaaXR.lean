/- Words and facts that the claim's proof leans on. No condition. -/
import Derived.Test.YtdpbdjdgdmheiaaXL
import Derived.Test.YtdpbdjdgdmheiaaSQ
set_option linter.unusedVariables false
set_option linter.unusedSimpArgs false
namespace Go.Proofs.Ytdpbdjdgdmheiaa
open Go.Hx Go.Deep
section
variable {h:Heap} {v:CV} {C:Circ}
theorem pow62 {i:Nat} (h:i≤62):2 ^ i≤4611686018427387904:=Nat.le_trans (Nat.pow_le_pow_right (n:=2) (by omega) h) (by decide)
theorem bitI {n i:Nat} (hn:n≤4611686018427387904) (hi:i≤62):bop .and .i64 ((n:Int) / 2 ^ min (Int.toNat (i:Int)) (IntKind.bits .i64)) 1=((n.testBit i).toNat:Int):=by
 have e:(n:Int) / 2 ^ min (Int.toNat (i:Int)) (IntKind.bits .i64)=((n / 2 ^ i:Nat):Int):=by
  rw [Int.toNat_natCast,show IntKind.bits .i64=64 from rfl,Nat.min_eq_left (by omega)]
  simp
 have h2:n / 2 ^ i≤n:=Nat.div_le_self _ _
 rw [e,Nat.testBit_eq_decide_div_mod_eq]
 have:n / 2 ^ i % 2<2:=Nat.mod_lt _ (by omega)
 generalize n / 2 ^ i=m at this h2
 rw [and_one (by omega) (by omega)]
 rw [show ((m:Nat):Int) % 2=((m % 2:Nat):Int) by omega]
 rcases Nat.lt_or_ge (m % 2) 1 with h | h
 ·rw [show m % 2=0 by omega];rfl
 ·rw [show m % 2=1 by omega];rfl
theorem c17 {n size:Nat} (hn:n≤4611686018427387904) (hs:size≤62):CallsH Try.prog 17 #[.int .i64 (n:Int),.int .i64 (size:Int)] h fun w h'=>∃ ad,w=.slice (some ad) size size/\Fr h 1 h' (some ad) size size (bools (bitsN n size)):=by
 refine run17 n size _ h ⟨by omega,Int.le_refl _,by omega,?_⟩
 intro h1
 have f1:Fr h 1 h1 (some ⟨h.size,0,none⟩) size size (bools (List.replicate size false)):=by
  rw [bools,List.map_replicate]
  exact Fr.zeros (h:=h) (.bool false) 4 size
 refine LoopT.to (n:=size) (by omega) (fun i h'=>Fr h 1 h' (some ⟨h.size,0,none⟩) size size (bools ((bitsN n size).take i++List.replicate (size-i) false))) (by simpa using f1) ?_
 rintro i h2 K hi f hK
 refine ⟨fun hlt=>?_,fun hlt=>?_⟩
 ·have hlt:(i:Int)<(size:Nat):=hlt
  have hi':i<size:=by omega
  unfold J17_1
  have hbit:(bitsN n size)[i]'(by rw [bitsN_len];exact hi')=n.testBit i:=by
   have:=bitsN_at (n:=n) hi'
   rw [List.getElem?_eq_getElem (by rw [bitsN_len];exact hi')] at this
   exact Option.some.inj this
  have fin:∀ b,b=n.testBit i->(0:Int)≤i/\(i:Int)<(Int.toNat (size:Int):Nat)/\StoreH h2 (Addr.add ⟨h.size,0,none⟩ (Int.toNat (i:Int)*1)) [.bool b] fun h_3=>K (IntKind.wrap .i64 ((i:Int)+1)) h_3:=fun b hb=>by
   refine ⟨by omega,by omega,f.at1 (j:=(i:Int)) (by omega) (by omega) rfl fun h3 u3 f3=>hK h3 hi' ?_⟩
   rw [Int.toNat_natCast,bools,show Value.bool b=Value.bool ((bitsN n size)[i]'(by rw [bitsN_len];exact hi')) by rw [hbit,hb],<- List.map_set,replF_set hi' bitsN_len] at f3
   exact f3
  refine ⟨by omega,?_⟩
  rw [bitI hn (by omega)]
  exact ⟨fun h1=>fin true (by cases hb:n.testBit i with | true=>rfl | false=>rw [hb] at h1;simp at h1),fun h1=>fin false (by cases hb:n.testBit i with | false=>rfl | true=>rw [hb] at h1;simp at h1)⟩
 ·have hlt:¬ (i:Int)<(size:Nat):=hlt
  obtain rfl:i=size:=by omega
  rw [List.take_of_length_le (by rw [bitsN_len];omega),Nat.sub_self,List.replicate_zero,List.append_nil] at f
  exact ⟨_,rfl,f⟩
theorem c20 {a:Option Addr} {n c:Nat} {L:List Bool} (r:Rd h a n (bools L)) (hn:n≤61):CallsH Try.prog 20 #[.slice a n c] h (Ret (.int .i64 (numN L:Int)) h):=by
 have hl:=r.ilen
 refine run20 a n c _ h (LoopT.to2 (n:=n) (by omega) (fun i k h'=>h=h'/\k=(numN (L.take i):Int)) ⟨rfl,rfl⟩ ?_)
 rintro i k _ K hi ⟨rfl,rfl⟩ hK
 refine ⟨fun hlt=>?_,fun hlt=>?_⟩
 ·have hlt:(i:Int)<(n:Nat):=hlt
  have hi':i<n:=by omega
  refine ⟨by omega,hlt,r.getn hi' fun ad hl1 hc=>⟨_,hc,?_⟩⟩
  have e:L.take (i+1)=L.take i++[L[i]]:=List.take_succ_eq_append_getElem hl1
  have hs:numN (L.take (i+1))=numN (L.take i)+L[i].toNat*2 ^ i:=by
   rw [e,numN_snoc,List.length_take,Nat.min_eq_left (by omega)]
  cases hb:L[i] with
  | true=>
   refine BIf.t ⟨by omega,?_⟩
   have h2:2 ^ i≤4611686018427387904:=pow62 (by omega)
   have h3:numN (L.take i)<2 ^ i:=by
    have:=numN_lt (l:=L.take i)
    rwa [List.length_take,Nat.min_eq_left (by omega)] at this
   have hw:IntKind.wrap .i64 ((numN (L.take i):Int)+IntKind.wrap .i64 (1*2 ^ min (Int.toNat (i:Int)) (IntKind.bits .i64)))=((numN (L.take (i+1)):Nat):Int):=by
    rw [pow64 (by omega),hs,hb]
    rw [Bool.toNat_true,Nat.one_mul]
    generalize 2 ^ i=m at h2 h3 ⊢
    rw [w64 (by omega) (by omega)]
    omega
   rw [hw]
   exact hK _ _ hi' ⟨rfl,rfl⟩
  | false=>
   refine BIf.f (hK _ _ hi' ⟨rfl,?_⟩)
   rw [hs,hb];simp
 ·have hlt:¬ (i:Int)<(n:Nat):=hlt
  rw [List.take_of_length_le (by omega)]
  exact ⟨rfl,rfl⟩
def FromP (C:Circ) (F:List Bool) (s r:Nat):Prop:=∀ t q a,(t<s∨(t=s/\q<r))->q<2 ^ C.ins.length->warc C t q=some a->(0:Int)≤depI (wdC C) t->depI (wdC C) a.nx=depI (wdC C) t+1->F[a.nx]?=some true
theorem FromP.next {F:List Bool} {s:Nat} (f:FromP C F s (2 ^ C.ins.length)):FromP C F (s+1) 0:=fun t q a ht hq hw h0 hd=>f t q a (by omega) hq hw h0 hd
theorem FromP.skip {F:List Bool} {s:Nat} (f:FromP C F s 0) (hs:depI (wdC C) s<0):FromP C F (s+1) 0:=fun t q a ht hq hw h0 hd=>by
 by_cases e:t=s
 ·subst e;omega
 ·exact f t q a (.inl (by omega)) hq hw h0 hd
theorem FromP.no {F:List Bool} {s r:Nat} (f:FromP C F s r) (hw:warc C s r=none):FromP C F s (r+1):=fun t q a ht hq hw' h0 hd=>by
 by_cases e:t=s/\q=r
 ·obtain ⟨rfl,rfl⟩:=e;rw [hw] at hw';cases hw'
 ·exact f t q a (by omega) hq hw' h0 hd
theorem FromP.step {F:List Bool} {s r:Nat} {a:Arc} {b:Bool} (f:FromP C F s r) (hw:warc C s r=some a) (ha:a.nx<F.length) (hb:b=true↔F[a.nx]?=some true∨depI (wdC C) a.nx=depI (wdC C) s+1):FromP C (F.set a.nx b) s (r+1):=fun t q x ht hq hw' h0 hd=>by
 have old:F[x.nx]?=some true->(F.set a.nx b)[x.nx]?=some true:=fun hx=>by
  rw [List.getElem?_set]
  by_cases e:a.nx=x.nx
  ·rw [if_pos e,if_pos ha,hb.2 (.inl (by rw [e];exact hx))]
  ·rw [if_neg e];exact hx
 by_cases e:t=s/\q=r
 ·obtain ⟨rfl,rfl⟩:=e
  rw [hw] at hw'
  cases hw'
  rw [List.getElem?_set,if_pos rfl,if_pos ha,hb.2 (.inr hd)]
 ·exact old (f t q x (by omega) hq hw' h0 hd)
theorem FromP.done {F:List Bool} (f:FromP C F (wdC C).n 0) {s:Nat} (h:0<depI (wdC C) s):F[s]?=some true:=by
 rcases depI_cases (W:=wdC C) s with ⟨d,hd,e⟩ | ⟨_,e⟩
 ·obtain ⟨d,rfl⟩:∃ d',d=d'+1:=⟨d-1,by omega⟩
  obtain ⟨t,a,ht,ha,rfl⟩:=hd.pred
  obtain ⟨r,hr,hw⟩:=mem_warcs.1 ha
  refine f t r a (.inl (ht.1.lt (wd_ok C))) hr hw ?_ ?_
  ·rw [depI_eq ht];omega
  ·rw [depI_eq ht,e];omega
 ·omega
theorem dep_next {s r:Nat} {a:Arc} (hr:r<2 ^ C.ins.length) (hw:warc C s r=some a) (h0:0≤depI (wdC C) s):0≤depI (wdC C) a.nx/\depI (wdC C) a.nx≤depI (wdC C) s+1:=by
 rcases depI_cases (W:=wdC C) s with ⟨d,hd,e⟩ | ⟨_,e⟩
 ·obtain ⟨d',hle,hd'⟩:=IsDep.of (Rch.step hd.1 (mem_warcs.2 ⟨r,hr,hw⟩))
  rw [e,depI_eq hd']
  omega
 ·omega
theorem dep_zero {s:Nat} (hs:s<(wdC C).n):depI (wdC C) s=0↔wst C s=true:=by
 have hin:s∈(wdC C).st↔wst C s=true:=by
  show s∈(List.range (2 ^ C.lats.length)).filter (wst C)↔_
  rw [List.mem_filter,List.mem_range]
  exact ⟨fun h=>h.2,fun h=>⟨hs,h⟩⟩
 rw [<- hin]
 constructor
 ·intro h
  rcases depI_cases (W:=wdC C) s with ⟨d,hd,e⟩ | ⟨_,e⟩
  ·obtain rfl:d=0:=by omega
   cases hd.1 with
   | zero h=>exact h
  ·omega
 ·intro h
  exact depI_eq (d:=0) ⟨.zero h,fun e _=>Nat.zero_le _⟩
end
end Go.Proofs.Ytdpbdjdgdmheiaa
namespace Go.Proofs.Ytdpbdjdgdmheiaa
open Go.Hx Go.Deep
section
variable {h:Heap} {v:CV} {C:Circ}
theorem agr {n0:Nat} {h h':Heap} (e:Ext h h') (hn:n0≤h.size):AgreeH n0 h h':=fun b hb=>e.2 b (by omega) fun x=>x
set_option maxRecDepth 4000 in
theorem j5_7 {h0 h3 h7 h15:Heap} {xa:Option Addr} {xc:Nat} {m:Int} {F:List Bool} (hz:fewE C=0) (ok:C.Ok) (r0:CIs h7 v C) (hb:Rd h7 (some ⟨h0.size,0,none⟩) 11 v.cs) (bx:Rd h7 (some ⟨h3.size,0,none⟩) 2 [.slice xa (2 ^ C.lats.length) xc,.int .i64 m])
  (rx:Rd h7 xa (2 ^ C.lats.length) (ints (depL (wdC C)))) (f:Fr h7 1 h15 (some ⟨h7.size,0,none⟩) (2 ^ C.lats.length) (2 ^ C.lats.length) (bools F)) {s r:Nat} (hs:s<2 ^ C.lats.length) (hr:r<2 ^ C.ins.length) (h0d:0≤depI (wdC C) s) (P:FromP C F s r)
  {R:Value->Heap->Prop} {N:Int->Heap->Prop}
  (hN:∀ h' F',Fr h7 1 h' (some ⟨h7.size,0,none⟩) (2 ^ C.lats.length) (2 ^ C.lats.length) (bools F')->FromP C F' s (r+1)->N (IntKind.wrap .i64 ((r:Int)+1)) h') :
  J5_7 Try.prog R h0 h3 C.lats.length C.ins.length h7 (2 ^ C.lats.length) (s:Int) (depI (wdC C) s) (r:Int) N h15:=by
 obtain ⟨hc,hL,hI⟩:=fewE_0 hz
 have h256:2 ^ C.lats.length≤256:=Nat.pow_le_pow_right (n:=2) (by omega) hL
 have h64:2 ^ C.ins.length≤64:=Nat.pow_le_pow_right (n:=2) (by omega) hI
 have hF:F.length=2 ^ C.lats.length:=f.rd.ilen
 have hlb:h0.size<h7.size:=cellH_lt (hb.fld 0 rfl)
 have z15:h7.size≤h15.size:=f.ext.1
 have so:StepOk C (bitsN s C.lats.length) (bitsN r C.ins.length):=⟨hc,bitsN_len,bitsN_len⟩
 unfold J5_7
 refine ⟨by simp only;omega,ldC (hb.ext f.ext) ((c17 (n:=s) (size:=C.lats.length) (by omega) (by omega)).mono ?_)⟩
 rintro _ h16 ⟨a1,rfl,f1⟩
 refine ⟨_,_,_,rfl,agr f1.ext (Nat.le_refl _),(c17 (n:=r) (size:=C.ins.length) (by omega) (by omega)).mono ?_⟩
 rintro _ h17 ⟨a2,rfl,f2⟩
 have e17:=f1.ext.trans f2.ext
 refine ⟨_,_,_,rfl,agr f2.ext f1.ext.1,(c18 (r0.ext (f.ext.trans e17)) ok (f1.rd.ext f2.ext) f2.rd).mono ?_⟩
 rintro _ h18 ⟨e18,⟨_,rfl⟩ | ⟨hn,_⟩⟩
 rotate_left
 ·exact absurd so hn
 have e018:=e17.trans e18
 refine ⟨_,_,rfl,agr e18 e17.1,by have:=e018.1;simp only;omega,ldC (hb.ext (f.ext.trans e018)) ((c17 (n:=s) (size:=C.lats.length) (by omega) (by omega)).mono ?_)⟩
 rintro _ h19 ⟨a3,rfl,f3⟩
 refine ⟨_,_,_,rfl,agr f3.ext (Nat.le_refl _),(c17 (n:=r) (size:=C.ins.length) (by omega) (by omega)).mono ?_⟩
 rintro _ h20 ⟨a4,rfl,f4⟩
 have e20:=f3.ext.trans f4.ext
 refine ⟨_,_,_,rfl,agr f4.ext f3.ext.1,(c19 (r0.ext (f.ext.trans (e018.trans e20))) ok (f3.rd.ext f4.ext) f4.rd).mono ?_⟩
 rintro _ h21 ⟨e21,⟨_,na,nn,nc,rfl,rn⟩ | ⟨hn,_⟩⟩
 rotate_left
 ·exact absurd so hn
 have e1521:=(e018.trans e20).trans e21
 have hnn:nn=C.lats.length:=by have:=rn.ilen;simpa [nextL] using this.symm
 refine ⟨_,_,_,_,rfl,agr e21 e20.1,fun _=>⟨fun _=>?_,fun hh=>absurd rfl hh⟩,fun hh=>absurd rfl hh⟩
 unfold J5_8
 refine use (c20 rn (by omega)) ⟨_,rfl,?_⟩
 have fx:=f.upd e1521
 have hv:wvals C s r=valsOf C (bitsN s C.lats.length) (bitsN r C.ins.length):=rfl
 cases hcons:C.cons.all (lit (valsOf C (bitsN s C.lats.length) (bitsN r C.ins.length))) with
 | false=>
  refine BIf.t (hN _ F fx (P.no ?_))
  unfold warc
  rw [hv,hcons];rfl
 | true=>
  refine BIf.f ?_
  have hw:warc C s r=some ⟨r,numN (nextL C (wvals C s r)),wvals C s r⟩:=by
   unfold warc
   rw [hv,hcons];rfl
  obtain ⟨d0,d1⟩:=dep_next hr hw h0d
  have hk:numN (nextL C (wvals C s r))<2 ^ C.lats.length:=by
   have:=numN_lt (l:=nextL C (wvals C s r))
   rwa [show (nextL C (wvals C s r)).length=C.lats.length by simp [nextL]] at this
  rw [<- hv]
  simp only at d0 d1
  have st:=fun b=>P.step (b:=b) hw (by rw [hF];exact hk)
  simp only at st
  generalize numN (nextL C (wvals C s r))=k at hk d0 d1 st
  have dk:(depL (wdC C))[((k:Nat):Int).toNat]?=some (depI (wdC C) k):=depL_at hk
  have bx':=bx.ext fx.ext
  have rx':=rx.ext fx.ext
  have hdn:depI (wdC C) s<9223372036854775807:=by
   rcases depI_cases (W:=wdC C) s with ⟨d,hd,e⟩ | ⟨_,e⟩
   ·have:=hd.lt (wd_ok C)
    have:d<2 ^ C.lats.length:=this
    omega
   ·omega
  have hw1:IntKind.wrap .i64 (depI (wdC C) s+1)=depI (wdC C) s+1:=w64 (by omega) (by omega)
  unfold J5_9
  refine ⟨_,_,_,bx'.fld 0 rfl,by omega,rx'.getq (by omega) dk fun ad1 hc1=>⟨_,hc1,fun hh=>absurd hh (by omega),fun _=>⟨_,_,_,bx'.fld 0 rfl,by omega,rx'.getq (by omega) dk fun ad2 hc2=>⟨_,hc2,fun hh=>absurd hh (by rw [hw1];omega),fun _=>?_⟩⟩⟩⟩
  unfold J5_10
  have hkF:k<F.length:=by omega
  have tnn:Int.toNat (((2 ^ C.lats.length:Nat):Int))=2 ^ C.lats.length:=Int.toNat_natCast _
  have cF:cellH h21 (Addr.add ⟨h7.size,0,none⟩ (Int.toNat (k:Int)*1))=some (.bool F[k]):=by
   rw [Int.toNat_natCast]
   exact fx.rd.getN (List.getElem?_eq_getElem hkF)
  rw [tnn]
  have put:∀ b:Bool,(b=true↔F[k]?=some true∨depI (wdC C) k=depI (wdC C) s+1)->(0:Int)≤k/\(k:Int)<((2 ^ C.lats.length:Nat):Int)/\StoreH h21 (Addr.add ⟨h7.size,0,none⟩ (Int.toNat (k:Int)*1)) [.bool b] fun h_=>N (IntKind.wrap .i64 ((r:Int)+1)) h_:=fun b hb'=>by
   refine ⟨by omega,by omega,fx.at1 (j:=(k:Int)) (by omega) (by omega) rfl fun h' u' f'=>hN h' (F.set k b) ?_ (st b hb')⟩
   rw [Int.toNat_natCast,bools,<- List.map_set] at f'
   exact f'
  refine ⟨by omega,by omega,_,cF,?_⟩
  have hget:F[k]?=some F[k]:=List.getElem?_eq_getElem hkF
  cases hFk:F[k] with
  | true=>exact BIf.t (put true (iff_of_true rfl (.inl (by rw [hget,hFk]))))
  | false=>
   refine BIf.f ⟨_,_,_,bx'.fld 0 rfl,by omega,rx'.getq (by omega) dk fun ad3 hc3=>⟨_,hc3,fun he=>put true (iff_of_true rfl (.inr (by rw [hw1] at he;exact he))),fun he=>put false (iff_of_false (by simp) ?_)⟩⟩
   rintro (h1 | h1)
   ·rw [hget,hFk] at h1;cases h1
   ·exact he (by rw [hw1];exact h1)
end
end Go.Proofs.Ytdpbdjdgdmheiaa
namespace Go.Proofs.Ytdpbdjdgdmheiaa
open Go.Hx Go.Deep
section
variable {h:Heap} {v:CV} {C:Circ}
set_option maxRecDepth 4000 in
theorem c5 (r:CIs h v C) (ok:C.Ok):CallsH Try.prog 5 #[v.v] h (Xt (.bool true) h):=by
 have q1:=r.len.i
 have q2:=r.len.l
 refine run5 v _ h ?_
 unfold VC5
 intro h1
 have e1:Ext h h1:=Ext.box h _
 have hb:Rd h1 (some ⟨h.size,0,none⟩) 11 v.cs:=boxC v 29
 refine useX (c14 (h:=h1)) fun h2 e2=>⟨_,rfl,BIf.f ?_⟩
 have e02:=e1.trans e2
 unfold J5_0
 refine ldC (hb.ext e2) ((c15 (r.ext e02) ok).mono ?_)
 rintro _ h3 ⟨e3,⟨hz,a,n,c,m,rfl,f3,hm⟩ | ⟨hz,rfl⟩⟩
 rotate_left
 ·refine ⟨_,_,_,_,_,rfl,?_⟩
  refine boxN (zs:=[.slice none 0 0,.int .i64 0]) (ws:=[.slice none 0 0,.int .i64 0]) rfl (by simp [Value.oneCell']) fun h5 e5 b5=>?_
  exact ⟨fun he=>absurd he hz,fun _=>⟨_,_,_,b5.fld 0 rfl,fun _=>⟨_,b5.fld 1 rfl,fun _=>⟨rfl,(e02.trans e3).trans e5⟩,fun hh=>absurd rfl hh⟩,fun hh=>absurd rfl hh⟩⟩
 have hn:n=2 ^ C.lats.length:=by have:=f3.rd.len;rw [ints,List.length_map,depL_len] at this;exact this.symm
 subst hn
 obtain ⟨hc,hL,hI⟩:=fewE_0 hz
 have h256:2 ^ C.lats.length≤256:=Nat.pow_le_pow_right (n:=2) (by omega) hL
 have h64:2 ^ C.ins.length≤64:=Nat.pow_le_pow_right (n:=2) (by omega) hI
 refine ⟨_,_,_,_,_,rfl,?_⟩
 refine boxN (zs:=[.slice none 0 0,.int .i64 0]) (ws:=[.slice a (2 ^ C.lats.length) c,.int .i64 m]) rfl (by simp [Value.oneCell']) fun h5 e5 b5=>⟨fun _=>?_,fun hh=>absurd rfl hh⟩
 have e05:=(e02.trans e3).trans e5
 have hb5:=hb.ext ((e2.trans e3).trans e5)
 have r5:=r.ext e05
 have rx:=f3.rd.ext e5
 have eqn:(((2 ^ C.lats.length:Nat):Int))=IntKind.wrap .i64 (1*2 ^ min (Int.toNat (((C.lats.length:Nat):Int))) (IntKind.bits .i64)):=(pow64 (by omega)).symm
 have hbox:cellH h5 ((Addr.mk h.size 0 none).add 2)=some (.slice v.l.a C.lats.length v.l.c):=by rw [q2];exact hb5.fld 2 rfl
 have hbox1:cellH h5 ((Addr.mk h.size 0 none).add 1)=some (.slice v.i.a C.ins.length v.i.c):=by rw [q1];exact hb5.fld 1 rfl
 unfold J5_1
 refine ⟨_,_,_,hbox,_,_,_,hbox1,_,_,_,b5.fld 0 rfl,by omega,fun _=>?_,fun hh=>absurd eqn hh⟩
 refine ⟨_,_,_,b5.fld 0 rfl,by omega,fun _=>⟨_,_,_,b5.fld 0 rfl,by omega,fun _=>⟨rfl,e05⟩,fun hh=>absurd eqn hh⟩,fun _=>?_⟩
 unfold J5_2
 have hN:(1:Int)*((2 ^ C.lats.length:Nat):Int)≤281474976710656:=by generalize 2 ^ C.lats.length=y at h256;omega
 refine ⟨_,_,_,b5.fld 0 rfl,Int.natCast_nonneg _,Int.le_refl _,hN,?_⟩
 rw [Int.toNat_natCast]
 intro h8
 have f8:Fr h5 1 h8 (some ⟨h5.size,0,none⟩) (2 ^ C.lats.length) (2 ^ C.lats.length) (bools (List.replicate (2 ^ C.lats.length) false)):=by
  rw [bools,List.map_replicate]
  exact Fr.zeros (h:=h5) (.bool false) 4 _
 refine ⟨_,_,_,(b5.ext f8.ext).fld 0 rfl,?_⟩
 refine LoopT.to (n:=2 ^ C.lats.length) (by omega) (fun s h'=>∃ F,Fr h5 1 h' (some ⟨h5.size,0,none⟩) (2 ^ C.lats.length) (2 ^ C.lats.length) (bools F)/\FromP C F s 0) ⟨_,f8,fun t q a ht _ _ _ _=>absurd ht (by omega)⟩ ?_
 rintro s h9 K hs ⟨F,f,P⟩ hK
 refine ⟨fun hlt=>?_,fun hlt=>?_⟩
 ·have hs':s<2 ^ C.lats.length:=by omega
  have dS:(depL (wdC C))[((s:Nat):Int).toNat]?=some (depI (wdC C) s):=depL_at hs'
  have rx9:=rx.ext f.ext
  have hlb:h.size<h5.size:=cellH_lt (hb5.fld 0 rfl)
  have z9:h5.size≤h9.size:=f.ext.1
  unfold J5_4
  refine ⟨by omega,rx9.getq (by omega) dS fun ad hcell=>⟨_,hcell,by simp only;omega,ldC (hb5.ext f.ext) ((c17 (n:=s) (size:=C.lats.length) (by omega) (by omega)).mono ?_)⟩⟩
  rintro _ h11 ⟨a1,rfl,f1⟩
  refine ⟨_,_,_,rfl,agr f1.ext (Nat.le_refl _),useX (c16 (r5.ext (f.ext.trans f1.ext)) ok f1.rd) fun h12 e12=>?_⟩
  have hst:startsR C (bitsN s C.lats.length)=(wst C s,0):=by
   unfold startsR
   rw [if_neg (by simp [hc]),if_pos bitsN_len]
   rfl
  rw [hst]
  have e912:=f1.ext.trans e12
  have fx:=f.upd e912
  have bx:=b5.ext fx.ext
  refine ⟨_,_,rfl,agr e12 f1.ext.1,?_⟩
  have hmost:depI (wdC C) s≤m /\-1≤depI (wdC C) s:=by
   obtain ⟨m0,m1,_⟩:=hm
   rcases depI_cases (W:=wdC C) s with ⟨d,hd,e⟩ | ⟨_,e⟩
   ·have:=m1 s d hd;omega
   ·omega
  have inner:J5_6 Try.prog (Xt (.bool true) h) h h3 C.lats.length C.ins.length h5 (2 ^ C.lats.length) (s:Int) K (depI (wdC C) s) h12:=by
   unfold J5_6
   refine LoopT.to (n:=2 ^ C.ins.length) (by omega) (fun i h'=>∃ F,Fr h5 1 h' (some ⟨h5.size,0,none⟩) (2 ^ C.lats.length) (2 ^ C.lats.length) (bools F)/\FromP C F s i) ⟨F,fx,P⟩ ?_
   rintro i h14 K' hi ⟨F',f',P'⟩ hK'
   refine ⟨by omega,fun hlt2=>⟨fun h0=>?_,fun h0=>?_⟩,fun hlt2=>?_⟩
   ·rw [pow64 (by omega)] at hlt2
    exact j5_7 hz ok r5 hb5 b5 rx f' hs' (by omega) h0 P' fun h' F'' f'' P''=>hK' h' (by omega) ⟨F'',f'',P''⟩
   ·unfold J5_5
    refine hK h14 hs' ⟨F',f',?_⟩
    intro t q x ht hq hw h0' hd
    by_cases e:t=s
    ·subst e;omega
    ·exact P' t q x (.inl (by omega)) hq hw h0' hd
   ·rw [pow64 (by omega)] at hlt2
    unfold J5_5
    obtain rfl:i=2 ^ C.ins.length:=by omega
    exact hK h14 hs' ⟨F',f',P'.next⟩
  have rest:∃ t10,cellH h12 ((Addr.mk h3.size 0 none).add 1)=some (.int .i64 t10)/\PIf (t10<depI (wdC C) s) (Xt (.bool true) h (.bool false) h12) (PIf (depI (wdC C) s<(-1)) (Xt (.bool true) h (.bool false) h12) (J5_6 Try.prog (Xt (.bool true) h) h h3 C.lats.length C.ins.length h5 (2 ^ C.lats.length) (s:Int) K (depI (wdC C) s) h12)):=
   ⟨_,bx.fld 1 rfl,fun hh=>absurd hh (by omega),fun _=>⟨fun hh=>absurd hh (by omega),fun _=>inner⟩⟩
  have hd0:=dep_zero (C:=C) (s:=s) hs'
  refine ⟨fun _=>⟨fun h0=>⟨fun _=>rest,fun hh=>absurd (hd0.1 h0).symm hh⟩,fun h0=>⟨fun _=>rest,fun hh=>absurd ?_ hh⟩⟩,fun hh=>absurd rfl hh⟩
  cases hw:wst C s with
  | false=>rfl
  | true=>exact absurd (hd0.2 hw) h0
 ·obtain rfl:s=2 ^ C.lats.length:=by omega
  have hF:F.length=2 ^ C.lats.length:=f.rd.ilen
  unfold J5_3
  refine ⟨_,_,_,(b5.ext f.ext).fld 0 rfl,LoopT.to (n:=2 ^ C.lats.length) (by omega) (fun i h'=>h9=h') rfl ?_⟩
  rintro s _ K' hs2 rfl hK'
  refine ⟨fun hlt=>?_,fun hlt=>⟨rfl,e05.trans f.ext⟩⟩
  have hs':s<2 ^ C.lats.length:=by omega
  have dS:(depL (wdC C))[((s:Nat):Int).toNat]?=some (depI (wdC C) s):=depL_at hs'
  have go:=hK' h9 hs' rfl
  unfold J5_14
  refine ⟨by omega,(rx.ext f.ext).getq (by omega) dS fun ad hcell=>⟨_,hcell,fun hpos=>?_,fun _=>go⟩⟩
  rw [Int.toNat_natCast,Int.toNat_natCast]
  refine ⟨by omega,by omega,true,?_,BIf.f go⟩
  exact f.rd.getN (P.done hpos)
end
end Go.Proofs.Ytdpbdjdgdmheiaa
