/- Words and facts that the claim's proof leans on. No condition. -/
import Derived.Test.YtobageabpfkpcaaFA
import Derived.Test.YtobageabpfkpcaaCAc
import Derived.Test.YtobageabpfkpcaaFE
import Derived.Test.YtobageabpfkpcaaCAa
import Derived.Test.YtobageabpfkpcaaCAb
set_option linter.unusedVariables false
set_option linter.unusedSimpArgs false
set_option maxRecDepth 100000
namespace Go.Hx
def litB (m:List Bool) (x:Int):Bool:=m.getD (x.natAbs-1) false == decide (0<x)
def clsB (m:List Bool) (c:List Int):Bool:=c.any (litB m)
def firL (m:List Bool):List (List Int)->Int->Int
 | [],_ =>-1
 | c::r,i=>if clsB m c=true then firL m r (i+1) else i
theorem firL_drop {m:List Bool} {L:List (List Int)} {i:Nat} (hi:i<L.length):firL m (L.drop i) i=if clsB m L[i]=true then firL m (L.drop (i+1)) ((i:Int)+1) else i:=by
 rw [List.drop_eq_getElem_cons hi,firL]
theorem firL_end {m:List Bool} {L:List (List Int)} {i:Nat} (hi:L.length≤i):firL m (L.drop i) i = -1:=by rw [List.drop_eq_nil_of_le hi];rfl
theorem litB_get {m:List Bool} {x:Int} {b:Bool} {k:Nat} (hb:m[k]?=some b) (hk:x.natAbs-1=k):litB m x=(b == decide (0<x)):=by
 unfold litB
 rw [hk,List.getD_eq_getElem?_getD,hb];rfl
end Go.Hx
namespace Go.Proofs.Ytobageabpfkpcaa
open Go.Hx
section
variable {h:Heap} {a:Option Addr} {n c:Nat} {l:List Int}
theorem c61 {f:Value} {p:Int->Bool} (r:Rd h a n (ints l)) (hn:n<9223372036854775807) (hf:∀ x∈l,∀ K:Value->Heap->Prop,K (.bool (p x)) h->CallV Try.prog f [.int .i64 x] h K):CallsH Try.prog 61 #[.slice a n c,f] h fun w h'=>h'=h/\∃ z:Int,w=.int .i64 z/\(0≤z↔l.any p=true):=by
 have hl:=r.ilen
 refine run61 a n c f _ h (LoopT.to (n:=n) hn (fun i h'=>h'=h/\(l.take i).any p=false) ⟨rfl,by simp⟩ ?_)
 rintro i _ K hi ⟨rfl,hI⟩ hK
 refine ⟨fun hlt=>⟨by omega,hlt,r.getn (i:=i) (by omega) fun ad hl1 hc=>⟨_,hc,hf _ (List.getElem_mem hl1) _ ⟨_,rfl,?_⟩⟩⟩,fun hlt=>?_⟩
 ·cases hp:p l[i] with
  | true=>exact BIf.t ⟨rfl,_,rfl,fun _=>List.any_eq_true.2 ⟨_,List.getElem_mem hl1,hp⟩,fun _=>by omega⟩
  | false=>
   refine BIf.f (hK _ (by omega) ⟨rfl,?_⟩)
   rw [List.take_succ_eq_append_getElem hl1,List.any_append,hI]
   simp [hp]
 ·rw [List.take_of_length_le (by omega)] at hI
  exact ⟨rfl,_,rfl,fun h=>by omega,fun h=>by rw [hI] at h;cases h⟩
theorem c64 {f:Value} {p:Int->Bool} (r:Rd h a n (ints l)) (hn:n<9223372036854775807) (hf:∀ x∈l,∀ K:Value->Heap->Prop,K (.bool (p x)) h->CallV Try.prog f [.int .i64 x] h K):CallsH Try.prog 64 #[.slice a n c,f] h (Ret (.bool (l.any p)) h):=by
 refine run64 a n c f _ h ((c61 r hn hf).mono ?_)
 rintro _ _ ⟨rfl,z,rfl,hz⟩
 refine ⟨_,rfl,fun h0=>?_,fun h0=>?_⟩
 ·rw [hz.1 h0];exact ⟨rfl,rfl⟩
 ·cases hp:l.any p with
  | true=>exact absurd (hz.2 hp) h0
  | false=>exact ⟨rfl,rfl⟩
theorem ok65:callOk Try.prog 65=true:=by kernel_rfl
theorem c65 {ad:Addr} {ma:Option Addr} {mn mc:Nat} {m:List Bool} (hb:cellH h ad=some (.slice ma mn mc)) (rm:Rd h ma mn (bools m)) (hm:mn≤262144) {x:Int} (h0:x≠0) (h1:-(mn:Int)≤x) (h2:x≤mn):CallsH Try.prog 65 #[.int .i64 x,.pointer (some ad)] h (Ret (.bool (litB m x)) h):=by
 have hml:=rm.ilen
 refine run65 x (some ad) _ h ⟨fun hx=>AtP.mk rfl ⟨_,_,_,hb,?_⟩,fun hx=>?_⟩
 ·have w1':IntKind.wrap .i64 (IntKind.wrap .i64 (0-x)-1)=((x.natAbs-1:Nat):Int):=by rw [w64 (x:=0-x) (by omega) (by omega),w64 (by omega) (by omega)];omega
  rw [w1']
  refine ⟨by omega,by omega,rm.getn (i:=x.natAbs-1) (by omega) fun ad2 hl hc=>⟨_,hc,?_,rfl⟩⟩
  rw [litB_get (List.getElem?_eq_getElem hl) rfl,decide_eq_false (by omega)]
  cases m[x.natAbs-1] <;> rfl
 ·unfold J65_0
  have w1':IntKind.wrap .i64 (x-1)=((x.natAbs-1:Nat):Int):=by rw [w64 (by omega) (by omega)];omega
  rw [w1']
  refine AtP.mk rfl ⟨_,_,_,hb,by omega,by omega,rm.getn (i:=x.natAbs-1) (by omega) fun ad2 hl hc=>⟨_,hc,?_,rfl⟩⟩
  rw [litB_get (List.getElem?_eq_getElem hl) rfl,decide_eq_true (by omega)]
  cases m[x.natAbs-1] <;> rfl
theorem c55 {ma:Option Addr} {mn mc:Nat} {m:List Bool} (r:Rd h a n (ints l)) (hn:n<9223372036854775807) (rm:Rd h ma mn (bools m)) (hm:mn≤262144) (hx:∀ x∈l,x≠0 /\-(mn:Int)≤x/\x≤mn):CallsH Try.prog 55 #[.slice a n c,.slice ma mn mc] h (Xt (.bool (clsB m l)) h):=by
 refine run55 a n c ma mn mc _ h ?_
 unfold VC55
 intro h1
 have f:=Fr.lit (.refl h) [.slice ma mn mc] 54 1 rfl
 have e1:Ext h h1:=f.ext
 have hb:cellH h1 ⟨h.size,0,none⟩=some (.slice ma mn mc):=by have:=f.rd.fld 0 rfl;rwa [addr_add0] at this
 exact use (c64 (p:=litB m) (r.ext e1) hn fun x hxm K hK=>CallV.clo ok65 (use (c65 hb (rm.ext e1) hm (hx x hxm).1 (hx x hxm).2.1 (hx x hxm).2.2) hK)) ⟨_,rfl,rfl,e1⟩
theorem ok54:callOk Try.prog 54=true:=by kernel_rfl
theorem c54 {ad:Addr} {ma:Option Addr} {mn mc:Nat} {m:List Bool} (hb:cellH h ad=some (.slice ma mn mc)) (r:Rd h a n (ints l)) (hn:n<9223372036854775807) (rm:Rd h ma mn (bools m)) (hm:mn≤262144) (hx:∀ x∈l,x≠0 /\-(mn:Int)≤x/\x≤mn):CallsH Try.prog 54 #[.slice a n c,.pointer (some ad)] h (Xt (.bool (!clsB m l)) h):=
 run54 a n c (some ad) _ h (AtP.mk rfl ⟨_,_,_,hb,useX (c55 r hn rm hm hx) fun h1 e1=>⟨_,rfl,rfl,e1⟩⟩)
end
section
variable {h:Heap} {v:FV} {F:Fm} {ma:Option Addr} {mn mc:Nat} {m:List Bool}
theorem c36 (r:FIs h v F) (hz:(chkF F).2=0) (rm:Rd h ma mn (bools m)) (hm:(mn:Int)=F.vars):CallsH Try.prog 36 #[v.v,.slice ma mn mc] h (Xt (.int .i64 (firL m F.cls 0)) h):=by
 obtain ⟨v0,v1,vn,vc⟩:=chkF_ok hz
 have hlen:=r.r.len
 refine run36 v.n v.s.a v.s.n v.s.c ma mn mc _ h ?_
 unfold VC36
 intro h1 h2
 have e1:Ext h h1:=Ext.box h _
 have f:=Fr.lit (.refl h1) [.slice ma mn mc] 54 1 rfl
 have e12:Ext h1 h2:=f.ext
 have hb:Rd h2 (some ⟨h.size,0,none⟩) 2 v.cs:=(boxF v 24).ext e12
 have hm2:cellH h2 ⟨h1.size,0,none⟩=some (.slice ma mn mc):=by have:=f.rd.fld 0 rfl;rwa [addr_add0] at this
 have e2:=e1.trans e12
 refine ⟨_,_,_,hb.fld 1 rfl,?_⟩
 have key:CallsH Try.prog 53 #[.slice v.s.a v.s.n v.s.c,.func (.func 54) #[] #[.pointer (some ⟨h1.size,0,none⟩)]] h2 (Xt (.int .i64 (firL m F.cls 0)) h2):=by
  refine run53 v.s.a v.s.n v.s.c _ _ h2 (LoopT.to (n:=v.s.n) (by omega) (fun i h'=>Ext h2 h'/\firL m F.cls 0=firL m (F.cls.drop i) i) ⟨.refl _,rfl⟩ ?_)
  rintro i h3 K hi ⟨e3,hI⟩ hK
  have e03:=e2.trans e3
  refine ⟨fun hlt=>?_,fun hlt=>?_⟩
  ·have hil:i<F.cls.length:=by omega
   rw [firL_drop hil] at hI
   refine ⟨by omega,hlt,(r.r.ext e03).get (i:=i) (by omega) fun ad hl1 s hc hs hsc hsl hsn=>⟨_,_,_,hc,?_⟩⟩
   obtain ⟨k1,k2⟩:=vc _ (List.getElem_mem hl1)
   rw [hsl] at hs
   refine CallV.clo ok54 (useX (c54 (Ext.cell e3 hm2) hs (by omega) (rm.ext e03) (by omega) fun x hx=>by have:=k2 x hx;omega) fun h4 e4=>⟨_,rfl,?_⟩)
   cases hcl:clsB m F.cls[i] with
   | true=>
    rw [if_pos hcl] at hI
    exact BIf.f (hK _ (by omega) ⟨e3.trans e4,hI⟩)
   | false=>
    rw [if_neg (by rw [hcl];simp)] at hI
    exact BIf.t ⟨by rw [hI],e3.trans e4⟩
  ·rw [firL_end (by omega)] at hI
   exact ⟨by rw [hI],e3⟩
 exact useX key fun h3 e3=>⟨_,rfl,rfl,e2.trans e3⟩
end
end Go.Proofs.Ytobageabpfkpcaa
set_option maxRecDepth 100000
namespace Go.Hx
def modB (N n:Nat):List Bool:=(List.range N).map fun v=>n.testBit (N-1-v)
theorem modB_len {N n:Nat}:(modB N n).length=N:=by simp [modB]
theorem modB_at {N n i:Nat} (h:i<N):(modB N n)[i]?=some (n.testBit (N-1-i)):=by simp [modB,h]
def goodM (F:Fm) (n:Nat):Bool:=decide (firL (modB F.vars.toNat n) F.cls 0<0)
def manyM (F:Fm) (k:Nat):Nat:=(List.range k).countP (goodM F)
theorem manyM_le (F:Fm) (k:Nat):manyM F k≤k:=by
 have:=List.countP_le_length (p:=goodM F) (l:=List.range k)
 simpa [manyM] using this
theorem manyM_succ {F:Fm} {n:Nat}:manyM F (n+1)=manyM F n+if goodM F n=true then 1 else 0:=by
 unfold manyM
 rw [List.range_succ,List.countP_append,List.countP_cons,List.countP_nil]
 simp
theorem pow64 {N:Nat} (h:N≤61):IntKind.wrap .i64 (1*2 ^ min (Int.toNat (N:Int)) (IntKind.bits .i64))=((2 ^ N:Nat):Int):=by
 have h2:2 ^ N≤2305843009213693952:=Nat.pow_le_pow_right (n:=2) (by decide) h
 rw [Int.toNat_natCast,show IntKind.bits .i64=64 from rfl,Nat.min_eq_left (by omega),Int.one_mul,show ((2:Int) ^ N)=((2 ^ N:Nat):Int) by simp]
 generalize 2 ^ N=m at *
 rw [w64 (by omega) (by omega)]
theorem bit64' {n k:Nat} (hn:n<9223372036854775807) (hk:k<64):(bop .and .i64 ((n:Int) / 2 ^ min (Int.toNat (k:Int)) (IntKind.bits .i64)) 1=1)↔n.testBit k=true:=by
 have e:(n:Int) / 2 ^ min (Int.toNat (k:Int)) (IntKind.bits .i64)=((n / 2 ^ k:Nat):Int):=by
  rw [Int.toNat_natCast,show IntKind.bits .i64=64 from rfl,Nat.min_eq_left (by omega)];simp
 have hle:=Nat.div_le_self n (2 ^ k)
 rw [e,Nat.testBit_eq_decide_div_mod_eq,decide_eq_true_eq]
 generalize n / 2 ^ k=m at *
 rw [and_one (by omega) (by omega)]
 omega
end Go.Hx
namespace Go.Proofs.Ytobageabpfkpcaa
open Go.Hx
section
variable {h:Heap} {v:FV} {F:Fm}
theorem c25 {do_:Value} (I Q:Nat->Heap->Prop) (r:FIs h v F) (ok:F.Ok) (h0:∀ h',Ext h h'->I 0 h') (hst:∀ n h' h'',I n h'->Upd (fun b=>h.size≤b) h' h''->I n h'') (hcov:∀ n h',I n h'->FIs h' v F)
  (hskip:∀ n h',goodM F n=false->I n h'->I (n+1) h')
  (hdo:∀ (n:Nat) (h':Heap) (ad:Addr) (K:Value->Heap->Prop),F.vars.toNat≤16->n<2 ^ F.vars.toNat->goodM F n=true->I n h'->h.size≤ad.block->Rd h' (some ad) F.vars.toNat (bools (modB F.vars.toNat n)) ->
   (∀ (b:Bool) (h'':Heap),Upd (fun b=>b<h.size) h' h''->(b=true->I (n+1) h'')->(b=false->Q n h'')->K (.bool b) h'')->CallV Try.prog do_ [.slice (some ad) F.vars.toNat F.vars.toNat] h' K) :
  CallsH Try.prog 25 #[v.v,do_] h fun w h'=>((chkF F).2≠0/\w=.int .i64 (chkF F).2/\Ext h h')∨((chkF F).2=0/\16<F.vars/\w=.int .i64 6/\Ext h h')∨((chkF F).2=0/\F.vars≤16/\w=.int .i64 0/\(I (2 ^ F.vars.toNat) h'∨∃ n,n<2 ^ F.vars.toNat/\goodM F n=true/\Q n h')):=by
 have hvn:=r.n
 refine run25 v.n v.s.a v.s.n v.s.c do_ _ h ?_
 unfold VC25
 intro h1
 have e1:Ext h h1:=Ext.box h _
 have hb:Rd h1 (some ⟨h.size,0,none⟩) 2 v.cs:=boxF v 24
 refine ldF hb (useX (c17 (r.ext e1) ok) fun h2 e2=>⟨_,_,rfl,fun hz=>?_,fun hz=>.inl ⟨hz,rfl,e1.trans e2⟩⟩)
 have hb2:=hb.ext e2
 have e02:=e1.trans e2
 have hz':(chkF F).2=0:=hz
 obtain ⟨v0,v1,-,-⟩:=chkF_ok hz'
 refine ⟨_,hb2.fld 0 rfl,fun h16=>.inr (.inl ⟨hz',by omega,rfl,e02⟩),fun h16=>?_⟩
 obtain ⟨N,hN⟩:∃ N:Nat,F.vars.toNat=N:=⟨_,rfl⟩
 have hN2:F.vars=(N:Int):=by omega
 have hvN:v.n=(N:Int):=by omega
 rw [hN] at hdo ⊢
 have hg:∀ n,goodM F n=decide (firL (modB N n) F.cls 0<0):=fun n=>by unfold goodM;rw [hN]
 have hF:∀ {h'},Rd h' (some ⟨h.size,0,none⟩) 2 v.cs->cellH h' (Addr.add ⟨h.size,0,none⟩ 0)=some (.int .i64 (N:Int)):=fun r=>by have:=r.fld 0 rfl;rw [hvN] at this;exact this
 unfold J25_1
 refine ⟨N,hF hb2,by omega,Int.le_refl _,by omega,?_⟩
 intro h4
 have f4:=Fr.zeros (h:=h2) (.bool false) 4 N
 have e24:Ext h2 h4:=f4.ext
 have e04:=e02.trans e24
 have hlt1:h.size<h2.size:=by have:=cellH_lt (hF hb2);simpa using this
 refine ⟨N,hF (hb2.ext e24),by omega,?_⟩
 have hp:2 ^ N≤2 ^ 16:=Nat.pow_le_pow_right (by decide) (by omega)
 let Z:Heap->Prop:=fun h'=>Rd h' (some ⟨h.size,0,none⟩) 2 v.cs
 refine LoopT.to (n:=2 ^ N) (by omega) (fun n h'=>I n h'/\h2.size<h'.size/\Rd h' (some ⟨h.size,0,none⟩) 2 v.cs/\∃ A:List Bool,A.length=N/\Own 1 h' (some ⟨h2.size,0,none⟩) N N (bools A)) ⟨h0 _ e04,f4.own.lt,hb2.ext e24,List.replicate N false,by simp,by rw [bools,List.map_replicate];exact f4.own⟩ ?_
 rintro n h5 K hn ⟨hI,hs5,hb5,A,hA,o5⟩ hK
 refine ⟨fun hlt=>?_,fun hlt=>?_⟩
 ·rw [pow64 (by omega)] at hlt
  have hn2:n<2 ^ N:=by omega
  unfold J25_3
  refine LoopT.to (n:=N) (by omega) (fun i h'=>I n h'/\h2.size<h'.size/\Rd h' (some ⟨h.size,0,none⟩) 2 v.cs/\∃ A:List Bool,A.length=N/\(∀ j,j<i->A[j]?=(modB N n)[j]?)/\Own 1 h' (some ⟨h2.size,0,none⟩) N N (bools A)) ⟨hI,hs5,hb5,A,hA,fun j hj=>by omega,o5⟩ ?_
  rintro i h6 K2 hi ⟨hI6,hs6,hb6,B,hB,hBj,o6⟩ hK2
  refine ⟨fun hlt2=>?_,fun hlt2=>?_⟩
  ·have hi':i<N:=by omega
   unfold J25_6
   refine ⟨N,hF hb6,?_⟩
   have ew:IntKind.wrap .i64 (IntKind.wrap .i64 ((N:Int)-1)-(i:Int))=((N-1-i:Nat):Int):=by rw [w64 (x:=(N:Int)-1) (by omega) (by omega),w64 (by omega) (by omega)];omega
   rw [ew]
   have fin:∀ b,b=n.testBit (N-1-i)->(0:Int)≤i/\(i:Int)<(Int.toNat (N:Int):Nat)/\StoreH h6 (Addr.add ⟨h2.size,0,none⟩ (Int.toNat (i:Int)*1)) [.bool b] fun h_9=>K2 (IntKind.wrap .i64 ((i:Int)+1)) h_9:=fun b hb=>by
    have:=o6.set1 (j:=(i:Int)) (by omega) (by omega) (v:=.bool b) rfl (K:=fun h_9=>K2 (IntKind.wrap .i64 ((i:Int)+1)) h_9) fun h7 u7 o7=>hK2 _ hi' ?_
    ·exact ⟨by omega,by omega,this⟩
    have u7':Upd (fun b=>b=h2.size) h6 h7:=u7.mono fun k hk ⟨y,hy,e⟩=>by cases hy;exact e
    refine ⟨hst n h6 h7 hI6 (u7'.mono fun k hk e=>by omega),Nat.lt_of_lt_of_le hs6 u7.1,hb6.upd u7' (fun y hy=>by cases hy;show ¬ h.size=h2.size;omega),B.set i b,by simpa using hB,fun j hj=>?_,?_⟩
    ·by_cases hji:j=i
     ·subst hji;rw [List.getElem?_set_self (by omega),modB_at hi',hb]
     ·rw [List.getElem?_set_ne (by omega)];exact hBj j (by omega)
    ·rw [bools,List.map_set];exact o7
   refine ⟨by omega,fun ht=>fin true ((bit64' (by omega) (by omega)).1 ht).symm,fun ht=>fin false ?_⟩
   cases hb:n.testBit (N-1-i) with
   | false=>rfl
   | true=>exact absurd ((bit64' (by omega) (by omega)).2 hb) ht
  ·have hBe:B=modB N n:=eq_of_at (by rw [modB_len];exact hB) fun j hj=>hBj j (by omega)
   subst hBe
   have rd6:Rd h6 (some ⟨h2.size,0,none⟩) (Int.toNat (N:Int)) (bools (modB N n)):=by rw [Int.toNat_natCast];have:=o6.rd;rwa [Nat.mul_one] at this
   unfold J25_5
   refine ldF hb6 (useX (c36 (hcov n _ hI6) hz' rd6 (by rw [hN2];simp)) fun h7 e7=>⟨_,rfl,fun hp=>?_,fun hp=>?_⟩)
   ·have hI7:=hst n _ _ hI6 e7.wide
    refine hdo n h7 ⟨h2.size,0,none⟩ _ (by omega) hn2 (by rw [hg];simpa using hp) hI7 (by show _≤h2.size;omega) (rd6.ext e7) ?_
    intro b h8 u8 ht hf
    refine ⟨b,rfl,?_⟩
    cases b with
    | true=>
     refine BIf.f (hK _ hn2 ⟨ht rfl,?_,(hb6.ext e7).upd u8 (fun y hy=>by cases hy;show ¬ h.size<h.size;omega),_,hB,(o6.ext e7).upd u8 (fun y hy=>by cases hy;show ¬ h2.size<h.size;omega)⟩)
     have:=u8.1;have:=e7.1;omega
    | false=>exact BIf.t (.inr (.inr ⟨hz',by omega,rfl,.inr ⟨n,hn2,by rw [hg];simpa using hp,hf rfl⟩⟩))
   ·refine hK _ hn2 ⟨hskip n _ (by rw [hg];simpa using hp) (hst n _ _ hI6 e7.wide),?_,hb6.ext e7,_,hB,o6.ext e7⟩
    have:=e7.1;omega
 ·rw [pow64 (by omega)] at hlt
  obtain rfl:n=2 ^ N:=by omega
  exact .inr (.inr ⟨hz',by omega,rfl,.inl hI⟩)
end
end Go.Proofs.Ytobageabpfkpcaa
set_option maxRecDepth 100000
namespace Go.Hx
def modR (F:Fm):Int×Int:=if (chkF F).2≠0 then (0,(chkF F).2) else if 16<F.vars then (0,6) else (manyM F (2 ^ F.vars.toNat),0)
theorem Fr.put1 {h0 h:Heap} {ad:Addr} {u v:Value} (f:Fr h0 1 h (some ad) 1 1 [u]) (h1:v.oneCell'=true) {K:Heap->Prop} (hK:∀ h',Fr h0 1 h' (some ad) 1 1 [v]->Upd (atb (some ad)) h h'->K h'):StoreH h ad [v] K:=
 f.put rfl (by simpa using h1) hK
theorem Own.put1 {h:Heap} {ad:Addr} {u v:Value} (f:Own 1 h (some ad) 1 1 [u]) (h1:v.oneCell'=true) {K:Heap->Prop} (hK:∀ h',Own 1 h' (some ad) 1 1 [v]->Upd (fun b=>b=ad.block) h h'->K h'):StoreH h ad [v] K:=by
 have:=f.write 0 [v] (by simp) (by simpa using h1) (K:=K) fun h' u w=>hK h' (w 1 [v] (by simp) (Nat.le_refl _) fun i hi=>by rw [if_pos (by simpa using hi),Nat.sub_zero]) u
 rwa [addr_add0] at this
theorem Own.fst {h:Heap} {ad:Addr} {v:Value} {n c:Nat} {vs:List Value} (f:Own 1 h (some ad) n c (v::vs)):cellH h ad=some v:=by
 have:=f.rd.fld 0 rfl
 rwa [addr_add0] at this
end Go.Hx
namespace Go.Proofs.Ytobageabpfkpcaa
open Go.Hx
section
variable {h:Heap} {v:FV} {F:Fm}
theorem c26 {a:Option Addr} {n c:Nat} {ad:Addr} {x:Nat} (hx:x<9223372036854775807) (o:Own 1 h (some ad) 1 1 [.int .i64 (x:Int)]):CallsH Try.prog 26 #[.slice a n c,.pointer (some ad)] h fun w h'=>w=.bool true/\Upd (fun b=>b=ad.block) h h'/\Own 1 h' (some ad) 1 1 [.int .i64 ((x+1:Nat):Int)]:=by
 refine run26 a n c (some ad) _ h (AtP.mk rfl ⟨_,o.fst,AtP.mk rfl ?_⟩)
 rw [w64 (by omega) (by omega)]
 exact o.put1 rfl fun h' o' u=>⟨rfl,u,o'⟩
theorem ok26:callOk Try.prog 26=true:=by kernel_rfl
theorem c13 (r:FIs h v F) (ok:F.Ok):CallsH Try.prog 13 #[v.v] h (Xt (.tuple #[.int .i64 (modR F).1,.int .i64 (modR F).2]) h):=by
 refine run13 v.n v.s.a v.s.n v.s.c _ h ?_
 unfold VC13
 intro h1 h2
 have e1:Ext h h1:=Ext.box h _
 have hb:Rd h1 (some ⟨h.size,0,none⟩) 2 v.cs:=boxF v 24
 have f2:Fr h1 1 h2 (some ⟨h1.size,0,none⟩) 1 1 [.int .i64 0]:=Fr.lit (.refl h1) [.int .i64 0] 3 1 rfl
 refine f2.put1 rfl fun h3 f3 u3=>?_
 have e13:=f3.ext
 have e3:=e1.trans e13
 have hs3:=f3.own.lt
 refine ldF (hb.ext e13) ?_
 have h01:h.size≤h1.size:=e1.1
 have done:∀ {h'},Upd (fun b=>b=h1.size) h3 h'->Ext h h':=fun u=>e3.newer u fun i hi e=>by omega
 refine (c25 (do_:=.func (.func 26) #[] #[.pointer (some ⟨h1.size,0,none⟩)]) (fun n h'=>Upd (fun b=>b=h1.size) h3 h'/\Own 1 h' (some ⟨h1.size,0,none⟩) 1 1 [.int .i64 (manyM F n:Int)]) (fun _ _=>False) (r.ext e3) ok
  (fun h' e=>⟨e.wide,f3.own.ext e⟩) (fun n h' h'' ⟨u,o⟩ u'=>⟨u.newer u' fun i hi e=>by omega,o.upd u' fun y hy=>by cases hy;show ¬ h3.size≤h1.size;have:h1.size<h3.size:=hs3;omega⟩)
  (fun n h' ⟨u,o⟩=>r.ext (done u)) (fun n h' hg ⟨u,o⟩=>⟨u,by rw [manyM_succ,hg];simpa using o⟩) ?_).mono ?_
 ·rintro n h' ad K hN hn hg ⟨u,o⟩ had rd hK
  have hp:2 ^ F.vars.toNat≤2 ^ 16:=Nat.pow_le_pow_right (by decide) hN
  have hm:=manyM_le F n
  refine CallV.clo ok26 ((c26 (by omega) o).mono ?_)
  rintro _ h'' ⟨rfl,u',o'⟩
  refine hK true h'' (u'.mono fun i hi e=>by subst e;exact hs3) (fun _=>⟨u.trans u',?_⟩) (fun e=>by cases e)
  rw [manyM_succ,hg,if_pos rfl];exact o'
 ·rintro _ h' hh
  rcases hh with ⟨hz,rfl,e⟩ | ⟨hz,h16,rfl,e⟩ | ⟨hz,h16,rfl,hq⟩
  ·refine ⟨_,rfl,_,(f3.own.ext e).fst,?_,e3.trans e⟩
   unfold modR;rw [if_pos hz]
  ·refine ⟨_,rfl,_,(f3.own.ext e).fst,?_,e3.trans e⟩
   unfold modR;rw [if_neg (by simp [hz]),if_pos h16]
  ·rcases hq with ⟨u,o⟩ | ⟨_,_,_,hq⟩
   ·refine ⟨_,rfl,_,o.fst,?_,done u⟩
    unfold modR;rw [if_neg (by simp [hz]),if_neg (by omega)]
   ·exact hq.elim
end
end Go.Proofs.Ytobageabpfkpcaa
