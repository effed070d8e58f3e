/- Words and facts that the claim's proof leans on. No condition. -/
import Derived.Test.YtobageabpfkpcaaPA
import Derived.Test.YtobageabpfkpcaaCAm
import Derived.Test.YtobageabpfkpcaaCAn
import Derived.Test.YtobageabpfkpcaaCAo
import Derived.Test.YtobageabpfkpcaaCSj
set_option linter.unusedVariables false
set_option linter.unusedSimpArgs false
set_option maxRecDepth 100000
namespace Go.Hx
theorem LoopT.fromP {τ:Type} {B:τ×Int->Heap->(τ×Int->Heap->Prop)->Prop} {n a:Nat} {h:Heap} {s0:τ} {t0:Int} (ht:t0=(a:Nat)) (ha:a≤n) (hn:n<9223372036854775807) (I:Nat->τ->Heap->Prop) (h0:I a s0 h)
  (hs:∀ (i:Nat) (s:τ) (h':Heap) (K:τ×Int->Heap->Prop),a≤i->i≤n->I i s h'->(∀ s' h'',i<n->I (i+1) s' h''->K (s',IntKind.wrap .i64 ((i:Int)+1)) h'')->B (s,i) h' K):LoopT B (s0,t0) h:=by
 subst ht
 refine ⟨fun st h' m=>∃ i:Nat,st.2=i/\a≤i/\i≤n/\m=n-i/\I i st.1 h',⟨n-a,a,rfl,Nat.le_refl _,ha,rfl,h0⟩,?_⟩
 rintro ⟨s,t⟩ h' m ⟨i,rfl,hai,hi,rfl,hI⟩
 refine hs i s h' _ hai hi hI fun s' h'' hlt hI'=>?_
 exact ⟨n-(i+1),by omega,i+1,by show IntKind.wrap .i64 ((i:Int)+1)=_;rw [w64 (by omega) (by omega)];rfl,by omega,by omega,rfl,hI'⟩
theorem Fr.clr {h0 h:Heap} {a:Option Addr} {n c:Nat} {vs:List Value} (f:Fr h0 1 h a n c vs) {k:Nat} (hk:k≤n) {zs:List Value} (hz:zs.length=n-k) (h1:∀ z∈zs,z.oneCell'=true) {K:Heap->Prop}
  (hK:∀ h',Upd (atb a) h h'->Fr h0 1 h' a k c (vs.take k)->K h'):CpyH h (cutA 1 a c k) zs K:=by
 have hcap:=f.own.cap
 have hlen:=f.own.rd.len
 cases a with
 | none=>
  have hc:c=0:=f.own.mem
  have hn:n=0:=by omega
  have hk0:k=0:=by omega
  subst hc hn hk0
  have:cutA 1 (none:Option Addr) 0 0=none:=rfl
  rw [this]
  have:=f.own.take (Nat.le_refl 0)
  exact hK h (.refl _) ⟨by simpa using this,f.new,f.ext⟩
 | some ad=>
  have fin:∀ h',Upd (fun i=>i=ad.block) h h'->(∀ m us,us.length=m*1->m≤c->(∀ i,i<m*1->us[i]?=if k*1≤i/\i<k*1+zs.length then zs[i-k*1]? else vs[i]?)->Own 1 h' (some ad) m c us)->K h':=fun h' u hw=>by
   have u':Upd (Hx.atb (some ad)) h h':=u.mono fun i _ hi=>⟨ad,rfl,hi⟩
   refine hK h' u' ⟨hw k (vs.take k) (by rw [List.length_take];omega) (by omega) fun i hi=>?_,f.new,Fr.ext_of f.ext f.new u'⟩
   rw [if_neg (by omega),List.getElem?_take_of_lt (by omega)]
  unfold cutA
  by_cases hc:c=k
  ·rw [if_pos hc]
   have hz0:zs=[]:=List.length_eq_zero_iff.1 (by omega)
   subst hz0
   show StoreH h ad [] K
   have:=f.own.write 0 [] (by simp) (by simp) (K:=K) fun h' u hw=>fin h' u fun m us hus hm hv=>hw m us hus hm fun i hi=>by
    rw [hv i hi];simp only [List.length_nil];rw [if_neg (by omega),if_neg (by omega)]
   rw [addr_add0] at this
   exact this
  ·rw [if_neg hc]
   exact f.own.write (k*1) zs (by omega) h1 fin
theorem Fr.appIn {h0 h:Heap} {a:Option Addr} {n c:Nat} {vs:List Value} (f:Fr h0 1 h a n c vs) {e:TypeId} {bytes:Nat} {z:Array Value} {i m:Nat} {ys:List Value} (hy:ys.length=m*1) (h1:∀ y∈ys,y.oneCell'=true) (hi:i+m≤n)
  {K:Option Addr->Nat->Nat->Heap->Prop} (hK:∀ h',Upd (atb a) h h'->Fr h0 1 h' a n c (vs.take i++ys++vs.drop (i+m))->K a (i+m) c h'):AppS h a i c e bytes 1 z ys m K:=by
 have hcap:=f.own.cap
 have hlen:=f.own.rd.len
 refine ⟨fun _=>?_,fun hgt=>by omega⟩
 cases a with
 | none=>
  have hc:c=0:=f.own.mem
  have hys:ys=[]:=List.length_eq_zero_iff.1 (by omega)
  subst hys
  refine hK h (.refl _) ?_
  have:vs=[]:=List.length_eq_zero_iff.1 (by omega)
  subst this
  simpa using f
 | some ad=>
  refine f.own.write (i*1) ys (by omega) h1 fun h' u hw=>?_
  have u':Upd (Hx.atb (some ad)) h h':=u.mono fun i _ hi=>⟨ad,rfl,hi⟩
  refine hK h' u' ⟨hw n _ ?_ hcap fun k hk=>?_,f.new,Fr.ext_of f.ext f.new u'⟩
  ·simp only [List.length_append,List.length_take,List.length_drop];omega
  ·by_cases k1:k<i
   ·rw [if_neg (by omega),List.append_assoc,List.getElem?_append_left (by rw [List.length_take];omega),List.getElem?_take_of_lt k1]
   ·by_cases k2:k<i+m
    ·rw [if_pos (by omega),List.append_assoc,List.getElem?_append_right (by rw [List.length_take];omega),List.getElem?_append_left (by rw [List.length_take];omega)]
     congr 1;rw [List.length_take];omega
    ·rw [if_neg (by omega),List.getElem?_append_right (by simp only [List.length_append,List.length_take];omega),List.getElem?_drop]
     congr 1;simp only [List.length_append,List.length_take];omega
theorem set_mid {α:Type} (A M r:List α) (x:α):∃ M',(A++M++x::r).set A.length x=(A++[x])++M'++r/\M'.length=M.length:=by
 cases M with
 | nil=>exact ⟨[],by simp,rfl⟩
 | cons m M=>exact ⟨M++[x],by simp,by simp⟩
end Go.Hx
namespace Go.Proofs.Ytobageabpfkpcaa
open Go.Hx Go.RowKit
section
variable {h:Heap} {v:FV} {F:Fm} {a:Option Addr} {n c:Nat} {l:List Int}
theorem c61i {f:Value} {p:Int->Bool} (r:Rd h a n (ints l)) (hn:n<9223372036854775807) (hf:∀ x∈l,∀ K:Value->Heap->Prop,K (.bool (p x)) h->CallV Try.prog f [.int .i64 x] h K) :
  CallsH Try.prog 61 #[.slice a n c,f] h fun w h'=>h'=h/\(w=.int .i64 (-1)/\(∀ x∈l,p x=false)∨∃ i:Nat,i<n/\w=.int .i64 i/\(∀ x∈l.take i,p x=false)/\∃ y,l[i]?=some y/\p y=true):=by
 have hl:=r.ilen
 refine run61 a n c f _ h (LoopT.to (n:=n) hn (fun i h'=>h'=h/\∀ x∈l.take i,p x=false) ⟨rfl,by simp⟩ ?_)
 rintro i _ K hi ⟨rfl,hI⟩ hK
 refine ⟨fun hlt=>⟨by omega,hlt,r.getn (i:=i) (by omega) fun ad hl1 hc=>⟨_,hc,hf _ (List.getElem_mem hl1) _ ⟨_,rfl,?_⟩⟩⟩,fun hlt=>?_⟩
 ·cases hp:p l[i] with
  | true=>exact BIf.t ⟨rfl,.inr ⟨i,by omega,rfl,hI,l[i],List.getElem?_eq_getElem hl1,hp⟩⟩
  | false=>
   refine BIf.f (hK _ (by omega) ⟨rfl,fun x hx=>?_⟩)
   rw [List.take_succ_eq_append_getElem hl1] at hx
   rcases List.mem_append.1 hx with hx | hx
   ·exact hI x hx
   ·rw [List.mem_singleton] at hx;subst hx;exact hp
 ·rw [List.take_of_length_le (by omega)] at hI
  exact ⟨rfl,.inl ⟨rfl,hI⟩⟩
theorem c60 (r:Rd h a n (ints l)) (hn:n<9223372036854775807) (x:Int):CallsH Try.prog 60 #[.slice a n c,.int .i64 x] h fun w h'=>h'=h/\∃ z:Int,w=.int .i64 z/\(0≤z↔x∈l):=by
 have hl:=r.ilen
 refine run60 a n c x _ h (LoopT.to (n:=n) hn (fun i h'=>h'=h/\x∉l.take i) ⟨rfl,by simp⟩ ?_)
 rintro i _ K hi ⟨rfl,hI⟩ hK
 refine ⟨fun hlt=>⟨by omega,hlt,r.getn (i:=i) (by omega) fun ad hl1 hc=>⟨_,hc,fun he=>?_,fun hne=>?_⟩⟩,fun hlt=>?_⟩
 ·exact ⟨rfl,_,rfl,fun _=>he▸List.getElem_mem hl1,fun _=>by omega⟩
 ·refine hK _ (by omega) ⟨rfl,?_⟩
  rw [List.take_succ_eq_append_getElem hl1]
  simp only [List.mem_append,List.mem_singleton,not_or]
  exact ⟨hI,hne⟩
 ·rw [List.take_of_length_le (by omega)] at hI
  exact ⟨rfl,_,rfl,fun h=>by omega,fun h=>absurd h hI⟩
theorem c45 (r:Rd h a n (ints l)) (hn:n<9223372036854775807) (x:Int):CallsH Try.prog 45 #[.slice a n c,.int .i64 x] h (Ret (.bool (decide (x∈l))) h):=by
 refine run45 a n c x _ h ((c60 r hn x).mono ?_)
 rintro _ _ ⟨rfl,z,rfl,hz⟩
 refine ⟨_,rfl,fun h0=>⟨by rw [decide_eq_true (hz.1 h0)],rfl⟩,fun h0=>⟨by rw [decide_eq_false fun hm=>h0 (hz.2 hm)],rfl⟩⟩
theorem c46 {h0:Heap} (f:Fr h0 1 h a n c (ints l)) (hn:n<9223372036854775807) {g:Value} {p:Int->Bool} (hg:∀ h',Ext h0 h'->∀ x∈l,∀ K:Value->Heap->Prop,K (.bool (p x)) h'->CallV Try.prog g [.int .i64 x] h' K) :
  CallsH Try.prog 46 #[.slice a n c,g] h fun w h'=>∃ k,w=.slice a k c/\Fr h0 1 h' a k c (ints (l.filter fun x=>!p x)):=by
 have hl:=f.rd.ilen
 have hcap:=f.own.cap
 refine run46 a n c g _ h ((c61i f.rd hn (hg h f.ext)).mono ?_)
 rintro _ _ ⟨rfl,⟨rfl,hno⟩ | ⟨i0,hi0,rfl,hno,y,hy,hpy⟩⟩
 ·refine ⟨_,rfl,fun _=>⟨n,rfl,?_⟩,fun hne=>absurd rfl hne⟩
  rw [List.filter_eq_self.2 fun x hx=>by simp [hno x hx]];exact f
 ·refine ⟨_,rfl,fun he=>by omega,fun _=>?_⟩
  unfold J46_0
  have hyl:i0<l.length:=by omega
  have hye:l[i0]=y:=by rw [List.getElem?_eq_getElem hyl] at hy;exact Option.some.inj hy
  have hfi:(l.take (i0+1)).filter (fun x=>!p x)=l.take i0:=by
   rw [List.take_succ_eq_append_getElem hyl,List.filter_append,hye,List.filter_eq_self.2 fun x hx=>by simp [hno x hx]]
   simp [hpy]
  refine LoopT.fromP (a:=i0+1) (n:=n) (w64 (by omega) (by omega)) (by omega) hn (fun j (i:Int) h'=>∃ A M:List Int,i=A.length/\A.length+M.length=j/\A=(l.take j).filter (fun x=>!p x)/\Fr h0 1 h' a n c (ints (A++M++l.drop j))) ⟨l.take i0,[y],by rw [List.length_take];omega,by rw [List.length_take];simp;omega,hfi.symm,by
   have e:l.take i0++[y]++l.drop (i0+1)=l:=by rw [<- hye,<- List.take_succ_eq_append_getElem hyl,List.take_append_drop]
   rw [e];exact f⟩ ?_
  rintro j i h2 K hj0 hj ⟨A,M,rfl,hAM,hA,f2⟩ hK
  refine ⟨fun hlt=>?_,fun hlt=>?_⟩
  ·have hjl:j<l.length:=by have:(j:Int)<(n:Nat):=hlt;omega
   have ed:l.drop j=l[j]::l.drop (j+1):=List.drop_eq_getElem_cons hjl
   have eg:(A++M++l.drop j)[j]?=some l[j]:=by rw [List.getElem?_append_right (by simp;omega),ed];simp [hAM]
   unfold J46_2
   refine ⟨by simp only;omega,hlt,f2.rd.getn (i:=j) (by omega) fun ad hl1 hc=>⟨_,hc,?_⟩⟩
   have eg2:(A++M++l.drop j)[j]=l[j]:=by rw [List.getElem?_eq_getElem hl1] at eg;exact Option.some.inj eg
   rw [eg2]
   refine hg h2 f2.ext _ (List.getElem_mem hjl) _ ⟨_,rfl,?_⟩
   cases hp:p l[j] with
   | true=>
    refine BIf.f (hK _ h2 (by omega) ⟨A,M++[l[j]],rfl,by simp;omega,?_,?_⟩)
    ·rw [List.take_succ_eq_append_getElem hjl,List.filter_append,<- hA];simp [hp]
    ·rw [ed] at f2;simpa using f2
   | false=>
    refine BIf.t ⟨by simp only;omega,by simp only;omega,?_⟩
    obtain ⟨M',hM',hl'⟩:=set_mid A M (l.drop (j+1)) l[j]
    have:=f2.set1 (j:=(A.length:Int)) (by omega) (by omega) (v:=.int .i64 l[j]) rfl (K:=fun h'=>K (IntKind.wrap .i64 ((A.length:Int)+1),IntKind.wrap .i64 ((j:Int)+1)) h') fun h3 u3 f3=>by
     rw [w1 (n:=n) hn (by omega)]
     refine hK _ h3 (by omega) ⟨A++[l[j]],M',by simp,by simp;omega,?_,?_⟩
     ·rw [List.take_succ_eq_append_getElem hjl,List.filter_append,<- hA];simp [hp]
     ·rw [Int.toNat_natCast,ed] at f3
      have e:(ints (A++M++l[j]::l.drop (j+1))).set A.length (.int .i64 l[j])=ints ((A++M++l[j]::l.drop (j+1)).set A.length l[j]):=by unfold ints;rw [List.map_set]
      rw [e,hM'] at f3;exact f3
    exact this
  ·have hjn:j=n:=by have:¬ (j:Int)<(n:Nat):=hlt;omega
   rw [List.drop_of_length_le (by omega),List.append_nil] at f2
   rw [List.take_of_length_le (by omega)] at hA
   unfold J46_1
   refine ⟨by omega,by omega,by omega,?_⟩
   rw [Int.toNat_natCast]
   refine f2.clr (k:=A.length) (by omega) (by rw [zeroRow_one];simp) (by intro w hw;rw [zeroRow_one] at hw;rw [List.eq_of_mem_replicate hw];rfl) fun h3 u3 f3=>⟨by omega,by omega,by omega,A.length,?_,?_⟩
   ·rw [cutA0];simp
   ·have e:(ints (A++M)).take A.length=ints A:=by unfold ints;rw [<- List.map_take,List.take_left'];rfl
    rw [e,hA] at f3
    rw [hA];exact f3
end
end Go.Proofs.Ytobageabpfkpcaa
set_option maxRecDepth 100000
namespace Go.Hx
def firB (F:Fm):List Int->Bool
 | []=>false
 | x::r=>F.cls.all fun D=>!decide (-x∈D) || propB F ((x::r)++D.filter fun y=>!decide (y = -x))
def folR (F:Fm) (c:List Int):Int:=if propB F c=true then 1 else if firB F c=true then 2 else 0
end Go.Hx
namespace Go.Proofs.Ytobageabpfkpcaa
open Go.Hx Go.RowKit
section
variable {h:Heap} {v:FV} {F:Fm} {a:Option Addr} {n c:Nat} {l:List Int}
theorem c18 (r:Rd h a n (ints l)) (hn:n<9223372036854775807):CallsH Try.prog 18 #[.slice a n c] h (Ret (.int .i64 (litE 262144 l)) h):=by
 have hl:=r.ilen
 refine run18 a n c _ h ⟨fun hlong=>⟨by unfold litE;rw [if_pos (by omega)],rfl⟩,fun hlong=>?_⟩
 refine LoopT.to (n:=n) hn (fun i h'=>h=h'/\(l.take i).any (badX 262144)=false) ⟨rfl,by simp⟩ ?_
 rintro i _ K hi ⟨rfl,hI⟩ hK
 refine ⟨fun hlt=>?_,fun hlt=>?_⟩
 ·refine ⟨by omega,hlt,r.getn (i:=i) (by omega) fun ad hl1 hc=>⟨_,hc,?_⟩⟩
  have bad:badX 262144 l[i]=true->litE 262144 l=141:=fun hb=>by
   unfold litE
   rw [if_neg (by omega),if_pos (List.any_eq_true.2 ⟨_,List.getElem_mem hl1,hb⟩)]
  refine ⟨fun hz=>⟨by rw [bad (by unfold badX;simp [hz])],rfl⟩,fun hz=>⟨fun h1=>⟨by rw [bad (by unfold badX;simp;omega)],rfl⟩,fun h1=>⟨fun h2=>⟨by rw [bad (by unfold badX;simp;omega)],rfl⟩,fun h2=>?_⟩⟩⟩
  refine hK _ (by omega) ⟨rfl,?_⟩
  rw [List.take_succ_eq_append_getElem hl1,List.any_append,hI]
  have:badX 262144 l[i]=false:=by unfold badX;simp;omega
  simp [this]
 ·rw [List.take_of_length_le (by omega)] at hI
  refine ⟨?_,rfl⟩
  unfold litE
  rw [if_neg (by omega),if_neg (by simp [hI])]
theorem ok47:callOk Try.prog 47=true:=by kernel_rfl
theorem c47 {ad:Addr} (hb:cellH h ad=some (.slice a n c)) (r:Rd h a n (ints l)) {y:Int} {r':List Int} (hl:l=y::r') (hy:-9223372036854775807≤y/\y≤9223372036854775807) (x:Int) :
  CallsH Try.prog 47 #[.int .i64 x,.pointer (some ad)] h (Ret (.bool (decide (x = -y))) h):=by
 have hlen:=r.ilen
 subst hl
 simp only [List.length_cons] at hlen
 refine run47 x (some ad) _ h (AtP.mk rfl ⟨_,_,_,hb,by omega,by omega,r.getn (i:=0) (by omega) fun ad1 hl1 hc=>⟨_,hc,fun he=>?_,fun hne=>?_⟩⟩)
 ·rw [List.getElem_cons_zero,w64 (by omega) (by omega)] at he
  exact ⟨by rw [decide_eq_true (by omega)],rfl⟩
 ·rw [List.getElem_cons_zero,w64 (by omega) (by omega)] at hne
  exact ⟨by rw [decide_eq_false (by omega)],rfl⟩
theorem c62 {size:Nat} (hs:size≤17592186044416):CallsH Try.prog 62 #[.slice none 0 0,.int .i64 (size:Int)] h fun w h'=>∃ a c,w=.slice a 0 c/\Fr h 1 h' a 0 c []:=by
 refine run62 none 0 0 (size:Int) _ h ⟨fun hlt=>by omega,fun _=>?_⟩
 unfold J62_0
 have w0:IntKind.wrap .i64 (((0:Nat):Int)-((0:Nat):Int))=0:=by decide
 rw [w0,w64 (x:=(size:Int)-0) (by omega) (by omega),Int.sub_zero]
 refine ⟨fun hpos=>⟨by omega,by omega,by omega,by omega,by omega,?_⟩,fun _=>⟨none,0,rfl,.nil (.refl h)⟩⟩
 have hz:(zeroRow #[Value.int .i64 0] (Int.toNat (size:Int)*1)).length=Int.toNat (size:Int)*1:=by rw [zeroRow_one];simp
 refine (Fr.nil (h0:=h) (sz:=1) (.refl h)).app hz (by intro y hy;rw [zeroRow_one] at hy;rw [List.eq_of_mem_replicate hy];rfl) (by omega) fun a' c' h' f u hor=>⟨by omega,by omega,by omega,?_⟩
 rw [cutA0]
 exact ⟨a',c',rfl,f.take0⟩
theorem c48 {sa:Option Addr} {sc:Nat} {s1 s2:Sl} {v1 v2:List Value} (r:Rd h sa 2 ([s1,s2].map Sl.v)) (r1:Rd h s1.a s1.n v1) (r2:Rd h s2.a s2.n v2) (o1:∀ y∈v1,y.oneCell'=true) (o2:∀ y∈v2,y.oneCell'=true) (hn:s1.n+s2.n≤5864062014804) :
  CallsH Try.prog 48 #[.slice sa 2 sc] h fun w h'=>∃ a c,w=.slice a (s1.n+s2.n) c/\Fr h 1 h' a (s1.n+s2.n) c (v1++v2):=by
 refine run48 sa 2 sc _ h (LoopT.to2 (n:=2) (by omega) (fun i (size:Int) h'=>h=h'/\size=if i=0 then 0 else if i=1 then (s1.n:Int) else ((s1.n+s2.n:Nat):Int)) ⟨rfl,rfl⟩ ?_)
 rintro i size _ K hi ⟨rfl,hsz⟩ hK
 refine ⟨fun hlt=>⟨by simp only;omega,by simp only;omega,r.getn (i:=i) (by simp only at hlt;omega) fun ad hl hc=>⟨_,_,_,hc,?_⟩⟩,fun hlt=>?_⟩
 ·have hlt':(i:Int)<((2:Nat):Int):=hlt
  rcases (by omega:i=0∨i=1) with rfl | rfl
  ·simp only [if_true] at hsz
   subst hsz
   have e:IntKind.wrap .i64 ((0:Int)+((s1.n:Nat):Int))=(s1.n:Int):=by rw [w64 (by omega) (by omega)];omega
   refine ⟨fun hneg=>?_,fun _=>?_⟩
   ·have hneg':IntKind.wrap .i64 ((0:Int)+((s1.n:Nat):Int))<0:=hneg
    omega
   ·have:=hK (s1.n:Int) h (by omega) ⟨rfl,by simp⟩
    show K (IntKind.wrap .i64 ((0:Int)+((s1.n:Nat):Int)),_) h
    rw [e];exact this
  ·simp only [if_neg (show ¬ (1:Nat)=0 by omega),if_true] at hsz
   subst hsz
   have e:IntKind.wrap .i64 (((s1.n:Nat):Int)+((s2.n:Nat):Int))=((s1.n+s2.n:Nat):Int):=by rw [w64 (by omega) (by omega)];omega
   refine ⟨fun hneg=>?_,fun _=>?_⟩
   ·have hneg':IntKind.wrap .i64 (((s1.n:Nat):Int)+((s2.n:Nat):Int))<0:=hneg
    omega
   ·have:=hK ((s1.n+s2.n:Nat):Int) h (by omega) ⟨rfl,by simp⟩
    show K (IntKind.wrap .i64 (((s1.n:Nat):Int)+((s2.n:Nat):Int)),_) h
    rw [e];exact this
 ·have hlt':¬ (i:Int)<((2:Nat):Int):=hlt
  obtain rfl:i=2:=by omega
  simp only [if_neg (show ¬ (2:Nat)=0 by omega),if_neg (show ¬ (2:Nat)=1 by omega)] at hsz
  subst hsz
  unfold J48_0
  refine (c62 (size:=s1.n+s2.n) (by omega)).mono ?_
  rintro _ h1 ⟨a1,c1,rfl,f1⟩
  refine ⟨_,_,_,rfl,?_⟩
  refine LoopT.to2 (n:=2) (by omega) (fun i (t:Option Addr×Nat×Nat) h'=>t.2.1=(if i=0 then 0 else if i=1 then s1.n else s1.n+s2.n)/\Fr h 1 h' t.1 t.2.1 t.2.2 (if i=0 then [] else if i=1 then v1 else v1++v2)) ⟨rfl,f1⟩ ?_
  rintro i ⟨a,n,c⟩ h2 K hi ⟨hn2,f⟩ hK
  refine ⟨fun hlt=>⟨by simp only;omega,by simp only;omega,(r.ext f.ext).getn (i:=i) (by simp only at hlt;omega) fun ad hl hc=>⟨_,_,_,hc,?_⟩⟩,fun hlt=>?_⟩
  ·have hlt':(i:Int)<((2:Nat):Int):=hlt
   simp only at hn2 f
   rcases (by omega:i=0∨i=1) with rfl | rfl
   ·simp only [if_true] at hn2 f
    subst hn2
    refine ⟨v1,(r1.ext f.ext).read,by rw [r1.len];show s1.n=s1.n*1;omega,f.app (by rw [r1.len];show s1.n=s1.n*1;omega) o1 (by show (0+s1.n)*8≤_;omega) fun a' c' h' f' u hor=>?_⟩
    exact hK (a',0+s1.n,c') h' (by omega) ⟨by simp,by simpa using f'⟩
   ·simp only [if_neg (show ¬ (1:Nat)=0 by omega),if_true] at hn2 f
    subst hn2
    refine ⟨v2,(r2.ext f.ext).read,by rw [r2.len];show s2.n=s2.n*1;omega,f.app (by rw [r2.len];show s2.n=s2.n*1;omega) o2 (by show (s1.n+s2.n)*8≤_;omega) fun a' c' h' f' u hor=>?_⟩
    exact hK (a',s1.n+s2.n,c') h' (by omega) ⟨by simp,by simpa using f'⟩
  ·have hlt':¬ (i:Int)<((2:Nat):Int):=hlt
   obtain rfl:i=2:=by omega
   simp only [if_neg (show ¬ (2:Nat)=0 by omega),if_neg (show ¬ (2:Nat)=1 by omega)] at hn2 f
   subst hn2
   exact ⟨a,c,rfl,f⟩
set_option maxHeartbeats 1000000 in
theorem c32 {A:Nat} (rs:Rd h (some ⟨A,0,none⟩) 2 v.cs) (r:FIs h v F) (ok:F.Ok) (hv0:-262144≤F.vars) (hF:F.cls.length≤1000000000) (hFl:∀ D∈F.cls,D.length≤262144/\∀ x∈D,-262144≤x/\x≤262144) (rl:Rd h a n (ints l)) (hn:n≤262144) (hx:∀ x∈l,-262144≤x/\x≤262144) :
  CallsH Try.prog 32 #[.pointer (some ⟨A,0,none⟩),.slice a n c] h (Xt (.bool (firB F l)) h):=by
 have hll:=rl.ilen
 have hlen:=r.r.len
 refine run32 (some ⟨A,0,none⟩) a n c _ h ?_
 unfold VC32
 intro h1
 have e1:Ext h h1:=Ext.box h _
 have f1:Fr h 1 h1 (some ⟨h.size,0,none⟩) 1 1 [.slice a n c]:=Fr.lit (.refl h) [.slice a n c] 26 1 rfl
 have hbx:cellH h1 ⟨h.size,0,none⟩=some (.slice a n c):=by have:=f1.rd.fld 0 rfl;rwa [addr_add0] at this
 refine ⟨_,_,_,hbx,fun hz=>?_,fun hz=>?_⟩
 ·have:l=[]:=List.length_eq_zero_iff.1 (by omega)
  subst this
  exact ⟨rfl,e1⟩
 obtain ⟨x,l',rfl⟩:∃ x l',l=x::l':=by
  cases l with
  | nil=>simp only [List.length_nil] at hll;omega
  | cons x l'=>exact ⟨x,l',rfl⟩
 have hxx:=hx x (by simp)
 unfold J32_0
 have c1:cellH h1 (Addr.add (Addr.add ⟨A,0,none⟩ 0) 1)=some (.slice v.s.a v.s.n v.s.c):=by rw [addr_add0];exact (rs.ext e1).fld 1 rfl
 refine AtP.mk rfl ⟨_,_,_,c1,?_⟩
 let q:List Int->Bool:=fun D=>!decide (-x∈D) || propB F ((x::l')++D.filter fun y=>!decide (y = -x))
 have hq:firB F (x::l')=F.cls.all q:=rfl
 refine LoopT.to (n:=v.s.n) (by omega) (fun i h'=>Ext h1 h'/\∀ D∈F.cls.take i,q D=true) ⟨.refl h1,by simp⟩ ?_
 rintro i h2 K hi ⟨e2,hI⟩ hK
 have e02:=e1.trans e2
 refine ⟨fun hlt=>?_,fun hlt=>?_⟩
 ·have hil:i<F.cls.length:=by omega
  have hD:=hFl _ (List.getElem_mem hil)
  unfold J32_2
  refine ⟨by omega,hlt,(r.r.ext e02).get (i:=i) (by omega) fun ad hl1 s1 hc hs hsc hsl hsn=>⟨_,_,_,hc,_,_,_,e2.cell hbx,by omega,by omega,(rl.ext e02).getn (i:=0) (by omega) fun ad1 hl2 hc2=>⟨_,hc2,?_⟩⟩⟩
  rw [List.getElem_cons_zero,w64 (x:=0-x) (by omega) (by omega),Int.zero_sub]
  refine use (c45 hs (by omega) (-x)) ⟨_,rfl,?_⟩
  have hnext:q F.cls[i]=true->∀ h',Ext h1 h'->K (IntKind.wrap .i64 ((i:Int)+1)) h':=fun hqi h' e=>hK h' (by omega) ⟨e,fun D hD=>by
   rw [List.take_succ_eq_append_getElem hil] at hD
   rcases List.mem_append.1 hD with hD | hD
   ·exact hI D hD
   ·rw [List.mem_singleton] at hD;subst hD;exact hqi⟩
  by_cases hm:-x∈s1.l
  ·rw [decide_eq_true hm]
   refine BIf.f ?_
   unfold J32_3
   refine (c29 hs (by omega)).mono ?_
   rintro _ h3 ⟨a3,n3,c10003,rfl,f3⟩
   have hn3:=f3.rd.ilen
   have hs3:=hs.ilen
   refine ⟨_,_,_,rfl,(c46 (h0:=h2) f3 (by omega) (p:=fun y=>decide (y = -x)) fun h' e y hy K' hK'=>?_).mono ?_⟩
   ·refine CallV.clo ok47 (use (c47 (ad:=⟨h.size,0,none⟩) (e.cell (e2.cell hbx)) (rl.ext (e02.trans e)) rfl (by omega) y) hK')
   rintro _ h4 ⟨k4,rfl,f4⟩
   have e4:Ext h1 h4:=e2.trans f4.ext
   have hk4:=f4.rd.ilen
   refine ⟨_,_,_,rfl,_,_,_,e4.cell hbx,?_⟩
   intro h5
   have e5:Ext h4 h5:=Ext.push h4 _
   have e05:=e1.trans (e4.trans e5)
   have f5:Fr h4 1 h5 (some ⟨h4.size,0,none⟩) 2 2 ([(⟨a,n,c⟩:Sl),⟨a3,k4,c10003⟩].map Sl.v):=Fr.lit (.refl h4) [.slice a n c,.slice a3 k4 c10003] 26 2 rfl
   have hfl:=List.length_filter_le (fun y=>!decide (y = -x)) s1.l
   refine (c48 (s1:=⟨a,n,c⟩) (s2:=⟨a3,k4,c10003⟩) f5.rd (rl.ext e05) ((f4.rd).ext e5) ints_one ints_one (by simp only;omega)).mono ?_
   rintro _ h6 ⟨a6,c10006,rfl,f6⟩
   have e06:=e05.trans f6.ext
   refine ⟨_,_,_,rfl,?_⟩
   have hci:(ints (x::l')++ints (s1.l.filter fun y=>!decide (y = -x)))=ints ((x::l')++s1.l.filter fun y=>!decide (y = -x)):=by unfold ints;rw [List.map_append]
   rw [hci] at f6
   refine useX (c31 (rs.ext e06) (r.ext e06) ok hv0 hF f6.rd (by simp only;omega) fun y hy=>?_) fun h7 e7=>?_
   ·rcases List.mem_append.1 hy with hy | hy
    ·exact hx y hy
    ·rw [hsl] at hy;exact hD.2 y (List.mem_filter.1 hy).1
   ·have e17:=(e4.trans e5).trans (f6.ext.trans e7)
    refine ⟨_,rfl,?_⟩
    have hqi:q F.cls[i]=propB F ((x::l')++s1.l.filter fun y=>!decide (y = -x)):=by
     show (!decide (-x∈F.cls[i]) || _)=_
     rw [<- hsl,decide_eq_true hm];rfl
    cases hp:propB F ((x::l')++s1.l.filter fun y=>!decide (y = -x)) with
    | true=>exact BIf.f (hnext (by rw [hqi,hp]) _ e17)
    | false=>
     refine BIf.t ⟨?_,e1.trans e17⟩
     have:firB F (x::l')=false:=by
      rw [hq,List.all_eq_false]
      exact ⟨_,List.getElem_mem hil,by rw [hqi,hp];decide⟩
     rw [this]
  ·rw [decide_eq_false hm]
   refine BIf.t (hnext ?_ _ e2)
   show (!decide (-x∈F.cls[i]) || _)=true
   rw [<- hsl,decide_eq_false hm];rfl
 ·rw [List.take_of_length_le (by omega)] at hI
  refine ⟨?_,e02⟩
  have:firB F (x::l')=true:=by rw [hq,List.all_eq_true];exact hI
  rw [this]
theorem c19 {A:Nat} (rs:Rd h (some ⟨A,0,none⟩) 2 v.cs) (r:FIs h v F) (ok:F.Ok) (hv0:-262144≤F.vars) (hF:F.cls.length≤1000000000) (hFl:∀ D∈F.cls,D.length≤262144/\∀ x∈D,-262144≤x/\x≤262144) (rl:Rd h a n (ints l)) (hn:n≤262144) (hx:∀ x∈l,-262144≤x/\x≤262144) :
  CallsH Try.prog 19 #[.pointer (some ⟨A,0,none⟩),.slice a n c] h (Xt (.int .i64 (folR F l)) h):=by
 refine run19 (some ⟨A,0,none⟩) a n c _ h (useX (c31 rs r ok hv0 hF rl (by omega) hx) fun h1 e1=>⟨_,rfl,?_⟩)
 unfold folR
 cases hp:propB F l with
 | true=>exact BIf.t ⟨rfl,e1⟩
 | false=>
  refine BIf.f (useX (c32 (rs.ext e1) (r.ext e1) ok hv0 hF hFl (rl.ext e1) hn hx) fun h2 e2=>⟨_,rfl,?_⟩)
  cases hf:firB F l with
  | true=>exact BIf.t ⟨rfl,e1.trans e2⟩
  | false=>exact BIf.f ⟨rfl,e1.trans e2⟩
end
end Go.Proofs.Ytobageabpfkpcaa
set_option maxRecDepth 100000
namespace Go.Proofs.Ytobageabpfkpcaa
open Go.Hx Go.Shelf Go.RowKit Go.Lib Go.Sort Go.Proofs
section
variable {h:Heap} {a:Option Addr} {n c:Nat} {l:List Int}
theorem c76 {h0:Heap} (f:Fr h0 1 h a n c (ints l)) (hn:n<4611686018427387904):CallsH Try.prog 76 #[.slice a n c,.int .i64 0,.int .i64 (n:Int),.int .i64 (Lib.bitLen n:Nat)] h fun w h'=>w=.tuple #[]/\∃ l',Fr h0 1 h' a n c (ints l'):=by
 have o:=f.own
 have hlen:=f.rd.ilen
 have hcap:=o.cap
 cases a with
 | none=>
  have hc:c=0:=o.mem
  obtain rfl:n=0:=by omega
  refine run76 none 0 c 0 0 _ _ h (LoopT.once fun K=>⟨fun _=>?_,fun hg=>absurd (show IntKind.wrap .i64 ((0:Int)-0)≤12 by decide) hg⟩)
  refine CallsH.mono (run87 none 0 c 0 0 (fun v h'=>v=.tuple #[]/\h'=h) h (LoopT.once fun K=>⟨fun hlt=>absurd hlt (by decide),fun _=>⟨rfl,rfl⟩⟩)) ?_
  rintro _ _ ⟨rfl,rfl⟩
  exact ⟨rfl,rfl,l,f⟩
 | some ad=>
  intro w hw
  subst hw
  obtain ⟨blk,off,sp⟩:=ad
  obtain ⟨hsp,cs,e,fr,hb,hle,hlo⟩:=o.mem
  simp only at hsp hb hle
  subst hsp
  have hblk:=(Array.getElem?_eq_some_iff.1 hb).1
  have hH:Holds (Value.int .i64) w blk off l.toArray:=by
   intro j hj
   have hj':j<l.length:=by simpa using hj
   have hrd:=o.rd.read j (.int .i64 l[j]) (by simp [ints,hj'])
   rw [cellH_row hb rfl] at hrd
   constructor
   ·rw [cell_eq]
    unfold cellH
    simp only [hb,Option.isSome_none,Bool.false_eq_true,if_false]
    rw [hrd]
    rw [getElem!_pos l.toArray j hj];simp
   ·unfold World.frozen?
    simp only [hb]
    have:=hlo (off+j) (Nat.le_add_right _ _) (by simp only at hle ⊢;omega)
    simpa using this
  have hsz:l.toArray.size=n:=by simpa using hlen
  have hk:bitsLen n≤62:=(bitsLen_le_iff n 62).2 (by omega)
  have hbl:Lib.bitLen n=bitsLen n:=bitLen_eq n (by omega)
  have hp:Calls Try.prog 76 #[.slice (some ⟨blk,off,none⟩) l.toArray.size c,.int .i64 ((0:Nat):Int),.int .i64 ((l.toArray.size:Nat):Int),.int .i64 ((bitsLen l.toArray.size:Nat):Int)] w fun e w'=>
    e=.returned (.tuple #[])/\∃ n os,w'=grow (putRow (Value.int .i64) (Sort.ahead w n) blk off (Sort.sort ltInt l.toArray)) os:=
   calls_of_every_depth fun D=>Any.pdqWalkInInt Try.laysSort D (pdqDepth ltInt l.toArray 0 l.toArray.size (bitsLen l.toArray.size) true true+6) blk off c 0 l.toArray.size (bitsLen l.toArray.size) l.toArray w (Nat.le_refl _) hH hblk (Nat.zero_le _) (Nat.le_refl _) (by omega) (by rw [hsz];omega) (Or.inl rfl)
  rw [hsz] at hp
  have hd0:(Sort.sort ltInt l.toArray).size=n:=by rw [Any.sort_int_eqD];simpa using hlen
  rw [hbl]
  refine hp.mono fun e' w' ⟨he,n',os,hw'⟩=>⟨_,he,?_⟩
  generalize Sort.sort ltInt l.toArray=d' at hw' hd0
  subst hw'
  have hheap:(grow (putRow (Value.int .i64) (Sort.ahead w n') blk off d') os).heap=w.heap.modify blk (onCells (putCells (Value.int .i64) off d'))++os:=rfl
  have hold:∀ b,b<w.heap.size->(grow (putRow (Value.int .i64) (Sort.ahead w n') blk off d') os).heap[b]?=if blk=b then some (.cells (putCells (Value.int .i64) off d' cs) e fr) else w.heap[b]?:=by
   intro b hbb
   rw [hheap,Array.getElem?_append_left (by simpa using hbb),Array.getElem?_modify]
   split
   ·rename_i hbe
    subst hbe
    rw [hb];rfl
   ·rfl
  have hu:Upd (atb (some ⟨blk,off,none⟩)) w.heap (grow (putRow (Value.int .i64) (Sort.ahead w n') blk off d') os).heap:=⟨by rw [hheap];simp,fun b hbb hne=>by rw [hold b hbb,if_neg fun hbe=>hne ⟨_,rfl,hbe.symm⟩]⟩
  refine ⟨⟨rfl,rfl,rfl,⟨by rw [hheap];simp,.inl (Nat.le_add_right _ _)⟩⟩,rfl,d'.toList,⟨?_,f.new,Fr.ext_of f.ext f.new hu⟩⟩
  have hrow:=hold blk hblk
  rw [if_pos rfl] at hrow
  have hpsz:(putCells (Value.int .i64) off d' cs).size=cs.size:=by unfold putCells;simp
  refine ⟨⟨fun i v hv=>?_,?_⟩,hcap,rfl,_,e,fr,hrow,by rw [hpsz];exact hle,hlo⟩
  ·rw [cellH_row hrow rfl]
   have hi:=(List.getElem?_eq_some_iff.1 hv).1
   simp only [ints,List.length_map,Array.length_toList] at hi
   rw [putCells_at hi (by omega)]
   simpa [ints,hi] using hv
  ·simp only [ints,List.length_map,Array.length_toList];omega
theorem c75 {x:Nat} (hx:x≤18446744073709551615) (h:Heap):CallsH Try.prog 75 #[.int .u64 (x:Int)] h (Ret (.int .i64 (Lib.bitLen x:Nat)) h):=by
 intro w hw
 subst hw
 refine (Try.bits_Len (x:Int) w (by omega) (by omega)).mono fun e w' ⟨he,hw'⟩=>?_
 subst hw'
 exact ⟨_,he,.refl _,rfl,rfl⟩
theorem c73 {h0:Heap} (f:Fr h0 1 h a n c (ints l)) (hn:n<4611686018427387904):CallsH Try.prog 73 #[.slice a n c] h fun w h'=>w=.tuple #[]/\∃ l',Fr h0 1 h' a n c (ints l'):=by
 have e:IntKind.wrap .u64 ((n:Nat):Int)=(n:Int):=by rw [wr_u64];omega
 refine run73 a n c _ h ?_
 unfold VC73
 rw [e]
 exact use (c75 (x:=n) (by omega) h) ⟨_,rfl,(c76 f hn).mono fun _ _ ⟨h1,h2⟩=>⟨h1,rfl,h2⟩⟩
theorem c66 (r:Rd h a n (ints l)) (hn:n≤17592186044416):CallsH Try.prog 66 #[.slice a n c] h fun w h'=>∃ a' n' c' l',w=.slice a' n' c'/\Fr h 1 h' a' n' c' (ints l')/\n'=n:=by
 refine run66 a n c _ h ((c29 r hn).mono ?_)
 rintro _ h1 ⟨a1,n1,c1,rfl,f1⟩
 have h1l:=f1.rd.ilen
 have hl:=r.ilen
 refine ⟨_,_,_,rfl,(c73 f1 (by omega)).mono ?_⟩
 rintro _ h2 ⟨rfl,l2,f2⟩
 exact ⟨rfl,_,_,_,l2,rfl,f2,by omega⟩
theorem ok67:callOk Try.prog 67=true:=by kernel_rfl
theorem c67 {ad:Addr} {b:Option Addr} {m d:Nat} {want:List Int} (hb:cellH h ad=some (.slice b m d)) (s:Rd h b m (ints want)) (hm:m≤17592186044416) (r:Rd h a n (ints l)) (hn:n≤17592186044416) :
  CallsH Try.prog 67 #[.slice a n c,.pointer (some ad)] h fun w h'=>∃ t:Bool,w=.bool t/\Ext h h':=by
 refine run67 a n c (some ad) _ h (AtP.mk rfl ⟨cellH_lt hb,_,_,_,hb,fun he=>?_,fun hne=>⟨_,rfl,.refl _⟩⟩)
 refine (c66 r hn).mono ?_
 rintro _ h1 ⟨a1,n1,c1,l1,rfl,f1,hn1⟩
 have e1:=f1.ext
 refine ⟨_,_,_,rfl,?_,AtP.mk rfl ⟨cellH_lt hb,_,_,_,e1.cell hb,use (c68 f1.rd (s.ext e1) (by omega) (by omega)) ⟨_,rfl,?_,_,rfl,e1⟩⟩⟩
 ·exact fun b hb=>e1.2 b hb fun h=>h
 ·exact fun b hb=>rfl
theorem c53 {L:List (List Int)} (r:RdRs h a n L) (hn:n<9223372036854775807) (hL:∀ D∈L,D.length≤17592186044416) {g:Value} (hg:∀ h',Ext h h'->∀ (s:Rw),Rd h' s.a s.n (ints s.l)->s.l∈L->CallV Try.prog g [s.v] h' fun w h''=>∃ t:Bool,w=.bool t/\Ext h' h'') :
  CallsH Try.prog 53 #[.slice a n c,g] h fun w h'=>Ext h h'/\∃ z:Int,w=.int .i64 z/\(z<0∨∃ i:Nat,i<n/\z=i):=by
 refine run53 a n c g _ h (LoopT.to (n:=n) hn (fun i h'=>Ext h h') (.refl h) ?_)
 rintro i h1 K hi e1 hK
 refine ⟨fun hlt=>?_,fun hlt=>⟨e1,_,rfl,.inl (by decide)⟩⟩
 refine ⟨by omega,hlt,(r.ext e1).get (i:=i) (by omega) fun ad hl1 s hc hs hsc hsl hsn=>⟨_,_,_,hc,?_⟩⟩
 have:=hg h1 e1 s hs (by rw [hsl];exact List.getElem_mem _)
 revert this
 unfold CallV
 cases g with
 | func cl first cap=>
  cases cl with
  | func fn=>
   rintro ⟨hok,hc⟩
   refine ⟨hok,hc.mono ?_⟩
   rintro _ h2 ⟨t,rfl,e2⟩
   refine ⟨t,rfl,?_⟩
   cases t with
   | true=>exact BIf.t ⟨e1.trans e2,_,rfl,.inr ⟨i,by omega,rfl⟩⟩
   | false=>exact BIf.f (hK h2 (by omega) (e1.trans e2))
  | _=>intro h;exact h.elim
 | _=>intro h;exact h.elim
end
section
variable {h:Heap} {a:Option Addr} {n c:Nat} {vs:List Value}
theorem c69 {h0:Heap} (f:Fr h0 1 h a n c vs) (h1:∀ y∈vs,y.oneCell'=true) (hn:n≤5864062014800) {i:Nat} (hi:i<n):CallsH Try.prog 69 #[.slice a n c,.int .i64 (i:Int),.int .i64 ((i:Int)+1)] h fun w h'=>
  w=.slice a (n-1) c/\Upd (atb a) h h'/\Fr h0 1 h' a (n-1) c (vs.eraseIdx i):=by
 have hlen:=f.rd.len
 have hcap:=f.own.cap
 refine run69 a n c _ _ _ h ⟨by omega,by omega,by omega,by omega,fun he=>by omega,fun _=>?_⟩
 unfold J69_0
 have t1:Int.toNat ((i:Int)+1)=i+1:=by omega
 refine ⟨by omega,by omega,by omega,by omega,by omega,by omega,vs.drop (i+1),?_,?_,?_⟩
 ·rw [t1]
  have:=(f.rd.cutA (sz:=1) (c:=c) (i+1) (n-(i+1)) (by omega) (by omega))
  rw [Nat.mul_one,List.take_of_length_le (by rw [List.length_drop];omega)] at this
  exact this.read
 ·rw [List.length_drop,t1];omega
 ·rw [t1,cutA0]
  have e1:Int.toNat (i:Int)-Int.toNat 0=i:=by omega
  have e2:c-Int.toNat 0=c:=by omega
  have e3:Int.toNat ((n:Nat):Int)-(i+1)=n-1-i:=by omega
  rw [e1,e2,e3]
  refine f.appIn (by rw [List.length_drop];omega) (fun y hy=>h1 y (List.mem_of_mem_drop hy)) (by omega) fun h2 u2 f2=>?_
  have e4:i+(n-1-i)=n-1:=by omega
  rw [e4] at f2 ⊢
  refine ⟨by omega,by omega,by omega,?_⟩
  rw [Int.toNat_natCast]
  refine f2.clr (k:=n-1) (by omega) (by rw [zeroRow_one];simp) (by intro w hw;rw [zeroRow_one] at hw;rw [List.eq_of_mem_replicate hw];rfl) fun h3 u3 f3=>⟨rfl,u2.trans u3,?_⟩
  have e5:(vs.take i++vs.drop (i+1)++vs.drop (n-1)).take (n-1)=vs.eraseIdx i:=by
   rw [List.eraseIdx_eq_take_drop_succ,List.take_append_of_le_length (by simp;omega),List.take_of_length_le (by simp;omega)]
  rw [e5] at f3
  exact f3
end
end Go.Proofs.Ytobageabpfkpcaa
set_option maxRecDepth 100000
namespace Go.Hx
structure Ln where
 g:Bool
 s:Rw
def Ln.cs (x:Ln):List Value:=[.bool x.g,.slice x.s.a x.s.n x.s.c]
def Ln.p (x:Ln):Bool×List Int:=(x.g,x.s.l)
structure RdLs (h:Heap) (a:Option Addr) (n:Nat) (L:List (Bool×List Int)):Prop where
 ex:∃ rows:List Ln,Rd h a (n*2) (rows.flatMap Ln.cs)/\(∀ s∈rows,Rd h s.s.a s.s.n (ints s.s.l)/\s.s.n≤s.s.c)/\rows.map Ln.p=L
theorem RdLs.ext {h h':Heap} {a:Option Addr} {n:Nat} {L:List (Bool×List Int)} (r:RdLs h a n L) (u:Ext h h'):RdLs h' a n L:=by
 obtain ⟨rows,a1,a2,a3⟩:=r.ex
 exact ⟨rows,a1.ext u,fun s hs=>⟨(a2 s hs).1.ext u,(a2 s hs).2⟩,a3⟩
theorem RdLs.len {h:Heap} {a:Option Addr} {n:Nat} {L:List (Bool×List Int)} (r:RdLs h a n L):L.length=n:=by
 obtain ⟨rows,a1,a2,a3⟩:=r.ex
 have:=a1.elen (f:=Ln.cs) (fun _=>rfl) (by omega)
 rw [<- a3,List.length_map,this]
theorem RdLs.get {h:Heap} {a:Option Addr} {n:Nat} {L:List (Bool×List Int)} (r:RdLs h a n L) {i:Nat} (hi:i<n) {K:Addr->Prop}
  (hK:∀ ad (hl:i<L.length) (x:Ln),Rd h (.some (ad.add (i*2))) 2 x.cs->Rd h x.s.a x.s.n (ints x.s.l)->x.s.n≤x.s.c->L[i]=(x.g,x.s.l)->K ad):AtP a K:=by
 obtain ⟨rows,a1,a2,a3⟩:=r.ex
 refine a1.elem (f:=Ln.cs) (fun _=>rfl) (by omega) hi fun ad hl hr=>?_
 refine hK ad (by rw [<- a3,List.length_map];exact hl) rows[i] hr (a2 _ (List.getElem_mem hl)).1 (a2 _ (List.getElem_mem hl)).2 ?_
 subst a3
 simp [Ln.p]
def lnsF:List (Bool×List Int)->Int
 | []=>0
 | x::r=>if litE 262144 x.2=0 then lnsF r else litE 262144 x.2
def lnsE (L:List (Bool×List Int)):Int:=if 16384<L.length then 2 else lnsF L
theorem lnsF_drop {L:List (Bool×List Int)} {i:Nat} (hi:i<L.length):lnsF (L.drop i)=if litE 262144 L[i].2=0 then lnsF (L.drop (i+1)) else litE 262144 L[i].2:=by
 rw [List.drop_eq_getElem_cons hi];rfl
theorem lnsF_ok:∀ {L:List (Bool×List Int)},lnsF L=0->∀ x∈L,litE 262144 x.2=0
 | [],_,_,hx=>by cases hx
 | y::r,h,x,hx=>by
  unfold lnsF at h
  by_cases h0:litE 262144 y.2=0
  ·rw [if_pos h0] at h
   rcases List.mem_cons.1 hx with rfl | hx
   ·exact h0
   ·exact lnsF_ok h x hx
  ·rw [if_neg h0] at h;exact absurd h h0
theorem map_erase {α β:Type} (f:α->β) (l:List α) (i:Nat):(l.eraseIdx i).map f=(l.map f).eraseIdx i:=by simp [List.eraseIdx_eq_take_drop_succ,List.map_take,List.map_drop]
def StM (h0 h:Heap) (A:Nat) (v:FV) (F:Fm) (X:List Itm):Prop:=
 v.n=F.vars/\∃ (R:List Rw) (inner:List Itm),R.map Rw.l=F.cls/\Mem h0 h (⟨1,some ⟨A,0,none⟩,2,2,v.cs⟩::⟨1,v.s.a,v.s.n,v.s.c,R.map Rw.v⟩::(X++inner))/\∀ s∈R,s.n≤s.c/\(Rd h0 s.a s.n (ints s.l)∨s.it∈inner)
theorem StM.ext {h0 h h':Heap} {A:Nat} {v:FV} {F:Fm} {X:List Itm} (m:StM h0 h A v F X) (u:Ext h h'):StM h0 h' A v F X:=by
 obtain ⟨e,R,inner,a1,a2,a3⟩:=m
 exact ⟨e,R,inner,a1,a2.ext' u,a3⟩
theorem StM.mem {h0 h:Heap} {A:Nat} {v:FV} {F:Fm} {X:List Itm} (m:StM h0 h A v F X):Ext h0 h:=by
 obtain ⟨e,R,inner,a1,a2,a3⟩:=m
 exact a2.ext
theorem StM.rs {h0 h:Heap} {A:Nat} {v:FV} {F:Fm} {X:List Itm} (m:StM h0 h A v F X):Rd h (some ⟨A,0,none⟩) 2 v.cs:=by
 obtain ⟨e,R,inner,a1,a2,a3⟩:=m
 exact (a2.get 0 rfl).rd
theorem StM.fis {h0 h:Heap} {A:Nat} {v:FV} {F:Fm} {X:List Itm} (m:StM h0 h A v F X):FIs h v F:=by
 obtain ⟨e,R,inner,a1,a2,a3⟩:=m
 refine ⟨e,⟨R,(a2.get 1 rfl).rd,fun s hs=>?_,a1⟩⟩
 obtain ⟨b1,b2 | b2⟩:=a3 s hs
 ·exact ⟨b2.ext a2.ext,b1⟩
 ·exact ⟨(a2.fr s.it (by simp [b2])).rd,b1⟩
theorem StM.put {h0 h h':Heap} {A:Nat} {v:FV} {F:Fm} {X:List Itm} (m:StM h0 h A v F X) {t:Itm} (f:t.Fr h h'):StM h0 h' A v F (t::X):=by
 obtain ⟨e,R,inner,a1,a2,a3⟩:=m
 refine ⟨e,R,inner,a1,(a2.add f).perm ?_,a3⟩
 exact (List.Perm.swap _ _ _).trans (.cons _ (.swap _ _ _))
theorem StM.cut {h0 h:Heap} {A:Nat} {v:FV} {F:Fm} {X:List Itm} {t:Itm} (m:StM h0 h A v F (t::X)):StM h0 h A v F X:=by
 obtain ⟨e,R,inner,a1,a2,a3⟩:=m
 exact ⟨e,R,inner,a1,a2.sub (List.Sublist.cons_cons _ (List.Sublist.cons_cons _ (List.sublist_cons_self _ _))),a3⟩
theorem StM.item {h0 h:Heap} {A:Nat} {v:FV} {F:Fm} {X:List Itm} (m:StM h0 h A v F X) {t:Itm} (ht:t∈X):t.Fr h0 h:=by
 obtain ⟨e,R,inner,a1,a2,a3⟩:=m
 exact a2.fr t (by simp [ht])
structure Bd (F:Fm):Prop where
 v0:0≤F.vars
 v1:F.vars≤262144
 l:∀ D∈F.cls,D.length≤16384/\∀ x∈D,x≠0 /\-262144≤x/\x≤262144
theorem Bd.ok {F:Fm} (b:Bd F) (hn:F.cls.length≤1000000000):F.Ok:=
 ⟨by have:=b.v0;omega,by have:=b.v1;omega,by omega,fun c hc=>by have:=(b.l c hc).1;omega,fun c hc x hx=>by have:=(b.l c hc).2 x hx;omega⟩
def DoR (F:Fm) (x:Bool×List Int) (e:Int) (F':Fm):Prop:=
 (x.1=true->(e=0/\F'.vars=F.vars/\∃ i,F'.cls=F.cls.eraseIdx i)∨(e≠0/\F'=F)) /\
 (x.1=false->(folR F x.2=0->e=180/\F'=F)/\(folR F x.2≠0->e=0/\F'=⟨gr F.vars x.2,F.cls++[x.2]⟩))
theorem DoR.bd {F F':Fm} {x:Bool×List Int} {e:Int} (d:DoR F x e F') (b:Bd F) (hx:litE 262144 x.2=0):Bd F'/\F'.cls.length≤F.cls.length+1:=by
 obtain ⟨x1,x2⟩:=litE_0 hx
 cases hg:x.1 with
 | true=>
  rcases d.1 hg with ⟨_,hv,i,hi⟩ | ⟨_,rfl⟩
  ·exact ⟨⟨by rw [hv];exact b.v0,by rw [hv];exact b.v1,fun D hD=>b.l D (by rw [hi] at hD;exact List.mem_of_mem_eraseIdx hD)⟩,by rw [hi];have:=List.length_eraseIdx_le (l:=F.cls) (i:=i);omega⟩
  ·exact ⟨b,by omega⟩
 | false=>
  obtain ⟨d1,d2⟩:=d.2 hg
  by_cases h0:folR F x.2=0
  ·obtain ⟨_,rfl⟩:=d1 h0
   exact ⟨b,by omega⟩
  ·obtain ⟨_,rfl⟩:=d2 h0
   have g1:=(gr_ge x.2 F.vars).1
   have g2:gr F.vars x.2≤262144:=gr_le x.2 F.vars 262144 b.v1 fun y hy=>by have:=x2 y hy;omega
   refine ⟨⟨by have:=b.v0;show 0≤gr F.vars x.2;omega,g2,fun D hD=>?_⟩,by simp⟩
   rcases List.mem_append.1 hD with hD | hD
   ·exact b.l D hD
   ·rw [List.mem_singleton] at hD;subst hD
    exact ⟨x1,fun y hy=>by have:=x2 y hy;omega⟩
end Go.Hx
namespace Go.Proofs.Ytobageabpfkpcaa
open Go.Hx Go.RowKit
section
variable {h:Heap} {v:FV} {F:Fm} {a:Option Addr} {n c:Nat}
theorem c37 {L:List (Bool×List Int)} (r:RdLs h a n L) (hn:n<9223372036854775807) (hL:∀ x∈L,x.2.length<9223372036854775807):CallsH Try.prog 37 #[.slice a n c] h (Xt (.int .i64 (lnsE L)) h):=by
 have hl:=r.len
 refine run37 a n c _ h ⟨fun hlong=>⟨by unfold lnsE;rw [if_pos (by omega)],.refl h⟩,fun hlong=>?_⟩
 refine LoopT.to (n:=n) hn (fun i h'=>Ext h h'/\lnsF L=lnsF (L.drop i)) ⟨.refl h,by simp⟩ ?_
 rintro i h1 K hi ⟨e1,hI⟩ hK
 refine ⟨fun hlt=>?_,fun hlt=>?_⟩
 ·refine ⟨by omega,hlt,(r.ext e1).get (i:=i) (by omega) fun ad hl1 x hc hs hsc hx=>⟨_,_,_,_,hc.cells,?_⟩⟩
  intro h2
  have f2:Fr h1 1 h2 (some ⟨h1.size,0,none⟩) 2 2 [.bool false,.slice none 0 0]:=Fr.lit (.refl h1) [.bool false,.slice none 0 0] 39 2 rfl
  refine f2.put (ws:=x.cs) rfl (by simp [Ln.cs,Value.oneCell']) fun h3 f3 u3=>?_
  have e13:Ext h1 h3:=f3.ext
  have hsl:=hs.ilen
  have hb:x.s.l.length<9223372036854775807:=by have:=hL _ (List.getElem_mem hl1);rw [hx] at this;exact this
  refine ⟨_,_,_,f3.rd.fld 1 rfl,use (c18 (hs.ext e13) (by omega)) ⟨_,rfl,fun hz=>?_,fun hz=>?_⟩⟩
  ·refine hK h3 (by omega) ⟨e1.trans e13,?_⟩
   rw [hI,lnsF_drop hl1,hx]
   exact if_pos hz
  ·refine ⟨?_,e1.trans e13⟩
   unfold lnsE
   rw [if_neg (by omega),hI,lnsF_drop hl1,hx,if_neg hz]
 ·refine ⟨?_,e1⟩
  unfold lnsE
  rw [if_neg (by omega),hI,List.drop_of_length_le (by omega)]
  rfl
set_option maxHeartbeats 2000000 in
theorem c57 {h0:Heap} {A:Nat} {X:List Itm} (m:StM h0 h A v F X) (b:Bd F) (hF:F.cls.length≤1000000) {g:Bool} {l:List Int} (r0:Rd h0 a n (ints l)) (hx:litE 262144 l=0) :
  CallsH Try.prog 57 #[.pointer (some ⟨A,0,none⟩),.agg #[.bool g,.slice a n c]] h fun w h'=>∃ (e:Int) (v':FV) (F':Fm),w=.int .i64 e/\DoR F (g,l) e F'/\StM h0 h' A v' F' X/\Upd (fun i=>i=A∨Hx.atb v.s.a i) h h':=by
 obtain ⟨x1,x2⟩:=litE_0 hx
 have hlen:=m.fis.r.len
 have r:=r0.ext m.mem
 have hnl:=r.ilen
 have ok:=b.ok (by omega)
 have hFl:∀ D∈F.cls,D.length≤262144/\∀ x∈D,-262144≤x/\x≤262144:=fun D hD=>⟨by have:=(b.l D hD).1;omega,fun x hx=>by have:=(b.l D hD).2 x hx;omega⟩
 have hv0:=b.v0
 have hv1:=b.v1
 refine run57 (some ⟨A,0,none⟩) g a n c _ h ?_
 unfold VC57
 intro h1
 have f1:Fr h 1 h1 (some ⟨h.size,0,none⟩) 2 2 [.bool g,.slice a n c]:=Fr.lit (.refl h) [.bool g,.slice a n c] 39 2 rfl
 have e1:=f1.ext
 refine ⟨g,f1.rd.fld 0 rfl,?_⟩
 cases g with
 | true=>
  refine BIf.t ⟨_,_,_,f1.rd.fld 1 rfl,(c66 (r.ext e1) (by omega)).mono ?_⟩
  rintro _ h2 ⟨a2,n2,c2,l2,rfl,f2,rfl⟩
  have e2:=f2.ext
  refine ⟨_,_,_,rfl,?_⟩
  intro h3
  have f3:Fr h2 1 h3 (some ⟨h2.size,0,none⟩) 1 1 [.slice none 0 0]:=Fr.lit (.refl h2) [.slice none 0 0] 26 1 rfl
  refine f3.put (ws:=[.slice a2 n2 c2]) rfl (by simp [Value.oneCell']) fun h4 f4 u4=>?_
  have e4:=f4.ext
  have e04:Ext h h4:=e1.trans (e2.trans e4)
  have m4:=m.ext e04
  refine AtP.mk rfl ⟨_,_,_,by rw [add00];exact m4.rs.fld 1 rfl,?_⟩
  have hbx:cellH h4 ⟨h2.size,0,none⟩=some (.slice a2 n2 c2):=by have:=f4.rd.fld 0 rfl;rwa [addr_add0] at this
  refine (c53 m4.fis.r (by omega) (fun D hD=>by have:=(b.l D hD).1;omega) fun h' e' s hs hsm=>CallV.clo ok67 ((c67 (e'.cell hbx) ((f2.rd.ext e4).ext e') (by omega) hs (by have:=(b.l _ hsm).1;have:=hs.ilen;omega)))).mono ?_
  rintro _ h5 ⟨e5,z,rfl,hz⟩
  have e05:=e04.trans e5
  have m5:=m.ext e05
  refine ⟨_,rfl,fun hneg=>⟨181,v,F,rfl,⟨fun _=>.inr ⟨by decide,rfl⟩,fun h=>by cases h⟩,m5,Upd.wide e05⟩,fun hpos=>?_⟩
  rcases hz with hz | ⟨i,hi,rfl⟩
  ·exact absurd hz hpos
  unfold J57_1
  obtain ⟨me,R,inner,a1,a2',a3⟩:=m5
  have hRl:R.length=v.s.n:=by rw [<- hlen,<- a1,List.length_map]
  refine AtP.mk rfl ⟨_,_,_,by rw [add00];exact (a2'.get 0 rfl).rd.fld 1 rfl,?_⟩
  rw [w64 (x:=(i:Int)+1) (by omega) (by omega)]
  refine (c69 (a2'.get 1 rfl) Rw.one (by omega) hi).mono ?_
  rintro _ h6 ⟨rfl,u6,f6⟩
  have m6:=a2'.setAt 1 (t':=⟨1,v.s.a,v.s.n-1,v.s.c,(R.eraseIdx i).map Rw.v⟩) rfl (by
   have e:(R.map Rw.v).eraseIdx i=(R.eraseIdx i).map Rw.v:=by rw [map_erase]
   rw [e] at f6;exact f6) u6 (.inl rfl)
  refine ⟨_,_,_,rfl,AtP.mk rfl ?_⟩
  rw [add00]
  refine (m6.get 0 rfl).cellAt 1 (by omega) rfl fun h7 u7 f7=>?_
  let v':FV:=⟨v.n,⟨v.s.a,v.s.n-1,v.s.c⟩⟩
  have m7:=m6.setAt 0 (t':=⟨1,some ⟨A,0,none⟩,2,2,v'.cs⟩) rfl f7 u7 (.inl rfl)
  refine ⟨0,v',⟨F.vars,F.cls.eraseIdx i⟩,rfl,⟨fun _=>.inl ⟨rfl,rfl,i,rfl⟩,fun h=>by cases h⟩,⟨me,R.eraseIdx i,inner,by rw [<- a1,map_erase],m7,fun s hs=>a3 s (List.mem_of_mem_eraseIdx hs)⟩,?_⟩
  exact (Upd.wide e05).trans (((u6.mono fun j _ hj=>.inr hj)).trans (u7.mono fun j _ ⟨ad,h1,h2⟩=>.inl (by cases h1;exact h2)))
 | false=>
  refine BIf.f ?_
  unfold J57_0
  have m1:=m.ext e1
  have hlx:∀ x∈l,-262144≤x/\x≤262144:=fun x hxl=>by have:=x2 x hxl;omega
  refine ⟨_,_,_,f1.rd.fld 1 rfl,useX (c19 m1.rs m1.fis ok (by omega) (by omega) hFl (r.ext e1) (by omega) hlx) fun h2 e2=>⟨_,rfl,fun hz=>?_,fun hz=>?_⟩⟩
  ·exact ⟨180,v,F,rfl,⟨fun h=>(by cases h),fun _=>⟨fun _=>⟨rfl,rfl⟩,fun hn=>absurd hz hn⟩⟩,m.ext (e1.trans e2),Upd.wide (e1.trans e2)⟩
  unfold J57_2
  have e02:=e1.trans e2
  let bx:Itm:=⟨1,some ⟨h.size,0,none⟩,2,2,[.bool false,.slice a n c]⟩
  have m1':StM h0 h1 A v F (bx::X):=m.put (t:=bx) f1
  obtain ⟨me,R,inner,a1,a2',a3⟩:=m1'.ext e2
  have hRl:R.length=v.s.n:=by rw [<- hlen,<- a1,List.length_map]
  refine AtP.mk rfl ⟨_,by rw [add00];exact (a2'.get 0 rfl).rd.fld 0 rfl,_,_,_,(a2'.get 2 rfl).rd.fld 1 rfl,use (c43 (r.ext e02) (by omega) (n:=v.n) (by omega) hlx) ⟨_,rfl,AtP.mk rfl ?_⟩⟩
  rw [add00]
  refine (a2'.get 0 rfl).cellAt 0 (by omega) rfl fun h3 u3 f3=>?_
  let v3:FV:=⟨gr v.n l,v.s⟩
  have m3:=a2'.setAt 0 (t':=⟨1,some ⟨A,0,none⟩,2,2,v3.cs⟩) rfl f3 u3 (.inl rfl)
  have r3:=r0.ext m3.ext
  have k1:=(m3.get 0 rfl).rd.fld 1 rfl
  have k2:=(m3.get 2 rfl).rd.fld 1 rfl
  refine AtP.mk rfl ⟨by have:=cellH_lt k1;rwa [add_block] at this ⊢,_,_,_,by rw [add00];exact k1,cellH_lt k2,_,_,_,k2,(c29 r3 (by omega)).mono ?_⟩
  rintro _ h4 ⟨a4,n4,c10004,rfl,f4⟩
  refine ⟨_,_,_,rfl,fun b hb=>f4.ext.2 b hb fun h=>h,?_⟩
  intro h5
  let x:Rw:=⟨a4,n4,c10004,l⟩
  have m4:=((m3.add (t:=x.it) f4).perm (List.perm_middle (l₁:=⟨1,some ⟨A,0,none⟩,2,2,v3.cs⟩::⟨1,v.s.a,v.s.n,v.s.c,R.map Rw.v⟩::bx::X) (l₂:=inner)).symm).ext' (Ext.push h4 (.cells #[x.v] 26))
  refine ⟨fun b hb=>(Ext.push h4 (.cells #[x.v] 26)).2 b (Nat.lt_of_lt_of_le hb f4.ext.1) fun h=>h,[x.v],(Fr.lit (.refl h4) [x.v] 26 1 rfl).rd.read,rfl,?_⟩
  refine (m4.get 1 rfl).app rfl (by simp [x,Rw.v,Value.oneCell']) (by omega) fun a6 c10006 h6 f6 u6 hor=>?_
  have m6:=m4.setAt 1 (t':=⟨1,a6,v.s.n+1,c10006,(R++[x]).map Rw.v⟩) rfl (by rw [List.map_append];exact f6) u6 hor
  refine AtP.mk rfl ?_
  rw [add00]
  refine (m6.get 0 rfl).cellAt 1 (by omega) rfl fun h7 u7 f7=>?_
  let v7:FV:=⟨gr v.n l,⟨a6,v.s.n+1,c10006⟩⟩
  have m7:=m6.setAt 0 (t':=⟨1,some ⟨A,0,none⟩,2,2,v7.cs⟩) rfl f7 u7 (.inl rfl)
  refine ⟨0,v7,⟨gr F.vars l,F.cls++[l]⟩,rfl,⟨fun h=>(by cases h),fun _=>⟨fun h=>absurd h hz,fun _=>⟨rfl,rfl⟩⟩⟩,?_,?_⟩
  ·refine StM.cut (t:=bx) ⟨by show gr v.n l=gr F.vars l;rw [me],R++[x],x.it::inner,by rw [List.map_append,a1];rfl,m7,fun s hs=>?_⟩
   rcases List.mem_append.1 hs with hs | hs
   ·obtain ⟨b1,b2 | b2⟩:=a3 s hs
    ·exact ⟨b1,.inl b2⟩
    ·exact ⟨b1,.inr (List.mem_cons_of_mem _ b2)⟩
   ·rw [List.mem_singleton] at hs;subst hs
    exact ⟨f4.own.cap,.inr (List.mem_cons_self ..)⟩
  ·have w3:Upd (fun i=>i=A∨Hx.atb v.s.a i) h2 h3:=u3.mono fun j _ ⟨ad,h1,h2⟩=>.inl (by cases h1;exact h2)
   have w5:Upd (fun i=>i=A∨Hx.atb v.s.a i) h3 h5:=Upd.wide (f4.ext.trans (Ext.push h4 _))
   have w6:Upd (fun i=>i=A∨Hx.atb v.s.a i) h5 h6:=u6.mono fun j _ hj=>.inr hj
   have w7:Upd (fun i=>i=A∨Hx.atb v.s.a i) h6 h7:=u7.mono fun j _ ⟨ad,h1,h2⟩=>.inl (by cases h1;exact h2)
   exact (Upd.wide e02).trans (w3.trans (w5.trans (w6.trans w7)))
end
end Go.Proofs.Ytobageabpfkpcaa
