/- Words and facts that the claim's proof leans on. No condition. -/
import Derived.Test.YtobageabpfkpcaaGreatDoorGD
set_option linter.unusedVariables false
set_option linter.unusedSimpArgs false
set_option maxRecDepth 100000
namespace Go.Hx
open Go.Proofs.YtobageabpfkpcaaGreatDoor
def n32 (b:UInt8):Bool:=b != 32
theorem tw_all {p:UInt8->Bool}:∀ {l:List UInt8},(∀ b∈l,p b=true)->l.takeWhile p=l
 | [],_=>rfl
 | a::l,h=>by rw [List.takeWhile_cons_of_pos (h a (by simp)),tw_all fun b hb=>h b (by simp [hb])]
theorem tw_mem {p:UInt8->Bool}:∀ {l:List UInt8} {b:UInt8},b∈l.takeWhile p->p b=true
 | [],b,h=>by cases h
 | a::l,b,h=>by
  cases ha:p a with
  | true=>
   rw [List.takeWhile_cons_of_pos ha] at h
   rcases List.mem_cons.1 h with rfl | h
   ·exact ha
   ·exact tw_mem h
  | false=>rw [List.takeWhile_cons_of_neg (by rw [ha];simp)] at h;cases h
def splN:Nat->List UInt8->List (List UInt8)
 | 0,l=>[l]
 | k+1,l=>if l.takeWhile n32=l then [l] else l.takeWhile n32::splN k (l.drop ((l.takeWhile n32).length+1))
theorem index32:∀ L:List UInt8,(Lib.index L [32] = -1/\L.takeWhile n32=L)∨(∃ k:Nat,Lib.index L [32]=k/\k<L.length/\L.takeWhile n32=L.take k)
 | []=>.inl ⟨rfl,rfl⟩
 | b::l=>by
  by_cases hb:b=32
  ·subst hb
   exact .inr ⟨0,by rw [Lib.index];rfl,by simp,rfl⟩
  ·have hp:([32]:List UInt8).isPrefixOf (b::l)=false:=by simp [List.isPrefixOf];exact fun h=>hb h.symm
   have hn:n32 b=true:=by simp [n32,hb]
   rw [Lib.index,hp,List.takeWhile_cons_of_pos hn]
   rcases index32 l with ⟨h1,h2⟩ | ⟨k,h1,h3,h2⟩
   ·left;rw [h1,h2];exact ⟨rfl,rfl⟩
   ·right
    refine ⟨k+1,?_,by simpa using h3,by rw [h2,List.take_succ_cons]⟩
    rw [h1]
    have:((k:Int) == -1)=false:=by rw [beq_eq_false_iff_ne];omega
    rw [this];rfl
theorem splitB_spl:∀ (k:Nat) (s:ByteArray),Lib.splitB ⟨#[32]⟩ 0 k s=(splN k (B s)).map mk
 | 0,s=>by rw [Lib.splitB,splN,List.map_singleton,mk_B]
 | k+1,s=>by
  have hx:Lib.indexB s ⟨#[32]⟩=Lib.index (B s) [32]:=rfl
  rw [splN]
  rcases index32 (B s) with ⟨h1,h2⟩ | ⟨j,h1,h3,h2⟩
  ·rw [Lib.splitB_miss _ _ _ _ (by rw [hx];exact h1),if_pos h2,List.map_singleton,mk_B]
  ·have hlen:=B_len s
   rw [Lib.splitB_hit _ _ _ _ j (by rw [hx];exact h1),splitB_spl k,if_neg,h2,List.map_cons,List.length_take,Nat.min_eq_left (by omega)]
   ·congr 1
    ·apply B_inj
     rw [B_extract,B_mk];simp
    ·congr 2
     rw [B_extract]
     show ((B s).drop (j+1)).take (s.size-(j+1))=_
     rw [List.take_of_length_le (by rw [List.length_drop];omega)]
   ·intro h4
    rw [h2] at h4
    have:=congrArg List.length h4
    rw [List.length_take] at this
    omega
theorem splN_one {w:List UInt8} (h:∀ b∈w,b≠32) (k:Nat):splN k w=[w]:=by
 cases k with
 | zero=>rfl
 | succ k=>
  rw [splN,if_pos]
  exact tw_all fun b hb=>by simp [n32,h b hb]
theorem splN_app {w r:List UInt8} (h:∀ b∈w,b≠32) (k:Nat):splN (k+1) (w++32::r)=w::splN k r:=by
 have ht:(w++32::r).takeWhile n32=w:=by
  rw [List.takeWhile_append_of_pos (by intro b hb;simp [n32,h b hb])]
  rw [List.takeWhile_cons_of_neg (by decide),List.append_nil]
 rw [splN,ht,if_neg]
 ·congr 2
  rw [List.drop_append]
  simp
 ·intro h1
  have:=congrArg List.length h1
  simp at this
theorem splN_join:∀ (k:Nat) (l:List UInt8),∃ a r,splN k l=a::r/\a++(r.map fun w=>32::w).flatten=l
 | 0,l=>⟨l,[],rfl,by simp⟩
 | k+1,l=>by
  rw [splN]
  by_cases h:l.takeWhile n32=l
  ·rw [if_pos h];exact ⟨l,[],rfl,by simp⟩
  ·rw [if_neg h]
   obtain ⟨a,r,h1,h2⟩:=splN_join k (l.drop ((l.takeWhile n32).length+1))
   refine ⟨_,_,rfl,?_⟩
   rw [h1,List.map_cons,List.flatten_cons,List.cons_append,h2]
   rcases index32 l with ⟨_,h4⟩ | ⟨j,h3,h5,h4⟩
   ·exact absurd h4 h
   ·have h6:l[j]=32:=by
     have h7:l.takeWhile n32++l.dropWhile n32=l:=List.takeWhile_append_dropWhile
     have h8:l.dropWhile n32=l.drop j:=by
      have:=congrArg (List.drop j) h7
      rw [h4,List.drop_append,List.length_take,Nat.min_eq_left (by omega),Nat.sub_self,List.drop_zero,List.drop_of_length_le (by rw [List.length_take];omega),List.nil_append] at this
      exact this
     have h9:=List.head?_dropWhile_not n32 l
     rw [h8,List.head?_drop,List.getElem?_eq_getElem h5] at h9
     simpa [n32] using h9
    rw [h4,List.length_take,Nat.min_eq_left (by omega),<- h6,<- List.drop_eq_getElem_cons h5,List.take_append_drop]
def pcnf:List UInt8:=[112,32,99,110,102,32]
def PrP (l:List UInt8) (x y:Int):Prop:=∃ c d,l=pcnf++(c++32::d)/\cntS c 262144=some x/\cntS d 524288=some y
theorem cntS_some {l:List UInt8} {m n:Int} (h:cntS l m=some n):l≠[]/\(l.head?≠some 48∨l=[48])/\(∀ b∈l,isDig b=true)/\n=val 0 l/\n≤m:=by
 unfold cntS at h
 split at h
 ·rename_i hh
  obtain ⟨h1,h2,h3⟩:=hh
  cases h
  have hb:bodyL l=l:=by unfold bodyL;rw [if_neg h2]
  obtain ⟨a,b,c⟩:=wholeOk_t.1 h1
  rw [hb] at a b c
  exact ⟨a,b,c,by unfold wholeV;rw [if_neg h2,hb],h3⟩
 ·cases h
theorem cntS_of {l:List UInt8} {m:Int} (h0:l≠[]) (h1:l.head?≠some 48∨l=[48]) (h2:∀ b∈l,isDig b=true) (h3:(val 0 l:Int)≤m):cntS l m=some (val 0 l:Int):=by
 have h4:l.take 1≠[45]:=by
  cases l with
  | nil=>exact absurd rfl h0
  | cons b r=>
   intro h5
   have hb:b=45:=by simpa using h5
   subst hb
   have:=isDig_t.1 (h2 45 (by simp))
   exact absurd this (by decide)
 have hb:bodyL l=l:=by unfold bodyL;rw [if_neg h4]
 have hv:wholeV l=val 0 l:=by unfold wholeV;rw [if_neg h4,hb]
 unfold cntS
 rw [if_pos ⟨wholeOk_t.2 (by rw [hb];exact ⟨h0,h1,h2⟩),h4,by rw [hv];exact h3⟩,hv]
theorem dig32 {l:List UInt8} (h:∀ b∈l,isDig b=true):∀ b∈l,b≠32:=by
 intro b hb h1
 subst h1
 have:=isDig_t.1 (h 32 hb)
 exact absurd this (by decide)
theorem pieces_spl (l:List UInt8):piecesB (mk l)=(splN (l.count 32) l).map mk:=by
 unfold piecesB
 rw [splitB_spl,B_mk]
 congr 2
 show Lib.count (B (mk l)) [32]=_
 rw [B_mk,Lib.count_one]
theorem prS_iff {l:List UInt8} {x y:Int}:prS l=some (x,y)↔PrP l x y:=by
 constructor
 ·intro h
  unfold prS prG at h
  split at h
  ·rename_i a b c d hp
   split at h
   ·rename_i hab
    split at h
    ·cases h
    ·split at h
     ·cases h
     ·rename_i u hc _ v hd
      cases h
      rw [pieces_spl] at hp
      obtain ⟨w,r,h1,h2⟩:=splN_join (l.count 32) l
      rw [h1] at hp
      match r,hp,h2 with
      | [r1,r2,r3],hp,h2=>
       simp only [List.map_cons,List.map_nil,List.cons.injEq,and_true] at hp
       obtain ⟨p1,p2,p3,p4⟩:=hp
       obtain ⟨q1,q2⟩:=hab
       have e1:w=[112]:=by have:=congrArg B (p1.trans q1);rw [B_mk] at this;exact this
       have e2:r1=[99,110,102]:=by have:=congrArg B (p2.trans q2);rw [B_mk] at this;exact this
       subst p3 p4 e1 e2
       rw [B_mk] at hc hd
       refine ⟨r2,r3,?_,hc,hd⟩
       rw [<- h2];simp [pcnf]
      | [],hp,h2=>simp at hp
      | [_],hp,h2=>simp at hp
      | [_,_],hp,h2=>simp at hp
      | _::_::_::_::_,hp,h2=>simp at hp
   ·cases h
  ·cases h
 ·rintro ⟨c,d,rfl,hc,hd⟩
  obtain ⟨-,-,c3,-,-⟩:=cntS_some hc
  obtain ⟨-,-,d3,-,-⟩:=cntS_some hd
  have hcnt:(pcnf++(c++32::d)).count 32=3:=by
   rw [List.count_append,List.count_append,List.count_cons_self,List.count_eq_zero.2 fun h=>dig32 c3 _ h rfl,List.count_eq_zero.2 fun h=>dig32 d3 _ h rfl]
   decide
  unfold prS
  rw [pieces_spl,hcnt]
  have e:pcnf++(c++32::d)=[112]++32::([99,110,102]++32::(c++32::d)):=rfl
  rw [e,splN_app (by decide),splN_app (by decide),splN_app (dig32 c3),splN_one (dig32 d3)]
  simp only [List.map_cons,List.map_nil]
  rw [prG4,if_pos ⟨rfl,rfl⟩,B_mk,hc]
  simp only
  rw [B_mk,hd]
def numF (l:List UInt8):Option (Int×Nat):=if l.takeWhile isDig=[]∨((l.takeWhile isDig).head?=some 48/\(l.takeWhile isDig).length≠1)∨2147483647<val 0 (l.takeWhile isDig) then none else some ((val 0 (l.takeWhile isDig):Int),(l.takeWhile isDig).length)
theorem numF_some {l:List UInt8} {n:Int} {k:Nat} (h:numF l=some (n,k)):∃ d r,l=d++r/\d.length=k/\d≠[]/\(d.head?≠some 48∨d=[48])/\(∀ b∈d,isDig b=true)/\n=val 0 d:=by
 unfold numF at h
 split at h
 ·cases h
 ·rename_i hh
  cases h
  have h1:¬ l.takeWhile isDig=[]:=fun h=>hh (.inl h)
  have h2:¬ ((l.takeWhile isDig).head?=some 48/\(l.takeWhile isDig).length≠1):=fun h=>hh (.inr (.inl h))
  refine ⟨l.takeWhile isDig,l.dropWhile isDig,List.takeWhile_append_dropWhile.symm,rfl,h1,?_,fun b hb=>?_,rfl⟩
  ·by_cases h3:(l.takeWhile isDig).head?=some 48
   ·right
    have h4:(l.takeWhile isDig).length=1:=by
     by_cases h5:(l.takeWhile isDig).length=1
     ·exact h5
     ·exact absurd ⟨h3,h5⟩ h2
    obtain ⟨a,ha⟩:=List.length_eq_one_iff.1 h4
    rw [ha] at h3 ⊢
    have:a=48:=by simpa using h3
    rw [this]
   ·exact .inl h3
  ·exact tw_mem hb
theorem numF_of {d r:List UInt8} (h0:d≠[]) (h1:d.head?≠some 48∨d=[48]) (h2:∀ b∈d,isDig b=true) (h3:val 0 d≤2147483647) (h4:∀ b,r.head?=some b->isDig b=false):numF (d++r)=some ((val 0 d:Int),d.length):=by
 have ht:(d++r).takeWhile isDig=d:=by
  rw [List.takeWhile_append_of_pos h2]
  cases r with
  | nil=>simp
  | cons b r=>rw [List.takeWhile_cons_of_neg (by rw [h4 b rfl];simp),List.append_nil]
 unfold numF
 rw [ht,if_neg]
 rintro (h | ⟨h,h'⟩ | h)
 ·exact h0 h
 ·rcases h1 with h1 | h1
  ·exact h1 h
  ·rw [h1] at h';exact h' rfl
 ·omega
def prR (l:List UInt8):Option (Int×Int):=
 if l.take 6=pcnf then match numF (l.drop 6) with
  | none=>none
  | some (v,k)=>if l[6+k]?=some 32 then match numF (l.drop (6+k+1)) with
   | none=>none
   | some (n,j)=>if 6+k+1+j=l.length/\v≤262144/\n≤524288 then some (v,n) else none
   else none
 else none
theorem prR_iff {l:List UInt8} {x y:Int}:prR l=some (x,y)↔PrP l x y:=by
 constructor
 ·intro h
  unfold prR at h
  split at h
  ·rename_i h6
   split at h
   ·cases h
   ·rename_i v k hk
    split at h
    ·rename_i h32
     split at h
     ·cases h
     ·rename_i n j hj
      split at h
      ·rename_i hh
       cases h
       obtain ⟨c,r,e1,e2,c0,c1,c2,rfl⟩:=numF_some hk
       obtain ⟨d,q,f1,f2,d0,d1,d2,rfl⟩:=numF_some hj
       have el:l=pcnf++(c++r):=by rw [<- e1,<- h6,List.take_append_drop]
       subst el
       have hr:r.head?=some 32:=by
        rw [List.getElem?_append_right (by simp [pcnf])] at h32
        simp only [pcnf,List.length_cons,List.length_nil] at h32
        rw [List.getElem?_append_right (by omega)] at h32
        rw [List.head?_eq_getElem?]
        rw [<- h32];congr 1;omega
       obtain ⟨r',rfl⟩:∃ r',r=32::r':=by
        cases r with
        | nil=>cases hr
        | cons b r'=>exact ⟨r',by rw [Option.some.inj hr]⟩
       have hq:r'=d++q:=by
        rw [<- f1]
        have:pcnf++(c++32::r')=(pcnf++(c++[32]))++r':=by simp
        rw [this,List.drop_append]
        have e3:(pcnf++(c++[32])).length=6+k+1:=by simp [pcnf];omega
        rw [<- e3];simp
       have hq0:q=[]:=by
        have:=hh.1
        rw [hq] at this
        simp [pcnf] at this
        exact List.eq_nil_of_length_eq_zero (by omega)
       subst hq0
       rw [List.append_nil] at hq
       subst hq
       exact ⟨_,_,rfl,cntS_of c0 c1 c2 hh.2.1,cntS_of d0 d1 d2 hh.2.2⟩
      ·cases h
    ·cases h
  ·cases h
 ·rintro ⟨c,d,rfl,hc,hd⟩
  obtain ⟨c0,c1,c2,rfl,c3⟩:=cntS_some hc
  obtain ⟨d0,d1,d2,rfl,d3⟩:=cntS_some hd
  have h6:(pcnf++(c++32::d)).take 6=pcnf:=rfl
  have h7:(pcnf++(c++32::d)).drop 6=c++32::d:=rfl
  have e3:(pcnf++(c++[32])).length=6+c.length+1:=by simp [pcnf];omega
  unfold prR
  rw [if_pos h6,h7,numF_of c0 c1 c2 (by omega) (by intro b hb;cases hb;decide)]
  simp only
  rw [if_pos,show pcnf++(c++32::d)=(pcnf++(c++[32]))++(d++[]) by simp,<- e3,List.drop_left,numF_of d0 d1 d2 (by omega) (by intro b hb;cases hb)]
  ·simp only
   rw [if_pos]
   refine ⟨?_,c3,d3⟩
   simp only [List.length_append,List.length_nil];omega
  ·rw [List.getElem?_append_right (by simp [pcnf]),List.getElem?_append_right (by simp [pcnf])]
   simp [pcnf]
theorem prR_eq (l:List UInt8):prR l=prS l:=by
 cases h:prR l with
 | some p=>obtain ⟨x,y⟩:=p;exact (prS_iff.2 (prR_iff.1 h)).symm
 | none=>
  cases h':prS l with
  | none=>rfl
  | some p=>obtain ⟨x,y⟩:=p;rw [prR_iff.2 (prS_iff.1 h')] at h;cases h
end Go.Hx
set_option maxRecDepth 100000
namespace Go.Hx
def refV (l:List UInt8):Int:=if l.take 1=[45] then -((min (val 0 (bodyL l)) 1099511627776:Nat):Int) else ((min (val 0 (bodyL l)) 1099511627776:Nat):Int)
theorem refV_in {l:List UInt8} {n:Int} (h0:0≤n) (h1:n≤1000000):(n<refV l∨refV l < -n)↔(wholeV l < -n∨n<wholeV l):=by
 unfold refV wholeV;split <;> omega
theorem refV_eq {l:List UInt8} {n:Int} (h0:0≤n) (h1:n≤1000000) (h:¬ (wholeV l < -n∨n<wholeV l)):refV l=wholeV l:=by
 unfold refV;unfold wholeV at h ⊢;split <;> rename_i hh <;> simp only [hh,if_true,if_false] at h <;> omega
theorem val_take {l:List UInt8} {i:Nat} (hi:i<l.length):val 0 (l.take (i+1))=val 0 (l.take i)*10+(l[i].toNat-48):=by
 rw [List.take_succ_eq_append_getElem hi,val_app,val_cons];rfl
end Go.Hx
set_option maxRecDepth 100000
namespace Go.Hx
open Go.Proofs.YtobageabpfkpcaaGreatDoor
theorem LoopT.frm2a {τ:Type} {B:τ×Int->Heap->(τ×Int->Heap->Prop)->Prop} {a n:Nat} {h:Heap} {t0:τ} (ha:a≤n) (I:Nat->τ->Heap->Prop) (h0:I a t0 h)
  (hs:∀ (i:Nat) (x:τ) (h':Heap) (K:τ×Int->Heap->Prop),a≤i->i≤n->I i x h'->(∀ (j:Nat) y h'',i<j->j≤n->I j y h''->K (y,(j:Int)) h'')->B (x,(i:Int)) h' K):LoopT B (t0,(a:Int)) h:=by
 refine ⟨fun t h' m=>∃ i:Nat,t.2=i/\a≤i/\i≤n/\m=n-i/\I i t.1 h',⟨n-a,a,rfl,Nat.le_refl _,ha,rfl,h0⟩,?_⟩
 rintro ⟨x,t⟩ h' m ⟨i,rfl,hai,hi,rfl,hI⟩
 refine hs i x h' _ hai hi hI fun j y h'' hlt hj hI'=>?_
 exact ⟨n-j,by omega,j,rfl,by omega,hj,rfl,hI'⟩
def digAt (L:List UInt8) (i:Nat):Bool:=match L[i]? with | some b=>isDig b | none=>false
theorem digAt_lt {L:List UInt8} {i:Nat} (h:i<L.length):digAt L i=isDig L[i]:=by unfold digAt;rw [List.getElem?_eq_getElem h]
theorem digAt_ge {L:List UInt8} {i:Nat} (h:L.length≤i):digAt L i=false:=by unfold digAt;rw [List.getElem?_eq_none h]
theorem lineAt_of {L:List UInt8} {i j:Nat} (hij:i≤j) (hj:j≤L.length) (h:∀ k,i≤k->(hk:k<L.length)->k<j->nl10 L[k]=true) (he:(hk:j<L.length)->nl10 L[j]=false):(lineAt L i).length=j-i:=by
 unfold lineAt
 rw [tw_len (L.drop i) (j-i) (by rw [List.length_drop];omega) (fun k hk hkj=>by
  rw [List.length_drop] at hk
  rw [List.getElem_drop];exact h _ (by omega) (by omega) (by omega)) (fun hk=>by
  rw [List.length_drop] at hk
  rw [List.getElem_drop]
  have:=he (by omega)
  simp only [show i+(j-i)=j by omega,this]),List.length_take,List.length_drop]
 omega
theorem wrap8 {b:UInt8} (h:isDig b=true):IntKind.wrap .i64 (IntKind.wrap .u8 ((b.toNat:Int)-48))=((b.toNat-48:Nat):Int):=by
 have:=isDig_t.1 h
 rw [wr_u8,w64 (by omega) (by omega)];omega
def numV (L:List UInt8) (i:Nat):Value:=match numF (L.drop i) with
 | some (n,k)=>.tuple #[.int .i64 n,.int .i64 ((i+k:Nat):Int),.bool true]
 | none=>.tuple #[.int .i64 0,.int .i64 0,.bool false]
theorem tw_at {L:List UInt8} {i k:Nat} (h:k<((L.drop i).takeWhile isDig).length):∃ hk:i+k<L.length,L[i+k]=((L.drop i).takeWhile isDig)[k]/\isDig L[i+k]=true:=by
 have hp:=List.takeWhile_prefix (l:=L.drop i) isDig
 have hle:=hp.length_le
 rw [List.length_drop] at hle
 have e:=hp.getElem h
 rw [List.getElem_drop] at e
 exact ⟨by omega,e.symm,by rw [<- e];exact tw_mem (List.getElem_mem h)⟩
theorem tw_stop {L:List UInt8} {i:Nat}:digAt L (i+((L.drop i).takeWhile isDig).length)=false:=by
 have h:=List.head?_dropWhile_not isDig (L.drop i)
 have e:(L.drop i).dropWhile isDig=L.drop (i+((L.drop i).takeWhile isDig).length):=by
  have h7:(L.drop i).takeWhile isDig++(L.drop i).dropWhile isDig=L.drop i:=List.takeWhile_append_dropWhile
  have:=congrArg (List.drop ((L.drop i).takeWhile isDig).length) h7
  rw [List.drop_left,List.drop_drop] at this
  exact this
 rw [e,List.head?_drop] at h
 unfold digAt
 cases hx:L[i+((L.drop i).takeWhile isDig).length]? with
 | none=>rfl
 | some b=>rw [hx] at h;simpa using h
end Go.Hx
namespace Go.Proofs.YtobageabpfkpcaaGreatDoor
open Go.Hx Go.RowKit
section
variable {h:Heap}
theorem c49 (x e:Int) (h:Heap):CallsH Tryz.prog 49 #[.int .i64 x,.int .i64 e] h (Xt (flt x e) h):=by
 refine run49 x e _ h ?_
 unfold VC49
 intro h1
 exact fl (Fr.two h 0 0 27) x e fun h4 f4 u4=>⟨rfl,f4.ext⟩
theorem c50 (s:ByteArray) {i:Nat} (hi:i≤s.size) (hs:s.size≤262144) (h:Heap):CallsH Tryz.prog 50 #[.string s,.int .i64 (i:Int)] h (Ret (.int .i64 ((i+(lineAt (B s) i).length:Nat):Int)) h):=by
 have hlen:=B_len s
 refine run50 s i _ h (LoopT.frm (a:=i) (n:=s.size) hi (fun j h'=>h=h'/\∀ k,i≤k->(hk:k<(B s).length)->k<j->nl10 (B s)[k]=true) ⟨rfl,fun k h1 h2 h3=>by omega⟩ ?_)
 rintro j _ K hij hj ⟨rfl,hI⟩ hK
 have fin:((hk:j<(B s).length)->nl10 (B s)[j]=false)->J50_0 (Ret (.int .i64 ((i+(lineAt (B s) i).length:Nat):Int)) h) (j:Int) h:=fun he=>by
  unfold J50_0
  refine ⟨?_,rfl⟩
  rw [lineAt_of hij (by omega) hI he,show i+(j-i)=j by omega]
 refine ⟨fun hlt=>?_,fun hlt=>fin fun hk=>by omega⟩
 have hjl:j<(B s).length:=by omega
 rw [byteAt_nat hjl]
 have e10:(((B s)[j].toNat:Nat):Int)=10↔nl10 (B s)[j]=false:=by
  unfold nl10
  rw [bne_eq_false_iff_eq]
  constructor
  ·intro h5;apply UInt8.toNat_inj.1;show _=10;omega
  ·intro h5;rw [h5];rfl
 refine ⟨by omega,hlt,fun h5=>fin fun _=>e10.1 h5,fun h5=>?_⟩
 rw [w1 (n:=s.size) (by omega) hj]
 refine hK (j+1) h (by omega) (by omega) ⟨rfl,fun k h1 h2 h3=>?_⟩
 by_cases hkj:k=j
 ·subst hkj
  cases hn:nl10 (B s)[k] with
  | true=>rfl
  | false=>exact absurd (e10.2 hn) h5
 ·exact hI k h1 h2 (by omega)
theorem c51 (l:ByteArray) (h:Heap):CallsH Tryz.prog 51 #[.string l] h (Ret (.bool (comL (B l))) h):=by
 have hlen:=B_len l
 have e1:l=ByteArray.mk #[99]↔B l=[99]:=⟨(fun h=>by rw [h]),fun h=>B_inj h⟩
 have e2:l.extract (Int.toNat 0) (Int.toNat 2)=ByteArray.mk #[99,32]↔(B l).take 2=[99,32]:=by
  constructor
  ·intro h1
   have:=congrArg B h1
   rw [B_extract] at this;exact this
  ·intro h1
   apply B_inj
   rw [B_extract];exact h1
 refine run51 l _ h ⟨fun h1=>⟨?_,rfl⟩,fun h1=>⟨fun h2=>⟨by omega,by omega,by omega,fun h3=>⟨?_,rfl⟩,fun h3=>⟨?_,rfl⟩⟩,fun h2=>⟨?_,rfl⟩⟩⟩
 ·unfold comL;rw [decide_eq_true (e1.1 h1)];rfl
 ·unfold comL;rw [decide_eq_true (e2.1 h3)];simp
 ·unfold comL;rw [decide_eq_false fun h=>h3 (e2.2 h),decide_eq_false fun h=>h1 (e1.2 h)];rfl
 ·unfold comL
  rw [decide_eq_false fun h=>h1 (e1.2 h),decide_eq_false fun h=>by have:=congrArg List.length h;rw [List.length_take] at this;simp at this;omega]
  try rfl
theorem c120 (s:ByteArray) (i:Nat) (h:Heap):CallsH Tryz.prog 120 #[.string s,.int .i64 (i:Int)] h (Ret (.bool (digAt (B s) i)) h):=by
 have hlen:=B_len s
 refine run120 s i _ h ⟨fun _=>⟨fun hlt=>?_,fun hge=>⟨by rw [digAt_ge (by omega)],rfl⟩⟩,fun hneg=>by omega⟩
 have hil:i<(B s).length:=by omega
 rw [byteAt_nat hil,digAt_lt hil]
 refine ⟨by omega,hlt,fun h1=>⟨by omega,hlt,fun h2=>⟨by rw [isDig_t.2 ⟨by omega,by omega⟩],rfl⟩,fun h2=>⟨by rw [isDig_f.2 (by omega)],rfl⟩⟩,fun h1=>⟨by rw [isDig_f.2 (by omega)],rfl⟩⟩
theorem c93 (s:ByteArray) (hs:s.size≤262144) {i:Nat} (hi:i≤s.size) (h:Heap):CallsH Tryz.prog 93 #[.string s,.int .i64 (i:Int)] h (Ret (numV (B s) i) h):=by
 have hlen:=B_len s
 have hw:((B s).drop i).takeWhile isDig=[]↔digAt (B s) i=false:=by
  constructor
  ·intro h1
   have:=tw_stop (L:=B s) (i:=i)
   rw [h1] at this;exact this
  ·intro h1
   cases h2:((B s).drop i).takeWhile isDig with
   | nil=>rfl
   | cons b r=>
    obtain ⟨hk,_,h3⟩:=tw_at (L:=B s) (i:=i) (k:=0) (by rw [h2];simp)
    rw [digAt_lt (by omega)] at h1
    rw [show (B s)[i+0]=(B s)[i] by rfl,h1] at h3;cases h3
 have no:(((B s).drop i).takeWhile isDig=[]∨((((B s).drop i).takeWhile isDig).head?=some 48/\(((B s).drop i).takeWhile isDig).length≠1)∨2147483647<val 0 (((B s).drop i).takeWhile isDig))->Ret (numV (B s) i) h (.tuple #[.int .i64 0,.int .i64 0,.bool false]) h:=fun hc=>by
  refine ⟨?_,rfl⟩
  unfold numV numF
  rw [if_pos hc]
 refine run93 s i _ h (use (c120 s i h) ⟨_,rfl,?_⟩)
 cases hd:digAt (B s) i with
 | false=>exact BIf.t (no (.inl (hw.2 hd)))
 | true=>
  refine BIf.f ?_
  have hne:((B s).drop i).takeWhile isDig≠[]:=fun h1=>by rw [hw.1 h1] at hd;cases hd
  have hpos:=List.length_pos_iff.2 hne
  obtain ⟨hk0,h0e,h0d⟩:=tw_at (L:=B s) (i:=i) (k:=0) hpos
  have hil:i<(B s).length:=by omega
  have h0h:(((B s).drop i).takeWhile isDig).head?=some (B s)[i]:=by
   rw [List.head?_eq_getElem?,List.getElem?_eq_getElem hpos,<- h0e];rfl
  refine ⟨by omega,by omega,?_⟩
  rw [byteAt_nat hil]
  have e48:(((B s)[i].toNat:Nat):Int)=48↔(((B s).drop i).takeWhile isDig).head?=some 48:=by
   rw [h0h]
   constructor
   ·intro h5;congr 1;apply UInt8.toNat_inj.1;show _=48;omega
   ·intro h5;rw [Option.some.inj h5];rfl
  have loop:¬ ((((B s).drop i).takeWhile isDig).head?=some 48/\(((B s).drop i).takeWhile isDig).length≠1)->J93_0 Tryz.prog (Ret (numV (B s) i) h) s (i:Int) h:=fun hnz=>by
   have hsz:i+(((B s).drop i).takeWhile isDig).length≤s.size:=by
    obtain ⟨hk,_,_⟩:=tw_at (L:=B s) (i:=i) (k:=(((B s).drop i).takeWhile isDig).length-1) (by omega)
    omega
   have hst:=tw_stop (L:=B s) (i:=i)
   have hat:=fun k hk=>tw_at (L:=B s) (i:=i) (k:=k) hk
   have hnum:numV (B s) i=if 2147483647<val 0 (((B s).drop i).takeWhile isDig) then .tuple #[.int .i64 0,.int .i64 0,.bool false] else .tuple #[.int .i64 (val 0 (((B s).drop i).takeWhile isDig):Int),.int .i64 ((i+(((B s).drop i).takeWhile isDig).length:Nat):Int),.bool true]:=by
    unfold numV numF
    by_cases hb:2147483647<val 0 (((B s).drop i).takeWhile isDig)
    ·rw [if_pos (.inr (.inr hb)),if_pos hb]
    ·rw [if_neg (fun hh=>by rcases hh with h1 | h1 | h1;exact hne h1;exact hnz h1;exact hb h1),if_neg hb]
   rw [hnum]
   clear hnum hnz no e48 h0h hw
   generalize ((B s).drop i).takeWhile isDig=D at *
   unfold J93_0
   refine LoopT.frm2a (a:=i) (n:=i+D.length) (by omega) (fun j (n:Int) h'=>h=h'/\n=(val 0 (D.take (j-i)):Int)/\n≤2147483647) ⟨rfl,by rw [Nat.sub_self];rfl,by decide⟩ ?_
   rintro j n _ K hij hj ⟨rfl,hn,hn2⟩ hK
   refine use (c120 s j h) ⟨_,rfl,?_⟩
   by_cases hjD:j-i<D.length
   ·obtain ⟨hk,he,hdg⟩:=hat (j-i) hjD
    have hij2:i+(j-i)=j:=by omega
    have hjl:j<(B s).length:=by omega
    have hjd:isDig (B s)[j]=true:=by have:=hdg;simp only [hij2] at this;exact this
    have hje:(B s)[j]=D[j-i]:=by have:=he;simp only [hij2] at this;exact this
    rw [digAt_lt hjl,hjd]
    refine BIf.t ?_
    have hdd:=isDig_t.1 hjd
    have hv:=val_take hjD
    rw [<- hje,show j-i+1=j+1-i by omega] at hv
    unfold J93_2
    rw [byteAt_nat hjl,wrap8 hjd]
    have w10:IntKind.wrap .i64 (n*10)=n*10:=w64 (by omega) (by omega)
    simp only [w10]
    have wsum:IntKind.wrap .i64 (n*10+(((B s)[j].toNat-48:Nat):Int))=((val 0 (D.take (j+1-i)):Nat):Int):=by rw [w64 (by omega) (by omega)];omega
    rw [wsum]
    refine ⟨by omega,by omega,fun hbig=>⟨?_,rfl⟩,fun hbig=>?_⟩
    ·have:val 0 (D.take (j+1-i))≤val 0 D:=by
      have e:=List.take_append_drop (j+1-i) D
      conv=>rhs;rw [<- e]
      rw [val_app];exact val_ge _ _
     rw [if_pos (by omega)]
    ·rw [w1 (n:=s.size) (by omega) (by omega)]
     exact hK (j+1) _ h (by omega) (by omega) ⟨rfl,rfl,by omega⟩
   ·obtain rfl:j=i+D.length:=by omega
    rw [hst]
    refine BIf.f ⟨?_,rfl⟩
    rw [show i+D.length-i=D.length by omega,List.take_length] at hn
    rw [if_neg (by omega),hn]
  refine ⟨fun h5=>?_,fun h5=>loop fun hh=>h5 (e48.2 hh.1)⟩
  rw [w1 (n:=s.size) (by omega) hi]
  refine use (c120 s (i+1) h) ⟨_,rfl,?_⟩
  cases hd2:digAt (B s) (i+1) with
  | true=>
   refine BIf.t (no (.inr (.inl ⟨e48.1 h5,fun h6=>?_⟩)))
   have:=tw_stop (L:=B s) (i:=i)
   rw [h6,hd2] at this;cases this
  | false=>
   refine BIf.f (loop fun hh=>hh.2 ?_)
   rcases Nat.lt_or_ge 1 (((B s).drop i).takeWhile isDig).length with h6 | h6
   ·obtain ⟨hk,_,h7⟩:=tw_at (L:=B s) (i:=i) (k:=1) h6
    rw [digAt_lt hk,h7] at hd2;cases hd2
   ·omega
theorem c52 (l:ByteArray) (hs:l.size≤262144) (h:Heap):CallsH Tryz.prog 52 #[.string l] h fun v h'=>h'=h/\prV (B l) v:=by
 have hlen:=B_len l
 have no:prR (B l)=none->∀ (x y:Int),(fun v h'=>h'=h/\prV (B l) v) (.tuple #[.int .i64 x,.int .i64 y,.bool false]) h:=fun hn x y=>⟨rfl,x,y,.inr ⟨by rw [<- prR_eq];exact hn,rfl⟩⟩
 have e6:l.extract (Int.toNat 0) (Int.toNat 6)=ByteArray.mk #[112,32,99,110,102,32]↔(B l).take 6=pcnf:=by
  constructor
  ·intro h1
   have:=congrArg B h1
   rw [B_extract] at this;exact this
  ·intro h1
   apply B_inj
   rw [B_extract];exact h1
 refine run52 l _ h ⟨fun h1=>no ?_ 0 0,fun h1=>⟨by omega,by omega,by omega,fun h2=>?_,fun h2=>no ?_ 0 0⟩⟩
 ·unfold prR
  rw [if_neg fun hh=>by have:=congrArg List.length hh;rw [List.length_take] at this;simp [pcnf] at this;omega]
 ·have h6:=e6.1 h2
  unfold J52_0
  refine use (c93 l hs (i:=6) (by omega) h) ?_
  unfold numV
  cases hk:numF ((B l).drop 6) with
  | none=>exact ⟨_,_,_,rfl,BIf.t (no (by unfold prR;rw [if_pos h6,hk]) 0 0)⟩
  | some p=>
   obtain ⟨v,k⟩:=p
   have hpr:prR (B l)=if (B l)[6+k]?=some 32 then match numF ((B l).drop (6+k+1)) with
    | none=>none
    | some (n,j)=>if 6+k+1+j=(B l).length/\v≤262144/\n≤524288 then some (v,n) else none
    else none:=by unfold prR;rw [if_pos h6,hk];try rfl
   refine ⟨_,_,_,rfl,BIf.f ⟨fun h7=>no ?_ 0 0,fun h7=>⟨by omega,by omega,?_⟩⟩⟩
   ·rw [hpr,if_neg]
    rw [List.getElem?_eq_none (by omega)];simp
   ·have hkl:6+k<(B l).length:=by omega
    rw [byteAt_nat hkl]
    have e32:(((B l)[6+k].toNat:Nat):Int)=32↔(B l)[6+k]?=some 32:=by
     rw [List.getElem?_eq_getElem hkl]
     constructor
     ·intro h5;congr 1;apply UInt8.toNat_inj.1;show _=32;omega
     ·intro h5;rw [Option.some.inj h5];rfl
    refine ⟨fun h8=>?_,fun h8=>no ?_ 0 0⟩
    ·rw [if_pos (e32.1 h8)] at hpr
     unfold J52_1
     rw [w1 (n:=l.size) (by omega) (by omega)]
     refine use (c93 l hs (i:=6+k+1) (by omega) h) ?_
     unfold numV
     cases hj:numF ((B l).drop (6+k+1)) with
     | none=>exact ⟨_,_,_,rfl,BIf.t (no (by rw [hpr,hj]) 0 0)⟩
     | some p=>
      obtain ⟨n,j⟩:=p
      have hpr2:prR (B l)=if 6+k+1+j=(B l).length/\v≤262144/\n≤524288 then some (v,n) else none:=by rw [hpr,hj]
      refine ⟨_,_,_,rfl,BIf.f ⟨fun h9=>⟨fun h10=>no ?_ 0 0,fun h10=>⟨fun h11=>no ?_ 0 0,fun h11=>?_⟩⟩,fun h9=>no ?_ 0 0⟩⟩
      ·rw [hpr2,if_neg (by omega)]
      ·rw [hpr2,if_neg (by omega)]
      ·refine ⟨rfl,v,n,.inl ⟨?_,rfl⟩⟩
       rw [<- prR_eq,hpr2,if_pos ⟨by omega,by omega,by omega⟩]
      ·rw [hpr2,if_neg (by omega)]
    ·rw [hpr,if_neg fun h9=>h8 (e32.2 h9)]
 ·unfold prR
  rw [if_neg fun hh=>h2 (e6.2 hh)]
def whV (L:List UInt8):Value:=if wholeOk L=true then .tuple #[.int .i64 (refV L),.bool true] else .tuple #[.int .i64 0,.bool false]
theorem c94 (w:ByteArray) (hs:w.size≤262144) (h:Heap):CallsH Tryz.prog 94 #[.string w] h (Ret (whV (B w)) h):=by
 have hlen:=B_len w
 have hbl:(bodyL (B w)).length≤w.size:=by
  unfold bodyL
  split
  ·rw [List.length_drop];omega
  ·omega
 have no:¬ (bodyL (B w)≠[]/\((bodyL (B w)).head?≠some 48∨B w=[48])/\∀ b∈bodyL (B w),isDig b=true)->Ret (whV (B w)) h (.tuple #[.int .i64 0,.bool false]) h:=fun hn=>by
  refine ⟨?_,rfl⟩
  unfold whV
  rw [if_neg fun hw=>hn (wholeOk_t.1 hw)]
 have e0:mk (bodyL (B w))=ByteArray.mk #[]↔bodyL (B w)=[]:=mk_inj (m:=[])
 have dw:mk (bodyL (B w))=w↔(B w).take 1≠[45]:=by
  constructor
  ·intro h1 h2
   have h3:=congrArg B h1
   rw [B_mk] at h3
   unfold bodyL at h3
   rw [if_pos h2] at h3
   have h4:=congrArg List.length h3
   have h5:=congrArg List.length h2
   rw [List.length_drop] at h4
   rw [List.length_take] at h5
   simp at h5;omega
  ·intro h1
   unfold bodyL
   rw [if_neg h1,mk_B]
 have main:J94_0 (Ret (whV (B w)) h) w (mk (bodyL (B w))) h:=by
  refine ⟨fun h1=>no fun hh=>hh.1 (e0.1 h1),fun h1=>?_⟩
  have hne:bodyL (B w)≠[]:=fun h2=>h1 (e0.2 h2)
  have hpos:0<(bodyL (B w)).length:=List.length_pos_iff.2 hne
  have loop:((bodyL (B w)).head?≠some 48∨B w=[48])->J94_1 (Ret (whV (B w)) h) w (mk (bodyL (B w))) h:=fun hor=>by
   unfold J94_1
   refine LoopT.frm2a (a:=0) (n:=(bodyL (B w)).length) (by omega) (fun i (n:Int) h'=>h=h'/\(∀ b∈(bodyL (B w)).take i,isDig b=true)/\n=((min (val 0 ((bodyL (B w)).take i)) 1099511627776:Nat):Int)) ⟨rfl,by simp,by simp [val]⟩ ?_
   rintro i n _ K-hi ⟨rfl,hI,hn⟩ hK
   refine ⟨fun hlt=>?_,fun hlt=>?_⟩
   ·have hlt':(i:Int)<((bodyL (B w)).length:Nat):=hlt
    have hil0:i<(bodyL (B w)).length:=by omega
    have hil:i<(B (mk (bodyL (B w)))).length:=by rw [B_mk];omega
    unfold J94_3
    rw [byteAt_nat hil]
    have hbe:(B (mk (bodyL (B w))))[i]=(bodyL (B w))[i]:=rfl
    rw [hbe]
    have hbt:(bodyL (B w))[i]∈bodyL (B w):=List.getElem_mem hil0
    refine ⟨by omega,hlt,fun h2=>no fun hh=>?_,fun h2=>⟨by omega,hlt,fun h3=>no fun hh=>?_,fun h3=>?_⟩⟩
    ·have:=isDig_t.1 (hh.2.2 _ hbt);omega
    ·have:=isDig_t.1 (hh.2.2 _ hbt);omega
    ·have hdg:isDig (bodyL (B w))[i]=true:=isDig_t.2 ⟨by omega,by omega⟩
     unfold J94_4
     rw [byteAt_nat hil,hbe,wrap8 hdg]
     have hv:=val_take hil0
     have hdd:=isDig_t.1 hdg
     have w10:IntKind.wrap .i64 (n*10)=n*10:=w64 (by omega) (by omega)
     simp only [w10]
     rw [w64 (x:=n*10+_) (by omega) (by omega),w1 (n:=w.size) (by omega) (by omega)]
     refine ⟨by omega,hlt,hK (i+1) _ h (by omega) (by omega) ⟨rfl,?_,by omega⟩⟩
     intro b hb
     rw [List.take_succ_eq_append_getElem hil0] at hb
     rcases List.mem_append.1 hb with hb | hb
     ·exact hI b hb
     ·rw [List.mem_singleton] at hb;subst hb;exact hdg
   ·have hlt':¬ (i:Int)<((bodyL (B w)).length:Nat):=hlt
    obtain rfl:i=(bodyL (B w)).length:=by omega
    rw [List.take_length] at hI hn
    have hok:wholeOk (B w)=true:=wholeOk_t.2 ⟨hne,hor,hI⟩
    unfold J94_2
    refine ⟨fun h2=>⟨?_,rfl⟩,fun h2=>⟨?_,rfl⟩⟩
    ·unfold whV refV;rw [if_pos hok,if_neg (dw.1 h2),hn]
    ·have h3:(B w).take 1=[45]:=by
      by_cases h4:(B w).take 1=[45]
      ·exact h4
      ·exact absurd (dw.2 h4) h2
     unfold whV refV
     rw [if_pos hok,if_pos h3,w64 (by omega) (by omega),hn,Int.zero_sub]
  refine ⟨by omega,by show (0:Int)<((bodyL (B w)).length:Nat);omega,?_⟩
  have hb0:byteAt (mk (bodyL (B w))) 0=((bodyL (B w))[0].toNat:Int):=byteAt_nat (s:=mk (bodyL (B w))) (k:=0) hpos
  rw [hb0]
  have hh:(bodyL (B w)).head?=some (bodyL (B w))[0]:=by rw [List.head?_eq_getElem?,List.getElem?_eq_getElem hpos]
  have e48:(bodyL (B w)).head?=some 48↔(((bodyL (B w))[0].toNat:Nat):Int)=48:=by
   rw [hh]
   constructor
   ·intro h2;rw [Option.some.inj h2];rfl
   ·intro h2;congr 1;apply UInt8.toNat_inj.1;show _=48;omega
  refine ⟨fun h2=>⟨fun h3=>no fun hx=>?_,fun h3=>⟨fun h4=>loop (.inr ?_),fun h4=>no fun hx=>?_⟩⟩,fun h2=>loop (.inl fun h3=>h2 (e48.1 h3))⟩
  ·have h3':(1:Int)<((bodyL (B w)).length:Nat):=h3
   rcases hx.2.1 with h4 | h4
   ·exact h4 (e48.2 h2)
   ·rw [h4] at h3';exact absurd h3' (by decide)
  ·have h3':¬ (1:Int)<((bodyL (B w)).length:Nat):=h3
   obtain ⟨a,ha⟩:=List.length_eq_one_iff.1 (show (bodyL (B w)).length=1 by omega)
   have h5:bodyL (B w)=B w:=by have:=congrArg B h4;rwa [B_mk] at this
   rw [<- h5,ha]
   have:=e48.2 h2
   rw [ha] at this
   congr 1
   simpa using this
  ·rcases hx.2.1 with h5 | h5
   ·exact h5 (e48.2 h2)
   ·exact h4 (by rw [dw,h5];decide)
 refine run94 w _ h ⟨fun h1=>?_,fun h1=>?_⟩
 ·have:mk (bodyL (B w))=w:=by rw [h1];rfl
  rw [this] at main;exact main
 ·have hpos:0<(B w).length:=by
   apply List.length_pos_iff.2
   intro h2
   exact h1 (B_inj h2)
  have hb0:byteAt w 0=((B w)[0].toNat:Int):=byteAt_nat (s:=w) (k:=0) hpos
  have e45:(B w).take 1=[45]↔(((B w)[0].toNat:Nat):Int)=45:=by
   have:(B w).take 1=[(B w)[0]]:=by rw [List.take_succ_eq_append_getElem hpos];rfl
   rw [this]
   constructor
   ·intro h5;rw [(List.cons.inj h5).1];rfl
   ·intro h5;congr 1;apply UInt8.toNat_inj.1;show _=45;omega
  refine ⟨by omega,by omega,?_⟩
  rw [hb0]
  refine ⟨fun h2=>⟨by omega,by omega,by omega,?_⟩,fun h2=>?_⟩
  ·have:mk (bodyL (B w))=w.extract (Int.toNat 1) (Int.toNat ((w.size:Nat):Int)):=by
    apply B_inj
    rw [B_mk,B_extract]
    unfold bodyL
    rw [if_pos (e45.2 h2)]
    show _=((B w).drop 1).take (Int.toNat ((w.size:Nat):Int)-1)
    rw [Int.toNat_natCast,List.take_of_length_le (by rw [List.length_drop];omega)]
   rw [<- this];exact main
  ·have:mk (bodyL (B w))=w:=dw.2 fun h3=>h2 (e45.1 h3)
   rw [this] at main;exact main
end
end Go.Proofs.YtobageabpfkpcaaGreatDoor
set_option maxRecDepth 100000
namespace Go.Hx
open Go.Proofs.YtobageabpfkpcaaGreatDoor
structure WdP (L:List UInt8) (i e j k:Nat):Prop where
 ij:i≤j
 jk:j≤k
 ke:k≤e
 bl:∀ x,i≤x->(hx:x<L.length)->x<j->isBl L[x]=true
 nb:∀ x,j≤x->(hx:x<L.length)->x<k->isBl L[x]=false
 lt:j<e->j<k
 nd:(hk:k<L.length)->k<e->isBl L[k]=true
theorem isBl_iff {b:UInt8}:isBl b=true↔(b.toNat:Int)=32∨(b.toNat:Int)=9∨(b.toNat:Int)=13:=by
 unfold isBl
 rw [decide_eq_true_eq]
 omega
theorem lnS_bls {L:List UInt8} {i:Nat} {s:RS}:∀ {j:Nat},i≤j->j≤L.length->(∀ x,i≤x->(hx:x<L.length)->x<j->isBl L[x]=true)->lnS (L.drop i) 0 i s=lnS (L.drop j) 0 j s
 | 0,h,_,_=>by
  obtain rfl:i=0:=by omega
  rfl
 | j+1,h,hl,hb=>by
  rcases Nat.lt_or_ge i (j+1) with h1 | h1
  ·rw [lnS_bls (j:=j) (by omega) (by omega) fun x h2 h3 h4=>hb x h2 h3 (by omega),lnS_bl (by omega) (hb j (by omega) (by omega) (by omega))]
  ·obtain rfl:i=j+1:=by omega
   rfl
end Go.Hx
namespace Go.Proofs.YtobageabpfkpcaaGreatDoor
open Go.Hx Go.RowKit
section
variable {h:Heap}
theorem c53 (s:ByteArray) (hs:s.size≤262144) {i e:Nat} (hi:i≤e) (he:e≤s.size) (h:Heap):CallsH Tryz.prog 53 #[.string s,.int .i64 (i:Int),.int .i64 (e:Int)] h fun v h'=>h'=h/\∃ j k,v=.tuple #[.int .i64 ((j:Nat):Int),.int .i64 ((k:Nat):Int)]/\WdP (B s) i e j k:=by
 have hlen:=B_len s
 refine run53 s i e _ h (LoopT.frm (a:=i) (n:=e) hi (fun j h'=>h=h'/\∀ x,i≤x->(hx:x<(B s).length)->x<j->isBl (B s)[x]=true) ⟨rfl,fun k h1 h2 h3=>by omega⟩ ?_)
 rintro j _ K hij hj ⟨rfl,hI⟩ hK
 have go:(j<e->(hj:j<(B s).length)->isBl (B s)[j]=false)->J53_0 (fun v h'=>h'=h/\∃ j k,v=.tuple #[.int .i64 ((j:Nat):Int),.int .i64 ((k:Nat):Int)]/\WdP (B s) i e j k) s (e:Int) (j:Int) h:=fun hnb=>by
  unfold J53_0
  refine LoopT.frm (a:=j) (n:=e) hj (fun k h'=>h=h'/\∀ x,j≤x->(hx:x<(B s).length)->x<k->isBl (B s)[x]=false) ⟨rfl,fun k h1 h2 h3=>by omega⟩ ?_
  rintro k _ K2 hjk hk ⟨rfl,hJ⟩ hK2
  have fin:((hk:k<(B s).length)->k<e->isBl (B s)[k]=true)->J53_1 (fun v h'=>h'=h/\∃ j k,v=.tuple #[.int .i64 ((j:Nat):Int),.int .i64 ((k:Nat):Int)]/\WdP (B s) i e j k) (j:Int) (k:Int) h:=fun hnd=>
   ⟨rfl,j,k,rfl,hij,hjk,hk,hI,hJ,(fun hje=>by
    rcases Nat.lt_or_ge j k with h1 | h1
    ·exact h1
    ·obtain rfl:j=k:=by omega
     have h2:=hnb hje (by omega)
     rw [hnd (by omega) hje] at h2;cases h2),hnd⟩
  refine ⟨fun hlt=>?_,fun hlt=>fin fun _ h1=>by omega⟩
  have hkl:k<(B s).length:=by omega
  rw [byteAt_nat hkl]
  refine ⟨by omega,by omega,fun h1=>fin fun _ _=>isBl_iff.2 (.inl h1),fun h1=>⟨by omega,by omega,fun h2=>fin fun _ _=>isBl_iff.2 (.inr (.inl h2)),fun h2=>⟨by omega,by omega,fun h3=>fin fun _ _=>isBl_iff.2 (.inr (.inr h3)),fun h3=>?_⟩⟩⟩
  rw [w1 (n:=e) (by omega) hk]
  refine hK2 (k+1) h (by omega) (by omega) ⟨rfl,fun x h4 h5 h6=>?_⟩
  by_cases hxk:x=k
  ·subst hxk
   cases hb:isBl (B s)[x] with
   | false=>rfl
   | true=>rcases isBl_iff.1 hb with h7 | h7 | h7;exact absurd h7 h1;exact absurd h7 h2;exact absurd h7 h3
  ·exact hJ x h4 h5 (by omega)
 refine ⟨fun hlt=>?_,fun hlt=>go fun h1=>by omega⟩
 have hjl:j<(B s).length:=by omega
 rw [byteAt_nat hjl]
 have nx:isBl (B s)[j]=true->K (IntKind.wrap .i64 ((j:Int)+1)) h:=fun hb=>by
  rw [w1 (n:=e) (by omega) hj]
  refine hK (j+1) h (by omega) (by omega) ⟨rfl,fun x h4 h5 h6=>?_⟩
  by_cases hxj:x=j
  ·subst hxj;exact hb
  ·exact hI x h4 h5 (by omega)
 refine ⟨by omega,by omega,fun h1=>nx (isBl_iff.2 (.inl h1)),fun h1=>⟨by omega,by omega,fun h2=>nx (isBl_iff.2 (.inr (.inl h2))),fun h2=>⟨by omega,by omega,fun h3=>nx (isBl_iff.2 (.inr (.inr h3))),fun h3=>go fun _ _=>?_⟩⟩⟩
 cases hb:isBl (B s)[j] with
 | false=>rfl
 | true=>rcases isBl_iff.1 hb with h7 | h7 | h7;exact absurd h7 h1;exact absurd h7 h2;exact absurd h7 h3
end
section
variable {h0 h:Heap} {A:Nat} {s:RS} {X:List Itm}
theorem c54 (r:Rdr h0 h A s X) (ok:s.Ok) (w:ByteArray) (hs:w.size≤262144):CallsH Tryz.prog 54 #[.pointer (some ⟨A,0,none⟩),.string w] h fun v h'=>v=.int .i64 (wdS s (B w)).2/\Rdr h0 h' A (wdS s (B w)).1 X:=by
 have fin:∀ {q:RS×Int} {h'},wdS s (B w)=q->Rdr h0 h' A q.1 X->(fun v h'=>v=Value.int .i64 (wdS s (B w)).2/\Rdr h0 h' A (wdS s (B w)).1 X) (Value.int .i64 q.2) h':=fun hq hr=>by rw [hq];exact ⟨rfl,hr⟩
 refine run54 (some ⟨A,0,none⟩) w _ h (use (c94 w hs h) ?_)
 unfold whV
 cases hw:wholeOk (B w) with
 | false=>exact ⟨_,_,rfl,BIf.t (fin (q:=(s,3)) (by unfold wdS;rw [if_pos hw]) r)⟩
 | true=>
  refine ⟨_,_,rfl,BIf.f ?_⟩
  have hwf:¬ wholeOk (B w)=false:=by rw [hw];simp
  obtain ⟨hA,g0,⟨ca,cc,g1⟩,g2,⟨cb,cd,g3⟩,g4⟩:=r.get
  have o1:=ok.v0
  have o2:=ok.v1
  have o3:=ok.w
  have o4:=ok.n
  have o5:=ok.o
  have o6:=ok.e
  have o7:=ok.k
  have hcl:s.cls.length≤524288:=by omega
  have hin:=refV_in (l:=B w) o1 (by omega)
  have e0:∀ k,Addr.add (Addr.add ⟨A,0,none⟩ 0) k=Addr.add ⟨A,0,none⟩ k:=add00 A
  have g0':cellH h (Addr.add (Addr.add ⟨A,0,none⟩ 0) 0)=some (.int .i64 s.vars):=by rw [e0];exact g0
  have g1':cellH h (Addr.add (Addr.add ⟨A,0,none⟩ 0) 1)=some (.slice ca s.cls.length cc):=by rw [e0];exact g1
  have wn:IntKind.wrap .i64 (0-s.vars) = -s.vars:=by rw [w64 (by omega) (by omega)];omega
  have w141:(wholeV (B w) < -s.vars∨s.vars<wholeV (B w))->wdS s (B w)=(s,141):=fun hb=>by unfold wdS;rw [if_neg hwf,if_pos hb]
  refine AtP.mk rfl ⟨_,g0',fun hgt=>fin (q:=(s,141)) (w141 (hin.1 (.inl hgt))) r,fun hgt=>AtP.mk rfl ⟨_,g0',?_⟩⟩
  rw [wn]
  refine ⟨fun hlt=>fin (q:=(s,141)) (w141 (hin.1 (.inr hlt))) r,fun hlt=>?_⟩
  have hb:¬ (wholeV (B w) < -s.vars∨s.vars<wholeV (B w)):=fun hh=>by have:=hin.2 hh;omega
  have hrv:=refV_eq (l:=B w) o1 (by omega) hb
  rw [hrv]
  have lit:¬ (s.op=false/\(s.cls.length:Int)=s.want)->wholeV (B w)≠0->s.cur.length≠16384->J54_0 (fun v h'=>v=.int .i64 (wdS s (B w)).2/\Rdr h0 h' A (wdS s (B w)).1 X) (some ⟨A,0,none⟩) (wholeV (B w)) h:=fun hf hx hl=>
   lit_step r o7 (wholeV (B w)) fun h1 r1=>op_step r1 true fun h2 r2=>fin (q:=(_,0)) (by unfold wdS;rw [if_neg hwf,if_neg hb,if_neg hf,if_neg hx,if_neg hl]) r2
  have w2:¬ (s.op=false/\(s.cls.length:Int)=s.want)->wholeV (B w)≠0->s.cur.length=16384->wdS s (B w)=(s,2):=fun hf hx hl=>by unfold wdS;rw [if_neg hwf,if_neg hb,if_neg hf,if_neg hx,if_pos hl]
  have cl:¬ (s.op=false/\(s.cls.length:Int)=s.want)->wholeV (B w)=0->AtP (some ⟨A,0,none⟩) fun ad5=>(Addr.add (Addr.add ad5 0) 1).block<h.size/\∃ (A1:Option Addr),∃ (N1:Nat),∃ (C1:Nat),cellH h (Addr.add (Addr.add ad5 0) 1)=some (.slice A1 N1 C1)/\AtP (some ⟨A,0,none⟩) fun ad6=>(Addr.add ad6 3).block<h.size/\∃ (A2:Option Addr),∃ (N2:Nat),∃ (C2:Nat),cellH h (Addr.add ad6 3)=some (.slice A2 N2 C2) /\
    let h_1:Heap:=h.push (.cells #[.slice A2 N2 C2] 65);AgreeH h.size h h_1/\∃ ys:List Value,ReadL h_1 (some ⟨h.size,0,none⟩) ys/\ys.length=1*1/\AppS h_1 A1 N1 C1 65 24 1 #[.slice none 0 0] ys 1 fun apA apN apC h_2=>AtP (some ⟨A,0,none⟩) fun ad7=>StoreH h_2 (Addr.add (Addr.add ad7 0) 1) [.slice apA apN apC] fun h_3=>AtP (some ⟨A,0,none⟩) fun ad8=>StoreH h_3 (Addr.add ad8 3) [.slice none 0 0] fun h_4=>AtP (some ⟨A,0,none⟩) fun ad9=>StoreH h_4 (Addr.add ad9 4) [.bool false] fun h_5=>(fun v h'=>v=Value.int .i64 (wdS s (B w)).2/\Rdr h0 h' A (wdS s (B w)).1 X) (.int .i64 0) h_5:=fun hf hx=>by
   have:=clo_step r hcl (K:=fun h'=>(fun v h'=>v=Value.int .i64 (wdS s (B w)).2/\Rdr h0 h' A (wdS s (B w)).1 X) (.int .i64 0) h') fun h' r'=>fin (q:=(_,0)) (by unfold wdS;rw [if_neg hwf,if_neg hb,if_neg hf,if_pos hx]) r'
   simp only [AtP,e0]
   exact this
  refine AtP.mk rfl ⟨_,g4,?_⟩
  cases ho:s.op with
  | false=>
   refine BIf.t (AtP.mk rfl ⟨_,_,_,g1',AtP.mk rfl ⟨_,g2,fun heq=>fin (q:=(s,41)) (by unfold wdS;rw [if_neg hwf,if_neg hb,if_pos ⟨ho,heq⟩]) r,fun hne=>?_⟩⟩)
   have hf:¬ (s.op=false/\(s.cls.length:Int)=s.want):=fun hh=>hne hh.2
   exact ⟨fun hx=>cl hf hx,fun hx=>AtP.mk rfl ⟨_,_,_,g3,fun hl=>fin (q:=(s,2)) (w2 hf hx (by omega)) r,fun hl=>lit hf hx (by omega)⟩⟩
  | true=>
   have hf:¬ (s.op=false/\(s.cls.length:Int)=s.want):=fun hh=>by rw [ho] at hh;cases hh.1
   exact BIf.f ⟨fun hx=>cl hf hx,fun hx=>AtP.mk rfl ⟨_,_,_,g3,fun hl=>fin (q:=(s,2)) (w2 hf hx (by omega)) r,fun hl=>lit hf hx (by omega)⟩⟩
end
end Go.Proofs.YtobageabpfkpcaaGreatDoor
set_option maxRecDepth 100000
namespace Go.Hx
open Go.Proofs.YtobageabpfkpcaaGreatDoor
theorem lineAt_take {L:List UInt8} {i:Nat}:(L.drop i).take (lineAt L i).length=lineAt L i:=by
 unfold lineAt
 exact (List.prefix_iff_eq_take.1 (List.takeWhile_prefix (l:=L.drop i) nl10)).symm
theorem lineAt_sub {L:List UInt8} {i a b:Nat} (h:a+b≤(lineAt L i).length):((lineAt L i).drop a).take b=(L.drop (i+a)).take b:=by
 rw [<- lineAt_take,List.drop_take,List.take_take,List.drop_drop,Nat.min_eq_left (by omega)]
theorem lineAt_get {L:List UInt8} {i x:Nat} (hx:x<(lineAt L i).length):∃ h:i+x<L.length,(lineAt L i)[x]=L[i+x]:=by
 have hp:=List.takeWhile_prefix (l:=L.drop i) nl10
 have hle:=hp.length_le
 rw [List.length_drop] at hle
 have hx':x<((L.drop i).takeWhile nl10).length:=hx
 have e:=hp.getElem hx'
 rw [List.getElem_drop] at e
 exact ⟨by omega,e⟩
end Go.Hx
namespace Go.Proofs.YtobageabpfkpcaaGreatDoor
open Go.Hx Go.RowKit
section
variable {h:Heap}
set_option maxHeartbeats 1000000 in
theorem c13 (s:ByteArray) (h:Heap):CallsH Tryz.prog 13 #[.string s] h fun v h'=>∃ u:FV,v=.tuple #[u.v,flt (txR (B s)).2.1 (txR (B s)).2.2]/\FNew h h' u (txR (B s)).1:=by
 have hlen:=B_len s
 refine run13 s _ h ?_
 unfold VC13
 intro h1 h2
 have f1:Fr h 1 h1 (some ⟨h.size,0,none⟩) 2 2 [.int .i64 0,.slice none 0 0]:=Fr.lit (.refl h) [.int .i64 0,.slice none 0 0] 24 2 rfl
 have f2:Fr h1 1 h2 (some ⟨h1.size,0,none⟩) 2 2 [.int .i64 0,.int .i64 0]:=Fr.two h1 0 0 27
 have m2:=((((Mem.nil (.refl h)).add (t:=⟨1,some ⟨h.size,0,none⟩,2,2,[.int .i64 0,.slice none 0 0]⟩) f1).add (t:=⟨1,some ⟨h1.size,0,none⟩,2,2,[.int .i64 0,.int .i64 0]⟩) f2).perm (List.Perm.swap _ _ _))
 have err:∀ {h':Heap} {A:Nat} {q:RS} (x y:Int),txR (B s)=(noF,x,y)->Rdr h h' A q [⟨1,some ⟨h.size,0,none⟩,2,2,[.int .i64 0,.slice none 0 0]⟩,⟨1,some ⟨h1.size,0,none⟩,2,2,[.int .i64 0,.int .i64 0]⟩] ->
   CallsH Tryz.prog 49 #[.int .i64 x,.int .i64 y] h' fun v h_2=>∃ (t:Int),∃ (t1:Int),v=.agg #[.int .i64 t,.int .i64 t1]/\StoreH h_2 ⟨h.size,0,none⟩ [.int .i64 0,.slice none 0 0] fun h_3=>StoreH h_3 ⟨h1.size,0,none⟩ [.int .i64 t,.int .i64 t1] fun h_4=>
    ∃ (t2:Int),∃ (A:Option Addr),∃ (N:Nat),∃ (C:Nat),cellsH h_4 ⟨h.size,0,none⟩ 0 [.int .i64 t2,.slice A N C]/\∃ (t3:Int),∃ (t4:Int),cellsH h_4 ⟨h1.size,0,none⟩ 0 [.int .i64 t3,.int .i64 t4] /\
     (fun (v:Value) (h':Heap)=>∃ u:FV,v=Value.tuple #[u.v,flt (txR (B s)).2.1 (txR (B s)).2.2]/\FNew h h' u (txR (B s)).1) (Value.tuple #[.agg #[.int .i64 t2,.slice A N C],.agg #[.int .i64 t3,.int .i64 t4]]) h_4:=fun x y he r=>
  useX (c49 x y _) fun h'' e''=>⟨x,y,rfl,fin0 (R:=fun _ _=>True) (r.ext' e'') ⟨0,⟨none,0,0⟩⟩ x y fun h9 r9=>by
   rw [he]
   exact ⟨⟨0,⟨none,0,0⟩⟩,rfl,noF_new r9.ext⟩⟩
 refine ⟨fun hbig=>?_,fun hbig=>?_⟩
 ·have he:txR (B s)=(noF,0,2):=by unfold txR;rw [if_pos (by omega)]
  refine useX (c49 0 2 _) fun h3' e3'=>⟨0,2,rfl,?_⟩
  have m2:=m2.ext' e3'
  refine (m2.get 0 rfl).put (ws:=[.int .i64 0,.slice none 0 0]) rfl (by simp [Value.oneCell']) fun h3 f3 u3=>?_
  have m3:=m2.setAt 0 (t':=⟨1,some ⟨h.size,0,none⟩,2,2,[.int .i64 0,.slice none 0 0]⟩) rfl f3 u3 (.inl rfl)
  refine (m3.get 1 rfl).put (ws:=[.int .i64 0,.int .i64 2]) rfl (by simp [Value.oneCell']) fun h4 f4 u4=>?_
  have m4:=m3.setAt 1 (t':=⟨1,some ⟨h1.size,0,none⟩,2,2,[.int .i64 0,.int .i64 2]⟩) rfl f4 u4 (.inl rfl)
  refine ⟨_,_,_,_,(m4.get 0 rfl).rd.cells,_,_,f4.rd.cells,⟨0,⟨none,0,0⟩⟩,?_,?_⟩
  ·rw [he];rfl
  ·rw [he];exact noF_new m4.ext
 ·unfold J13_0
  intro h3
  have f3:Fr h2 1 h3 (some ⟨h2.size,0,none⟩) 5 5 [.int .i64 0,.slice none 0 0,.int .i64 0,.slice none 0 0,.bool false]:=Fr.lit (.refl h2) [.int .i64 0,.slice none 0 0,.int .i64 0,.slice none 0 0,.bool false] 77 5 rfl
  have r3:Rdr h h3 h2.size ⟨0,[],0,[],false⟩ [⟨1,some ⟨h.size,0,none⟩,2,2,[.int .i64 0,.slice none 0 0]⟩,⟨1,some ⟨h1.size,0,none⟩,2,2,[.int .i64 0,.int .i64 0]⟩]:=
   ⟨[],none,0,0,none,0,0,rfl,((m2.add (t:=⟨1,none,0,0,[]⟩) (Fr.nil (.refl h2))).add (t:=⟨1,none,0,0,[]⟩) (Fr.nil (.refl h2))).add (t:=⟨1,some ⟨h2.size,0,none⟩,5,5,[.int .i64 0,.slice none 0 0,.int .i64 0,.slice none 0 0,.bool false]⟩) f3⟩
  have htx:txR (B s)=txS (B s).length (B s) 0 0 false ⟨0,[],0,[],false⟩:=by unfold txR;rw [if_neg (by omega)]
  refine LoopT.frm2 (n:=s.size+1) (fun i (b:Bool) h'=>∃ q:RS,q.Ok/\(b=false->q.cls=[]/\q.op=false)/\txR (B s)=txS (B s).length ((B s).drop i) 0 i b q/\Rdr h h' h2.size q [⟨1,some ⟨h.size,0,none⟩,2,2,[.int .i64 0,.slice none 0 0]⟩,⟨1,some ⟨h1.size,0,none⟩,2,2,[.int .i64 0,.int .i64 0]⟩]) ⟨_,⟨by decide,by decide,by decide,by decide,(fun h=>by cases h),(fun _=>rfl),by decide⟩,fun _=>⟨rfl,rfl⟩,htx,r3⟩ ?_
  rintro i b h4 K hi ⟨q,ok,hq,hI,r4⟩ hK
  refine ⟨fun hlt=>?_,fun hlt=>?_⟩
  ·have hlt':(i:Int)<((s.size:Nat):Int):=hlt
   have hil:i<(B s).length:=by omega
   rw [txS_at hil] at hI
   have hll:=lineAt_len (L:=B s) (i:=i) (by omega)
   have hline:B (s.extract (Int.toNat (i:Int)) (Int.toNat ((i+(lineAt (B s) i).length:Nat):Int)))=lineAt (B s) i:=by
    rw [B_extract,Int.toNat_natCast,Int.toNat_natCast,show i+(lineAt (B s) i).length-i=(lineAt (B s) i).length by omega,lineAt_take]
   have hlsz:(s.extract (Int.toNat (i:Int)) (Int.toNat ((i+(lineAt (B s) i).length:Nat):Int))).size≤262144:=by rw [ByteArray.size_extract];omega
   have hnx:IntKind.wrap .i64 (((i+(lineAt (B s) i).length:Nat):Int)+1)=((i+(lineAt (B s) i).length+1:Nat):Int):=w1 (n:=i+(lineAt (B s) i).length) (by omega) (Nat.le_refl _)
   unfold J13_2
   refine use (c50 s (by omega) (by omega) h4) ⟨_,rfl,by simp only;omega,by simp only;omega,by omega,use (c51 _ h4) ⟨_,rfl,?_⟩⟩
   rw [hline]
   cases hcom:comL (lineAt (B s) i) with
   | true=>
    rw [if_pos hcom] at hI
    refine BIf.f (use (c51 _ h4) ⟨_,rfl,?_⟩)
    rw [hline,hcom]
    refine BIf.f ?_
    unfold J13_3
    rw [hnx]
    exact hK _ _ _ (by omega) (by omega) ⟨q,ok,hq,hI,r4⟩
   | false=>
    rw [if_neg (by rw [hcom];simp)] at hI
    refine BIf.t ?_
    cases b with
    | false=>
     obtain ⟨q1,q2⟩:=hq rfl
     refine BIf.t ((c52 _ hlsz h4).mono ?_)
     rw [hline]
     rintro _ _ ⟨rfl,x,y,hor⟩
     rcases hor with ⟨hp,rfl⟩ | ⟨hp,rfl⟩
     ·refine ⟨_,_,_,rfl,BIf.f ?_⟩
      unfold J13_4
      rw [add00]
      refine prob_step r4 x y fun h7 r7=>?_
      unfold J13_3
      rw [hnx]
      refine hK _ _ _ (by omega) (by omega) ⟨_,?_,(fun h=>by cases h),?_,r7⟩
      ·obtain ⟨p1,p2,p3,p4⟩:=prS_bd hp
       exact ⟨p1,p2,p4,by simp only [q1];exact p3,(fun ho=>by simp only at ho;rw [q2] at ho;cases ho),ok.e,ok.k⟩
      ·simp only [hp] at hI;exact hI
     ·refine ⟨_,_,_,rfl,BIf.t ?_⟩
      simp only [hp] at hI
      exact err _ _ hI r4
    | true=>
     refine BIf.f (use (c51 _ h4) ⟨_,rfl,?_⟩)
     rw [hline,hcom]
     refine BIf.t ((c53 s (by omega) (i:=i) (e:=i+(lineAt (B s) i).length) (by omega) (by omega) h4).mono ?_)
     rintro _ _ ⟨rfl,j0,k0,rfl,wp0⟩
     refine ⟨_,_,rfl,?_⟩
     have hget:=fun x (hx:x<(lineAt (B s) i).length)=>lineAt_get hx
     have hsub:=fun a b (h:a+b≤(lineAt (B s) i).length)=>lineAt_sub h
     simp only at hI
     generalize lineAt (B s) i=L at *
     refine ⟨fun st h' m=>∃ (p j k:Nat) (s':RS),st=((j:Int),(k:Int))/\m=i+L.length-j/\i≤p/\WdP (B s) p (i+L.length) j k/\s'.Ok/\lnS L 0 0 q=lnS (L.drop (p-i)) 0 (p-i) s'/\Rdr h h' h2.size s' [⟨1,some ⟨h.size,0,none⟩,2,2,[.int .i64 0,.slice none 0 0]⟩,⟨1,some ⟨h1.size,0,none⟩,2,2,[.int .i64 0,.int .i64 0]⟩],⟨_,i,j0,k0,q,rfl,rfl,Nat.le_refl _,wp0,ok,by rw [Nat.sub_self];rfl,r4⟩,?_⟩
     rintro _ h5 _ ⟨p,j,k,s',rfl,rfl,hip,wp,ok',hL,r5⟩
     have w1':=wp.ij
     have w2:=wp.jk
     have w3:=wp.ke
     have hbl:lnS L 0 0 q=lnS (L.drop (j-i)) 0 (j-i) s':=by
      rw [hL]
      refine lnS_bls (by omega) (by omega) fun x hx1 hx2 hx3=>?_
      obtain ⟨hxl,hxe⟩:=hget x hx2
      rw [hxe]
      exact wp.bl _ (by omega) hxl (by omega)
     refine ⟨fun hjk=>?_,fun hjk=>?_⟩
     ·have hjk':(j:Int)<(k:Int):=hjk
      have wd:WdAt L (j-i) (k-i):=⟨by omega,by omega,fun x hx1 hx2 hx3=>by
       obtain ⟨hxl,hxe⟩:=hget x hx2
       rw [hxe]
       exact wp.nb _ (by omega) hxl (by omega),fun hx=>by
       obtain ⟨hxl,hxe⟩:=hget _ hx
       rw [hxe]
       have:=wp.nd (by omega) (by omega)
       simp only [show i+(k-i)=k by omega];exact this⟩
      have hw:B (s.extract (Int.toNat (j:Int)) (Int.toNat (k:Int)))=(L.drop (j-i)).take (k-i-(j-i)):=by
       rw [B_extract,Int.toNat_natCast,Int.toNat_natCast,hsub _ _ (by omega),show i+(j-i)=j by omega,show k-i-(j-i)=k-j by omega]
      rw [lnS_wd wd] at hbl
      unfold J13_5
      refine ⟨by simp only;omega,by simp only;omega,by simp only;omega,(c54 r5 ok' _ (by rw [ByteArray.size_extract];omega)).mono ?_⟩
      rw [hw]
      rintro _ h6 ⟨rfl,r6⟩
      refine ⟨_,rfl,fun hz=>?_,fun hz=>?_⟩
      ·rw [if_neg (by simp [hz])] at hbl
       refine (c53 s (by omega) (i:=k) (e:=i+L.length) w3 (by omega) h6).mono ?_
       rintro _ _ ⟨rfl,j',k',rfl,wp'⟩
       have:=wp'.ij
       exact ⟨_,_,rfl,i+L.length-j',by omega,k,j',k',_,rfl,rfl,by omega,wp',wdS_ok ok' _,hbl,r6⟩
      ·rw [if_pos hz] at hbl
       rw [hbl] at hI
       rw [if_pos (by simpa using hz)] at hI
       have e1:((i:Int)+((j-i:Nat):Int))=(j:Int):=by omega
       simp only [e1] at hI
       exact err _ _ hI r6
     ·have hjk':¬ (j:Int)<(k:Int):=hjk
      have hje:j=i+L.length:=by
       rcases Nat.lt_or_ge j (i+L.length) with h9 | h9
       ·have:=wp.lt h9;omega
       ·omega
      rw [lnS_end (by omega)] at hbl
      rw [hbl,if_neg (by simp)] at hI
      unfold J13_3
      rw [hnx]
      exact hK _ _ _ (by omega) (by omega) ⟨s',ok',(fun h=>by cases h),hI,r5⟩
  ·have hlt':¬ (i:Int)<((s.size:Nat):Int):=hlt
   rw [txS_end (by omega)] at hI
   unfold J13_1
   cases b with
   | false=>
    rw [if_pos rfl] at hI
    exact BIf.t (err _ _ hI r4)
   | true=>
    rw [if_neg (by simp)] at hI
    obtain ⟨hA,g0,⟨ca,cc,g1⟩,g2,⟨cb,cd,g3⟩,g4⟩:=r4.get
    refine BIf.f ⟨_,g4,?_⟩
    cases ho:q.op with
    | true=>
     rw [if_pos ho] at hI
     exact BIf.t (err _ _ hI r4)
    | false=>
     rw [if_neg (by rw [ho];simp)] at hI
     refine BIf.f ⟨_,_,_,by rw [add00];exact g1,_,g2,fun hl=>?_,fun hl=>?_⟩
     ·rw [if_pos hl] at hI
      exact err _ _ hI r4
     ·rw [if_neg hl] at hI
      unfold J13_10
      obtain ⟨rows,a,n,c,bb,m,d,hr1,me⟩:=r4
      have m0:=me.perm (List.perm_append_comm (l₁:=_::_::_::rows.map Rw.it) (l₂:=[_,_]))
      have rr:=(me.get 0 rfl).rd
      refine ⟨q.vars,a,n,c,cellsH_of fun j v hv=>?_,(m0.get 0 rfl).put (ws:=[.int .i64 q.vars,.slice a n c]) rfl (by simp [Value.oneCell']) fun h5 f5 u5=>?_⟩
      ·rw [add00,Nat.zero_add]
       match j,hv with
       | 0,hv=>cases hv;exact rr.fld 0 rfl
       | 1,hv=>cases hv;exact rr.fld 1 rfl
       | j+2,hv=>simp at hv
      have m5:=m0.setAt 0 (t':=⟨1,some ⟨h.size,0,none⟩,2,2,[.int .i64 q.vars,.slice a n c]⟩) rfl f5 u5 (.inl rfl)
      refine (m5.get 1 rfl).put (ws:=[.int .i64 0,.int .i64 0]) rfl (by simp [Value.oneCell']) fun h6 f6 u6=>?_
      have m6:=m5.setAt 1 (t':=⟨1,some ⟨h1.size,0,none⟩,2,2,[.int .i64 0,.int .i64 0]⟩) rfl f6 u6 (.inl rfl)
      refine ⟨_,_,_,_,(m6.get 0 rfl).rd.cells,_,_,f6.rd.cells,⟨q.vars,⟨a,n,c⟩⟩,?_,?_⟩
      ·rw [hI];rfl
      ·rw [hI];exact ⟨rfl,rows,hr1,m6.sub (.cons _ (.cons _ (.cons _ (.cons_cons _ (.cons _ (.refl _))))))⟩
end
end Go.Proofs.YtobageabpfkpcaaGreatDoor
set_option maxRecDepth 100000
namespace Go.Hx
open Go.Proofs.YtobageabpfkpcaaGreatDoor
theorem perm_last {α:Type} {A B C D:List α}:(A++(B++(C++D))).Perm (D++(A++(B++C))):=by
 have:A++(B++(C++D))=(A++(B++C))++D:=by simp
 rw [this];exact List.perm_append_comm
structure RS.Fit (s:RS):Prop where
 c:∀ c∈s.cls,c.length≤16384/\∀ x∈c,-262144≤x/\x≤262144
 x:∀ x∈s.cur,-262144≤x/\x≤262144
theorem wdS_fit {s:RS} (ok:s.Ok) (f:s.Fit) (w:List UInt8):(wdS s w).1.Fit:=by
 have h1:=ok.v1
 have h2:=ok.k
 unfold wdS
 split
 ·exact f
 ·split
  ·exact f
  ·split
   ·exact f
   ·split
    ·refine ⟨fun c hc=>?_,by simp⟩
     rcases List.mem_append.1 hc with hc | hc
     ·exact f.c c hc
     ·rw [List.mem_singleton] at hc
      subst hc
      exact ⟨h2,f.x⟩
    ·split
     ·exact f
     ·refine ⟨f.c,fun x hx=>?_⟩
      rcases List.mem_append.1 hx with hx | hx
      ·exact f.x x hx
      ·rw [List.mem_singleton] at hx
       subst hx
       omega
theorem lnS_fit:∀ (L:List UInt8) (k i:Nat) (s:RS),s.Ok->s.Fit->(lnS L k i s).1.Ok/\(lnS L k i s).1.Fit
 | [],k,i,s,ok,f=>by cases k <;> exact ⟨ok,f⟩
 | b::r,k+1,i,s,ok,f=>by rw [lnS];exact lnS_fit r k (i+1) s ok f
 | b::r,0,i,s,ok,f=>by
  rw [lnS]
  split
  ·exact lnS_fit r 0 (i+1) s ok f
  ·split
   ·exact ⟨wdS_ok ok _,wdS_fit ok f _⟩
   ·exact lnS_fit r _ (i+1) _ (wdS_ok ok _) (wdS_fit ok f _)
theorem noF_ok:noF.Ok:=⟨by decide,by decide,by decide,by decide,by decide⟩
theorem txS_ok (n:Nat):∀ (L:List UInt8) (k i:Nat) (g:Bool) (s:RS),s.Ok->s.Fit->(g=false->s.cls=[]/\s.op=false)->(txS n L k i g s).1.Ok
 | [],k,i,g,s,ok,f,hg=>by
  have e:txS n [] k i g s=if g=false then (noF,(n:Int),140) else if s.op=true then (noF,(n:Int),41) else if (s.cls.length:Int)<s.want then (noF,(n:Int),41) else (⟨s.vars,s.cls⟩,0,0):=by cases k <;> rfl
  rw [e]
  have h1:=ok.v0;have h2:=ok.v1;have h3:=ok.n;have h4:=ok.w
  split
  ·exact noF_ok
  ·split
   ·exact noF_ok
   ·split
    ·exact noF_ok
    ·exact ⟨by show _≤s.vars;omega,by show s.vars≤_;omega,by show s.cls.length≤_;omega,fun c hc=>by have:=(f.c c hc).1;omega,fun c hc x hx=>by have:=(f.c c hc).2 x hx;omega⟩
 | b::r,k+1,i,g,s,ok,f,hg=>by rw [txS];exact txS_ok n r k (i+1) g s ok f hg
 | b::r,0,i,g,s,ok,f,hg=>by
  cases g with
  | true=>
   rw [txS]
   split
   ·exact txS_ok n r _ _ _ s ok f hg
   ·split
    ·exact noF_ok
    ·obtain ⟨a,b⟩:=lnS_fit (List.takeWhile nl10 (b::r)) 0 0 s ok f
     exact txS_ok n r _ _ _ _ a b fun h=>by cases h
  | false=>
   rw [txS]
   split
   ·exact txS_ok n r _ _ _ s ok f hg
   ·obtain ⟨q1,q2⟩:=hg rfl
    split
    ·exact noF_ok
    ·rename_i x y hp
     obtain ⟨p1,p2,p3,p4⟩:=prS_bd hp
     exact txS_ok n r _ _ _ _ ⟨p1,p2,p4,by simp only [q1];exact p3,(fun ho=>by simp only at ho;rw [q2] at ho;cases ho),ok.e,ok.k⟩ ⟨f.c,f.x⟩ fun h=>by cases h
theorem txR_ok (L:List UInt8):(txR L).1.Ok:=by
 unfold txR
 split
 ·exact noF_ok
 ·exact txS_ok _ L 0 0 false _ ⟨by decide,by decide,by decide,by decide,(fun h=>by cases h),(fun _=>rfl),by decide⟩ ⟨by simp,by simp⟩ fun _=>⟨rfl,rfl⟩
end Go.Hx
namespace Go.Proofs.YtobageabpfkpcaaGreatDoor
open Go.Hx Go.RowKit
section
variable {h:Heap}
theorem flA {h0 h:Heap} {p q:Nat} {X:List Itm} {ws zs:List Value} (m:Mem h0 h (⟨1,some ⟨p,0,none⟩,2,2,ws⟩::⟨1,some ⟨q,0,none⟩,2,2,zs⟩::X)) (u:FV) (x y:Int) {K:Heap->Prop}
  (hK:∀ h',Mem h0 h' (⟨1,some ⟨p,0,none⟩,2,2,u.cs⟩::⟨1,some ⟨q,0,none⟩,2,2,[.int .i64 x,.int .i64 y]⟩::X)->K h') :
  StoreH h ⟨p,0,none⟩ [.int .i64 u.n,.slice u.s.a u.s.n u.s.c] fun h1=>StoreH h1 ⟨q,0,none⟩ [.int .i64 x,.int .i64 y] K:=
 (m.get 0 rfl).put (ws:=u.cs) rfl (by simp [FV.cs,Value.oneCell']) fun h1 f1 u1=>by
  have m1:=m.setAt 0 (t':=⟨1,some ⟨p,0,none⟩,2,2,u.cs⟩) rfl f1 u1 (.inl rfl)
  refine (m1.get 1 rfl).put (ws:=[.int .i64 x,.int .i64 y]) rfl (by simp [Value.oneCell']) fun h2 f2 u2=>?_
  exact hK h2 (m1.setAt 1 (t':=⟨1,some ⟨q,0,none⟩,2,2,[.int .i64 x,.int .i64 y]⟩) rfl f2 u2 (.inl rfl))
theorem two2 {h0 h:Heap} (u:Ext h0 h):Mem h0 ((h.push (.cells #[.int .i64 0,.slice none 0 0] 24)).push (.cells #[.int .i64 0,.int .i64 0] 27)) [⟨1,some ⟨h.size,0,none⟩,2,2,[.int .i64 0,.slice none 0 0]⟩,⟨1,some ⟨(h.push (.cells #[.int .i64 0,.slice none 0 0] 24)).size,0,none⟩,2,2,[.int .i64 0,.int .i64 0]⟩]:=
 (((Mem.nil u).add (t:=⟨1,some ⟨h.size,0,none⟩,2,2,[.int .i64 0,.slice none 0 0]⟩) (Fr.lit (.refl h) [.int .i64 0,.slice none 0 0] 24 2 rfl)).add (t:=⟨1,some ⟨(h.push (.cells #[.int .i64 0,.slice none 0 0] 24)).size,0,none⟩,2,2,[.int .i64 0,.int .i64 0]⟩) (Fr.two _ 0 0 27)).perm (.swap _ _ _)
theorem c3 (s:ByteArray) (g:Gl h):CallsH Tryz.prog 3 #[.string s] h (Xt (.bool true) h):=by
 have ok:=txR_ok (B s)
 refine run3 s _ h ((c12 s g).mono ?_)
 rintro _ h1 ⟨u,rfl,fn⟩
 have e01:=fn.heap
 refine ⟨_,_,_,_,_,_,rfl,?_⟩
 intro h2 h3
 refine flA (two2 (.refl h1)) u _ _ fun h4 m4=>?_
 have e14:=m4.ext
 refine (c13 s h4).mono ?_
 rintro _ h5 ⟨w,rfl,fw⟩
 refine ⟨_,_,_,_,_,_,rfl,?_⟩
 intro h6 h7
 refine flA (two2 (.refl h5)) w _ _ fun h8 m8=>?_
 have e48:=fw.heap.trans m8.ext
 have e18:=e14.trans e48
 have r4:=(m4.get 0 rfl).rd.ext e48
 have t4:=(m4.get 1 rfl).rd.ext e48
 have r8:=(m8.get 0 rfl).rd
 have t8:=(m8.get 1 rfl).rd
 refine ldF r4 (ldF r8 ?_)
 have fu:=fn.ext e18
 have fw8:=fw.ext m8.ext
 refine useX (c14 fu.fis fw8.fis ok) fun h9 e9=>⟨_,rfl,?_⟩
 rw [sameF]
 refine BIf.f ⟨_,_,(t4.ext e9).cells,_,_,(t8.ext e9).cells,fun _=>?_,fun hn=>absurd rfl hn⟩
 have e19:=e18.trans e9
 unfold J3_0
 obtain ⟨R1,hr1,mx⟩:=fn.ex
 obtain ⟨R2,hr2,my⟩:=fw.ex
 have hy:=fw.n
 have mz:=(((mx.app m4).app my).app m8).ext' e9
 have mz1:=(mz.perm (l':=(⟨1,u.s.a,u.s.n,u.s.c,R1.map Rw.v⟩::R1.map Rw.it)++(([⟨1,some ⟨h5.size,0,none⟩,2,2,w.cs⟩,⟨1,some ⟨h6.size,0,none⟩,2,2,[.int .i64 (txR (B s)).2.1,.int .i64 (txR (B s)).2.2]⟩]:List Itm)++((⟨1,w.s.a,w.s.n,w.s.c,R2.map Rw.v⟩::R2.map Rw.it)++([⟨1,some ⟨h1.size,0,none⟩,2,2,u.cs⟩,⟨1,some ⟨h2.size,0,none⟩,2,2,[.int .i64 (txR (B s)).2.1,.int .i64 (txR (B s)).2.2]⟩]:List Itm)))) perm_last)
 refine ldF (r4.ext e9) ((c15m (v:=u) (F:=(txR (B s)).1) (rows:=R1) hr1 mz1 (by have:=ok.n;omega) (fun x hx=>by have:=ok.l x hx;omega) (-7)).mono ?_)
 rintro _ h10 ⟨rfl,m10⟩
 refine ⟨rfl,(c12 s (g.ext m10.ext)).mono ?_⟩
 have fw10:FNew h h10 w (txR (B s)).1:=⟨hy,R2,hr2,m10.sub (.cons _ (.cons _ (List.sublist_append_left _ _)))⟩
 have r10:Rd h10 (some ⟨h5.size,0,none⟩) 2 w.cs:=(m10.get 0 rfl).rd
 rintro _ h11 ⟨z,rfl,fz⟩
 refine ⟨_,_,_,_,_,_,rfl,?_⟩
 intro h12 h13
 refine flA (two2 (.refl h11)) z _ _ fun h14 m14=>?_
 have e1014:=fz.heap.trans m14.ext
 refine ldF (m14.get 0 rfl).rd (ldF (r10.ext e1014) ?_)
 refine useX (c14 (fz.ext m14.ext).fis (fw10.ext e1014).fis ok) fun h15 e15=>⟨_,rfl,?_⟩
 rw [sameF]
 have e015:=(m10.ext.trans e1014).trans e15
 exact BIf.t (useX (c16 (g.ext e015)) fun h16 e16=>⟨_,rfl,rfl,e015.trans e16⟩)
end
end Go.Proofs.YtobageabpfkpcaaGreatDoor
