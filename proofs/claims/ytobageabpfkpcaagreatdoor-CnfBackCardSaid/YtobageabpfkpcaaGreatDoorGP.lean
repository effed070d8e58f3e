/- Words and facts that the claim's proof leans on. No condition. -/
import Derived.Test.YtobageabpfkpcaaGreatDoorGD
set_option linter.unusedVariables false
set_option linter.unusedSimpArgs false
set_option maxRecDepth 100000
namespace Go.Hx
open Go.Proofs.YtobageabpfkpcaaGreatDoor
def n32 (b:UInt8):Bool:=b != 32
theorem tw_all {p:UInt8->Bool}:∀ {l:List UInt8},(∀ b∈l,p b=true)->l.takeWhile p=l
 | [],_=>rfl
 | a::l,h=>by rw [List.takeWhile_cons_of_pos (h a (by simp)),tw_all fun b hb=>h b (by simp [hb])]
def splN:Nat->List UInt8->List (List UInt8)
 | 0,l=>[l]
 | k+1,l=>if l.takeWhile n32=l then [l] else l.takeWhile n32::splN k (l.drop ((l.takeWhile n32).length+1))
theorem index32:∀ L:List UInt8,(Lib.index L [32] = -1/\L.takeWhile n32=L)∨(∃ k:Nat,Lib.index L [32]=k/\k<L.length/\L.takeWhile n32=L.take k)
 | []=>.inl ⟨rfl,rfl⟩
 | b::l=>by
  by_cases hb:b=32
  ·subst hb
   exact .inr ⟨0,by rw [Lib.index];rfl,by simp,rfl⟩
  ·have hp:([32]:List UInt8).isPrefixOf (b::l)=false:=by simp [List.isPrefixOf];exact fun h=>hb h.symm
   have hn:n32 b=true:=by simp [n32,hb]
   rw [Lib.index,hp,List.takeWhile_cons_of_pos hn]
   rcases index32 l with ⟨h1,h2⟩ | ⟨k,h1,h3,h2⟩
   ·left;rw [h1,h2];exact ⟨rfl,rfl⟩
   ·right
    refine ⟨k+1,?_,by simpa using h3,by rw [h2,List.take_succ_cons]⟩
    rw [h1]
    have:((k:Int) == -1)=false:=by rw [beq_eq_false_iff_ne];omega
    rw [this];rfl
theorem splitB_spl:∀ (k:Nat) (s:ByteArray),Lib.splitB ⟨#[32]⟩ 0 k s=(splN k (B s)).map mk
 | 0,s=>by rw [Lib.splitB,splN,List.map_singleton,mk_B]
 | k+1,s=>by
  have hx:Lib.indexB s ⟨#[32]⟩=Lib.index (B s) [32]:=rfl
  rw [splN]
  rcases index32 (B s) with ⟨h1,h2⟩ | ⟨j,h1,h3,h2⟩
  ·rw [Lib.splitB_miss _ _ _ _ (by rw [hx];exact h1),if_pos h2,List.map_singleton,mk_B]
  ·have hlen:=B_len s
   rw [Lib.splitB_hit _ _ _ _ j (by rw [hx];exact h1),splitB_spl k,if_neg,h2,List.map_cons,List.length_take,Nat.min_eq_left (by omega)]
   ·congr 1
    ·apply B_inj
     rw [B_extract,B_mk];simp
    ·congr 2
     rw [B_extract]
     show ((B s).drop (j+1)).take (s.size-(j+1))=_
     rw [List.take_of_length_le (by rw [List.length_drop];omega)]
   ·intro h4
    rw [h2] at h4
    have:=congrArg List.length h4
    rw [List.length_take] at this
    omega
theorem splN_one {w:List UInt8} (h:∀ b∈w,b≠32) (k:Nat):splN k w=[w]:=by
 cases k with
 | zero=>rfl
 | succ k=>
  rw [splN,if_pos]
  exact tw_all fun b hb=>by simp [n32,h b hb]
theorem splN_app {w r:List UInt8} (h:∀ b∈w,b≠32) (k:Nat):splN (k+1) (w++32::r)=w::splN k r:=by
 have ht:(w++32::r).takeWhile n32=w:=by
  rw [List.takeWhile_append_of_pos (by intro b hb;simp [n32,h b hb])]
  rw [List.takeWhile_cons_of_neg (by decide),List.append_nil]
 rw [splN,ht,if_neg]
 ·congr 2
  rw [List.drop_append]
  simp
 ·intro h1
  have:=congrArg List.length h1
  simp at this
theorem splN_join:∀ (k:Nat) (l:List UInt8),∃ a r,splN k l=a::r/\a++(r.map fun w=>32::w).flatten=l
 | 0,l=>⟨l,[],rfl,by simp⟩
 | k+1,l=>by
  rw [splN]
  by_cases h:l.takeWhile n32=l
  ·rw [if_pos h];exact ⟨l,[],rfl,by simp⟩
  ·rw [if_neg h]
   obtain ⟨a,r,h1,h2⟩:=splN_join k (l.drop ((l.takeWhile n32).length+1))
   refine ⟨_,_,rfl,?_⟩
   rw [h1,List.map_cons,List.flatten_cons,List.cons_append,h2]
   rcases index32 l with ⟨_,h4⟩ | ⟨j,h3,h5,h4⟩
   ·exact absurd h4 h
   ·have h6:l[j]=32:=by
     have h7:l.takeWhile n32++l.dropWhile n32=l:=List.takeWhile_append_dropWhile
     have h8:l.dropWhile n32=l.drop j:=by
      have:=congrArg (List.drop j) h7
      rw [h4,List.drop_append,List.length_take,Nat.min_eq_left (by omega),Nat.sub_self,List.drop_zero,List.drop_of_length_le (by rw [List.length_take];omega),List.nil_append] at this
      exact this
     have h9:=List.head?_dropWhile_not n32 l
     rw [h8,List.head?_drop,List.getElem?_eq_getElem h5] at h9
     simpa [n32] using h9
    rw [h4,List.length_take,Nat.min_eq_left (by omega),<- h6,<- List.drop_eq_getElem_cons h5,List.take_append_drop]
def pcnf:List UInt8:=[112,32,99,110,102,32]
def PrP (l:List UInt8) (x y:Int):Prop:=∃ c d,l=pcnf++(c++32::d)/\cntS c 262144=some x/\cntS d 524288=some y
theorem cntS_some {l:List UInt8} {m n:Int} (h:cntS l m=some n):l≠[]/\(l.head?≠some 48∨l=[48])/\(∀ b∈l,isDig b=true)/\n=val 0 l/\n≤m:=by
 unfold cntS at h
 split at h
 ·rename_i hh
  obtain ⟨h1,h2,h3⟩:=hh
  cases h
  have hb:bodyL l=l:=by unfold bodyL;rw [if_neg h2]
  obtain ⟨a,b,c⟩:=wholeOk_t.1 h1
  rw [hb] at a b c
  exact ⟨a,b,c,by unfold wholeV;rw [if_neg h2,hb],h3⟩
 ·cases h
theorem cntS_of {l:List UInt8} {m:Int} (h0:l≠[]) (h1:l.head?≠some 48∨l=[48]) (h2:∀ b∈l,isDig b=true) (h3:(val 0 l:Int)≤m):cntS l m=some (val 0 l:Int):=by
 have h4:l.take 1≠[45]:=by
  cases l with
  | nil=>exact absurd rfl h0
  | cons b r=>
   intro h5
   have hb:b=45:=by simpa using h5
   subst hb
   have:=isDig_t.1 (h2 45 (by simp))
   exact absurd this (by decide)
 have hb:bodyL l=l:=by unfold bodyL;rw [if_neg h4]
 have hv:wholeV l=val 0 l:=by unfold wholeV;rw [if_neg h4,hb]
 unfold cntS
 rw [if_pos ⟨wholeOk_t.2 (by rw [hb];exact ⟨h0,h1,h2⟩),h4,by rw [hv];exact h3⟩,hv]
theorem dig32 {l:List UInt8} (h:∀ b∈l,isDig b=true):∀ b∈l,b≠32:=by
 intro b hb h1
 subst h1
 have:=isDig_t.1 (h 32 hb)
 exact absurd this (by decide)
theorem pieces_spl (l:List UInt8):piecesB (mk l)=(splN (l.count 32) l).map mk:=by
 unfold piecesB
 rw [splitB_spl,B_mk]
 congr 2
 show Lib.count (B (mk l)) [32]=_
 rw [B_mk,Lib.count_one]
theorem prS_iff {l:List UInt8} {x y:Int}:prS l=some (x,y)↔PrP l x y:=by
 constructor
 ·intro h
  unfold prS prG at h
  split at h
  ·rename_i a b c d hp
   split at h
   ·rename_i hab
    split at h
    ·cases h
    ·split at h
     ·cases h
     ·rename_i u hc _ v hd
      cases h
      rw [pieces_spl] at hp
      obtain ⟨w,r,h1,h2⟩:=splN_join (l.count 32) l
      rw [h1] at hp
      match r,hp,h2 with
      | [r1,r2,r3],hp,h2=>
       simp only [List.map_cons,List.map_nil,List.cons.injEq,and_true] at hp
       obtain ⟨p1,p2,p3,p4⟩:=hp
       obtain ⟨q1,q2⟩:=hab
       have e1:w=[112]:=by have:=congrArg B (p1.trans q1);rw [B_mk] at this;exact this
       have e2:r1=[99,110,102]:=by have:=congrArg B (p2.trans q2);rw [B_mk] at this;exact this
       subst p3 p4 e1 e2
       rw [B_mk] at hc hd
       refine ⟨r2,r3,?_,hc,hd⟩
       rw [<- h2];simp [pcnf]
      | [],hp,h2=>simp at hp
      | [_],hp,h2=>simp at hp
      | [_,_],hp,h2=>simp at hp
      | _::_::_::_::_,hp,h2=>simp at hp
   ·cases h
  ·cases h
 ·rintro ⟨c,d,rfl,hc,hd⟩
  obtain ⟨-,-,c3,-,-⟩:=cntS_some hc
  obtain ⟨-,-,d3,-,-⟩:=cntS_some hd
  have hcnt:(pcnf++(c++32::d)).count 32=3:=by
   rw [List.count_append,List.count_append,List.count_cons_self,List.count_eq_zero.2 fun h=>dig32 c3 _ h rfl,List.count_eq_zero.2 fun h=>dig32 d3 _ h rfl]
   decide
  unfold prS
  rw [pieces_spl,hcnt]
  have e:pcnf++(c++32::d)=[112]++32::([99,110,102]++32::(c++32::d)):=rfl
  rw [e,splN_app (by decide),splN_app (by decide),splN_app (dig32 c3),splN_one (dig32 d3)]
  simp only [List.map_cons,List.map_nil]
  rw [prG4,if_pos ⟨rfl,rfl⟩,B_mk,hc]
  simp only
  rw [B_mk,hd]
end Go.Hx
set_option maxRecDepth 100000
namespace Go.Hx
open Go.Proofs.YtobageabpfkpcaaGreatDoor
end Go.Hx
namespace Go.Proofs.YtobageabpfkpcaaGreatDoor
open Go.Hx Go.RowKit
section
variable {h:Heap}
theorem flA {h0 h:Heap} {p q:Nat} {X:List Itm} {ws zs:List Value} (m:Mem h0 h (⟨1,some ⟨p,0,none⟩,2,2,ws⟩::⟨1,some ⟨q,0,none⟩,2,2,zs⟩::X)) (u:FV) (x y:Int) {K:Heap->Prop}
  (hK:∀ h',Mem h0 h' (⟨1,some ⟨p,0,none⟩,2,2,u.cs⟩::⟨1,some ⟨q,0,none⟩,2,2,[.int .i64 x,.int .i64 y]⟩::X)->K h') :
  StoreH h ⟨p,0,none⟩ [.int .i64 u.n,.slice u.s.a u.s.n u.s.c] fun h1=>StoreH h1 ⟨q,0,none⟩ [.int .i64 x,.int .i64 y] K:=
 (m.get 0 rfl).put (ws:=u.cs) rfl (by simp [FV.cs,Value.oneCell']) fun h1 f1 u1=>by
  have m1:=m.setAt 0 (t':=⟨1,some ⟨p,0,none⟩,2,2,u.cs⟩) rfl f1 u1 (.inl rfl)
  refine (m1.get 1 rfl).put (ws:=[.int .i64 x,.int .i64 y]) rfl (by simp [Value.oneCell']) fun h2 f2 u2=>?_
  exact hK h2 (m1.setAt 1 (t':=⟨1,some ⟨q,0,none⟩,2,2,[.int .i64 x,.int .i64 y]⟩) rfl f2 u2 (.inl rfl))
theorem two2 {h0 h:Heap} (u:Ext h0 h):Mem h0 ((h.push (.cells #[.int .i64 0,.slice none 0 0] 24)).push (.cells #[.int .i64 0,.int .i64 0] 27)) [⟨1,some ⟨h.size,0,none⟩,2,2,[.int .i64 0,.slice none 0 0]⟩,⟨1,some ⟨(h.push (.cells #[.int .i64 0,.slice none 0 0] 24)).size,0,none⟩,2,2,[.int .i64 0,.int .i64 0]⟩]:=
 (((Mem.nil u).add (t:=⟨1,some ⟨h.size,0,none⟩,2,2,[.int .i64 0,.slice none 0 0]⟩) (Fr.lit (.refl h) [.int .i64 0,.slice none 0 0] 24 2 rfl)).add (t:=⟨1,some ⟨(h.push (.cells #[.int .i64 0,.slice none 0 0] 24)).size,0,none⟩,2,2,[.int .i64 0,.int .i64 0]⟩) (Fr.two _ 0 0 27)).perm (.swap _ _ _)
end
end Go.Proofs.YtobageabpfkpcaaGreatDoor
