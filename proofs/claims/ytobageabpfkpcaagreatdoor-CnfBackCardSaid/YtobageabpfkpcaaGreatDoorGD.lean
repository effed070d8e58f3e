/- Words and facts that the claim's proof leans on. No condition. -/
import Derived.Test.YtobageabpfkpcaaGreatDoorGA
import Derived.Lib.SplitLaws
import Derived.Test.YtobageabpfkpcaaGreatDoorFS
import Derived.Test.YtobageabpfkpcaaGreatDoorFA
import Derived.Test.YtobageabpfkpcaaGreatDoorCAg
import Derived.Test.YtobageabpfkpcaaGreatDoorGK
set_option linter.unusedVariables false
set_option linter.unusedSimpArgs false
set_option maxRecDepth 100000
namespace Go.Hx
open Go.Proofs.YtobageabpfkpcaaGreatDoor
def noF:Fm:=⟨0,[]⟩
def nl10 (b:UInt8):Bool:=b != 10
theorem index10:∀ L:List UInt8,(Lib.index L [10] = -1/\L.takeWhile nl10=L)∨(∃ k:Nat,Lib.index L [10]=k/\L.takeWhile nl10=L.take k)
 | []=>.inl ⟨rfl,rfl⟩
 | b::l=>by
  by_cases hb:b=10
  ·subst hb
   exact .inr ⟨0,by rw [Lib.index];rfl,rfl⟩
  ·have hp:([10]:List UInt8).isPrefixOf (b::l)=false:=by simp [List.isPrefixOf];exact fun h=>hb h.symm
   have hn:nl10 b=true:=by simp [nl10,hb]
   rw [Lib.index,hp,List.takeWhile_cons_of_pos hn]
   rcases index10 l with ⟨h1,h2⟩ | ⟨k,h1,h2⟩
   ·left;rw [h1,h2];exact ⟨rfl,rfl⟩
   ·right
    refine ⟨k+1,?_,by rw [h2,List.take_succ_cons]⟩
    rw [h1]
    have:((k:Int) == -1)=false:=by rw [beq_eq_false_iff_ne];omega
    rw [this];rfl
theorem cut10 (L:List UInt8):(Lib.cut L [10]).1=L.takeWhile nl10:=by
 unfold Lib.cut
 rcases index10 L with ⟨h1,h2⟩ | ⟨k,h1,h2⟩
 ·rw [h1,h2];rfl
 ·rw [h1,h2,if_pos (by omega)];simp
def piecesB (s:ByteArray):List ByteArray:=Lib.splitB ⟨#[32]⟩ 0 (Lib.countB s ⟨#[32]⟩) s
def prG:List ByteArray->Option (Int×Int)
 | [a,b,c,d]=>if a=⟨#[112]⟩/\b=⟨#[99,110,102]⟩ then (match cntS (B c) 262144 with | none=>none | some x=>match cntS (B d) 524288 with | none=>none | some y=>some (x,y)) else none
 | _=>none
theorem prG4 (a b c d:ByteArray):prG [a,b,c,d]=if a=⟨#[112]⟩/\b=⟨#[99,110,102]⟩ then (match cntS (B c) 262144 with | none=>none | some x=>match cntS (B d) 524288 with | none=>none | some y=>some (x,y)) else none:=rfl
def prS (l:List UInt8):Option (Int×Int):=prG (piecesB (mk l))
def comL (l:List UInt8):Bool:=decide (l=[99]) || decide (l.take 2=[99,32])
def txS (n:Nat):List UInt8->Nat->Nat->Bool->RS->Fm×Int×Int
 | [],_,_,begun,s=>if begun=false then (noF,(n:Int),140) else if s.op=true then (noF,(n:Int),41) else if (s.cls.length:Int)<s.want then (noF,(n:Int),41) else (⟨s.vars,s.cls⟩,0,0)
 | _::r,k+1,i,begun,s=>txS n r k (i+1) begun s
 | b::r,0,i,begun,s=>
  if comL ((b::r).takeWhile nl10)=true then txS n r ((b::r).takeWhile nl10).length (i+1) begun s
  else match begun with
   | true=>if (lnS ((b::r).takeWhile nl10) 0 0 s).2.2≠0 then (noF,(i:Int)+(lnS ((b::r).takeWhile nl10) 0 0 s).2.1,(lnS ((b::r).takeWhile nl10) 0 0 s).2.2) else txS n r ((b::r).takeWhile nl10).length (i+1) true (lnS ((b::r).takeWhile nl10) 0 0 s).1
   | false=>match prS ((b::r).takeWhile nl10) with
    | none=>(noF,(i:Int),140)
    | some (x,y)=>txS n r ((b::r).takeWhile nl10).length (i+1) true { s with vars:=x,want:=y }
def txR (L:List UInt8):Fm×Int×Int:=if 262144<L.length then (noF,0,2) else txS L.length L 0 0 false ⟨0,[],0,[],false⟩
theorem txS_skip (n:Nat):∀ (L:List UInt8) (k i:Nat) (g:Bool) (s:RS),txS n L k i g s=txS n (L.drop k) 0 (i+k) g s
 | [],k,i,g,s=>by cases k <;> rfl
 | b::r,0,i,g,s=>rfl
 | b::r,k+1,i,g,s=>by
  rw [txS,List.drop_succ_cons,txS_skip n r k (i+1) g s,show i+1+k=i+(k+1) by omega]
def lineAt (L:List UInt8) (i:Nat):List UInt8:=(L.drop i).takeWhile nl10
theorem lineAt_len {L:List UInt8} {i:Nat} (hi:i≤L.length):i+(lineAt L i).length≤L.length:=by
 have:=(List.takeWhile_sublist (l:=L.drop i) nl10).length_le
 rw [List.length_drop] at this
 unfold lineAt;omega
theorem txS_at {n:Nat} {L:List UInt8} {i:Nat} {g:Bool} {s:RS} (h:i<L.length):txS n (L.drop i) 0 i g s =
  if comL (lineAt L i)=true then txS n (L.drop (i+(lineAt L i).length+1)) 0 (i+(lineAt L i).length+1) g s
  else match g with
   | true=>if (lnS (lineAt L i) 0 0 s).2.2≠0 then (noF,(i:Int)+(lnS (lineAt L i) 0 0 s).2.1,(lnS (lineAt L i) 0 0 s).2.2) else txS n (L.drop (i+(lineAt L i).length+1)) 0 (i+(lineAt L i).length+1) true (lnS (lineAt L i) 0 0 s).1
   | false=>match prS (lineAt L i) with
    | none=>(noF,(i:Int),140)
    | some (x,y)=>txS n (L.drop (i+(lineAt L i).length+1)) 0 (i+(lineAt L i).length+1) true { s with vars:=x,want:=y }:=by
 have e:∀ g s,txS n (L.drop (i+1)) (lineAt L i).length (i+1) g s=txS n (L.drop (i+(lineAt L i).length+1)) 0 (i+(lineAt L i).length+1) g s:=fun g s=>by
  rw [txS_skip,List.drop_drop,show i+1+(lineAt L i).length=i+(lineAt L i).length+1 by omega]
 have hl:(L[i]::L.drop (i+1)).takeWhile nl10=lineAt L i:=by unfold lineAt;rw [List.drop_eq_getElem_cons h]
 cases g with
 | true=>
  conv=>lhs;rw [List.drop_eq_getElem_cons h]
  rw [txS,hl];simp only [e]
 | false=>
  conv=>lhs;rw [List.drop_eq_getElem_cons h]
  rw [txS,hl];simp only [e]
theorem txS_end {n:Nat} {L:List UInt8} {i:Nat} {g:Bool} {s:RS} (h:L.length≤i):txS n (L.drop i) 0 i g s=if g=false then (noF,(n:Int),140) else if s.op=true then (noF,(n:Int),41) else if (s.cls.length:Int)<s.want then (noF,(n:Int),41) else (⟨s.vars,s.cls⟩,0,0):=by
 rw [List.drop_eq_nil_of_le h];rfl
theorem LoopT.frm2 {τ:Type} {B:τ×Int->Heap->(τ×Int->Heap->Prop)->Prop} {n:Nat} {h:Heap} {t0:τ} (I:Nat->τ->Heap->Prop) (h0:I 0 t0 h)
  (hs:∀ (i:Nat) (x:τ) (h':Heap) (K:τ×Int->Heap->Prop),i≤n->I i x h'->(∀ (j:Nat) y h'',i<j->j≤n->I j y h''->K (y,(j:Int)) h'')->B (x,(i:Int)) h' K):LoopT B (t0,0) h:=by
 refine ⟨fun t h' m=>∃ i:Nat,t.2=i/\i≤n/\m=n-i/\I i t.1 h',⟨n-0,0,rfl,Nat.zero_le _,rfl,h0⟩,?_⟩
 rintro ⟨x,t⟩ h' m ⟨i,rfl,hi,rfl,hI⟩
 refine hs i x h' _ hi hI fun j y h'' hlt hj hI'=>?_
 exact ⟨n-j,by omega,j,rfl,hj,rfl,hI'⟩
end Go.Hx
namespace Go.Proofs.YtobageabpfkpcaaGreatDoor
open Go.Hx Go.RowKit
section
variable {h0 h:Heap} {A:Nat} {s:RS} {X:List Itm}
theorem c45 (s:ByteArray) (hs:s.size<4294967281) (g:Gl h):CallsH Tryz.prog 45 #[.string s,.string (ByteArray.mk #[10])] h fun v h'=>h'=h/\∃ t b,v=.tuple #[.string (mk ((B s).takeWhile nl10)),.string t,.bool b]:=by
 obtain ⟨⟨m,hm⟩,-,-⟩:=g
 intro w hw
 subst hw
 refine (Tryz.strings_Cut s (ByteArray.mk #[10]) m w hs (by rw [cell_eq];exact hm)).mono ?_
 rintro e w' ⟨he,n,rfl⟩
 refine ⟨_,he,⟨rfl,rfl,rfl,⟨Nat.le_refl _,.inl (Nat.le_add_right _ _)⟩⟩,rfl,mk (Lib.cut (B s) [10]).2.1,(Lib.cut (B s) [10]).2.2,?_⟩
 have:=cut10 (B s)
 rw [<- this]
theorem c91 (s:ByteArray) (hs:s.size<4294967281) (g:Gl h):CallsH Tryz.prog 91 #[.string s,.string (ByteArray.mk #[32])] h fun v h'=>v=.slice (some ⟨h.size,0,none⟩) (piecesB s).length (piecesB s).length/\Fr h 1 h' (some ⟨h.size,0,none⟩) (piecesB s).length (piecesB s).length ((piecesB s).map Value.string):=by
 obtain ⟨⟨m,hm⟩,-,-⟩:=g
 have hl:(piecesB s).length=Lib.countB s ⟨#[32]⟩+1:=Lib.splitB_all _ (by decide) 0 _ s rfl
 intro w hw
 subst hw
 refine (Tryz.strings_Split s (ByteArray.mk #[32]) m w hs (by rw [cell_eq];exact hm) (by decide)).mono ?_
 rintro e w' ⟨he,rfl⟩
 refine ⟨_,he,same_push _ _,by rw [hl],?_⟩
 show Fr w.heap 1 (w.heap.push _) _ _ _ _
 exact Fr.lit (.refl w.heap) _ 9 _ (by rw [List.length_map];rfl)
theorem pieces_le (s:ByteArray):∀ p∈piecesB s,p.size≤s.size:=by
 have key:∀ (k:Nat) (s:ByteArray),∀ p∈Lib.splitB ⟨#[32]⟩ 0 k s,p.size≤s.size:=by
  intro k
  induction k with
  | zero=>intro s p hp;rw [Lib.splitB,List.mem_singleton] at hp;subst hp;exact Nat.le_refl _
  | succ k ih=>
   intro s p hp
   unfold Lib.splitB at hp
   split at hp
   ·rw [List.mem_singleton] at hp;subst hp;exact Nat.le_refl _
   ·rcases List.mem_cons.1 hp with rfl | hp
    ·rw [ByteArray.size_extract];omega
    ·have:=ih _ p hp
     rw [ByteArray.size_extract] at this;omega
 exact key _ s
def prV (l:List UInt8):Value->Prop:=fun v=>∃ x y,(prS l=some (x,y)/\v=.tuple #[.int .i64 x,.int .i64 y,.bool true])∨(prS l=none/\v=.tuple #[.int .i64 x,.int .i64 y,.bool false])
theorem c48 (s:ByteArray) (hs:s.size<4294967281) (g:Gl h):CallsH Tryz.prog 48 #[.string s] h fun v h'=>prV (B s) v/\Ext h h':=by
 refine run48 s _ h ((c91 s hs g).mono ?_)
 rintro _ h1 ⟨rfl,f⟩
 have e1:=f.ext
 have hpl:=pieces_le s
 have hpr:prS (B s)=prG (piecesB s):=by unfold prS;rw [mk_B]
 generalize piecesB s=P at *
 have no:∀ {h'} (x y:Int),Ext h h'->prG P=none->prV (B s) (.tuple #[.int .i64 x,.int .i64 y,.bool false])/\Ext h h':=fun x y e hn=>⟨⟨x,y,.inr ⟨by rw [hpr];exact hn,rfl⟩⟩,e⟩
 refine ⟨_,_,_,rfl,fun h4=>?_,fun h4=>no 0 0 e1 ?_⟩
 ·match P,h4 with
  | [a,b,c,d],_=>
   have sz:∀ {p:ByteArray},p∈[a,b,c,d]->p.size<4294967281:=fun hp=>by have:=hpl _ hp;omega
   have at_:∀ {h'},Ext h1 h'->∀ (k:Nat) (hk:k<4),cellH h' (Addr.add ⟨h.size,0,none⟩ (Int.toNat (k:Int)*1))=some (.string ([a,b,c,d][k])):=fun e k hk=>by
    rw [Int.toNat_natCast,Nat.mul_one]
    exact ((f.upd e).rd.fld k (by rw [List.getElem?_map,List.getElem?_eq_getElem (by exact hk)];rfl))
   refine ⟨by omega,by show (0:Int)<((4:Nat):Int);omega,AtP.mk rfl ⟨_,at_ (.refl _) 0 (by omega),fun ha=>⟨by omega,by show (1:Int)<((4:Nat):Int);omega,AtP.mk rfl ⟨_,at_ (.refl _) 1 (by omega),fun hb=>?_,fun hb=>no 0 0 e1 ?_⟩⟩,fun ha=>no 0 0 e1 ?_⟩⟩
   ·have ha':a=⟨#[112]⟩:=ha
    have hb':b=⟨#[99,110,102]⟩:=hb
    unfold J48_0
    refine ⟨by omega,by show (2:Int)<((4:Nat):Int);omega,AtP.mk rfl ⟨_,at_ (.refl _) 2 (by omega),useX (c92 c (sz (by simp)) (g.ext e1) (by omega) (by omega)) fun h2 e2=>?_⟩⟩
    unfold cntV
    cases hc:cntS (B c) 262144 with
    | none=>exact ⟨_,_,rfl,BIf.t (no 0 0 (e1.trans e2) (by rw [prG4,if_pos ⟨ha',hb'⟩,hc]))⟩
    | some x=>
     refine ⟨_,_,rfl,BIf.f ?_⟩
     unfold J48_1
     refine ⟨by omega,by show (3:Int)<((4:Nat):Int);omega,AtP.mk rfl ⟨_,at_ e2 3 (by omega),useX (c92 d (sz (by simp)) (g.ext (e1.trans e2)) (by omega) (by omega)) fun h3 e3=>?_⟩⟩
     unfold cntV
     cases hd:cntS (B d) 524288 with
     | none=>exact ⟨_,_,rfl,no x 0 ((e1.trans e2).trans e3) (by rw [prG4,if_pos ⟨ha',hb'⟩,hc];simp only [hd])⟩
     | some y=>exact ⟨_,_,rfl,⟨x,y,.inl ⟨by rw [hpr];rw [prG4,if_pos ⟨ha',hb'⟩,hc];simp only [hd],rfl⟩⟩,(e1.trans e2).trans e3⟩
   ·rw [prG4,if_neg fun hh=>hb hh.2]
   ·rw [prG4,if_neg fun hh=>ha hh.1]
 ·unfold prG
  split
  ·exact absurd rfl h4
  ·rfl
theorem prS_bd {l:List UInt8} {x y:Int} (h:prS l=some (x,y)):0≤x/\x≤262144/\0≤y/\y≤524288:=by
 have cb:∀ {l:List UInt8} {m n:Int},cntS l m=some n->0≤n/\n≤m:=fun {l m n} hc=>by
  unfold cntS at hc
  split at hc
  ·rename_i h1
   cases hc
   refine ⟨?_,h1.2.2⟩
   unfold wholeV;rw [if_neg h1.2.1];omega
  ·cases hc
 unfold prS prG at h
 split at h
 ·split at h
  ·split at h
   ·cases h
   ·split at h
    ·cases h
    ·rename_i _ _ h1 _ _ h2
     cases h
     exact ⟨(cb h1).1,(cb h1).2,(cb h2).1,(cb h2).2⟩
  ·cases h
 ·cases h
end
end Go.Proofs.YtobageabpfkpcaaGreatDoor
set_option maxRecDepth 100000
namespace Go.Hx
theorem noF_new {h h':Heap} (e:Ext h h'):FNew h h' ⟨0,⟨none,0,0⟩⟩ noF:=
 ⟨rfl,[],rfl,(Mem.nil e).add (t:=⟨1,none,0,0,[]⟩) (Fr.nil (.refl h'))⟩
theorem fin0 {h0 h:Heap} {A:Nat} {s:RS} {p q:Nat} {ws zs:List Value} {R:FV->Heap->Prop} (r:Rdr h0 h A s [⟨1,some ⟨p,0,none⟩,2,2,ws⟩,⟨1,some ⟨q,0,none⟩,2,2,zs⟩]) (u:FV) (x y:Int)
  {Q:Int->Option Addr->Nat->Nat->Int->Int->Heap->Prop} (hQ:∀ h',Rdr h0 h' A s []->Q u.n u.s.a u.s.n u.s.c x y h') :
  StoreH h ⟨p,0,none⟩ [.int .i64 u.n,.slice u.s.a u.s.n u.s.c] fun h1=>StoreH h1 ⟨q,0,none⟩ [.int .i64 x,.int .i64 y] fun h2=>∃ (t:Int),∃ (a:Option Addr),∃ (n:Nat),∃ (c:Nat),cellsH h2 ⟨p,0,none⟩ 0 [.int .i64 t,.slice a n c]/\∃ (t1:Int),∃ (t2:Int),cellsH h2 ⟨q,0,none⟩ 0 [.int .i64 t1,.int .i64 t2]/\Q t a n c t1 t2 h2:=
 (r.getX (k:=0) rfl).put (ws:=u.cs) rfl (by simp [FV.cs,Value.oneCell']) fun h1 f1 u1=>by
  have r1:=r.setX 0 (t':=⟨1,some ⟨p,0,none⟩,2,2,u.cs⟩) rfl f1 u1 (.inl rfl)
  refine (r1.getX (k:=1) rfl).put (ws:=[.int .i64 x,.int .i64 y]) rfl (by simp [Value.oneCell']) fun h2 f2 u2=>?_
  have r2:=r1.setX 1 (t':=⟨1,some ⟨q,0,none⟩,2,2,[.int .i64 x,.int .i64 y]⟩) rfl f2 u2 (.inl rfl)
  exact ⟨_,_,_,_,(r2.getX (k:=0) rfl).rd.cells,_,_,f2.rd.cells,hQ h2 (r2.subX (.cons _ (.cons _ .slnil)))⟩
theorem finZ {h0 h:Heap} {A:Nat} {s:RS} {p q:Nat} {ws zs:List Value} (r:Rdr h0 h A s [⟨1,some ⟨p,0,none⟩,2,2,ws⟩,⟨1,some ⟨q,0,none⟩,2,2,zs⟩]) (u:FV) (x y:Int) {b:Nat} (hb:b<h.size) (hp:b≠p) (hq:b≠q)
  (hc:cellsH h ⟨b,0,none⟩ 0 [.int .i64 x,.int .i64 y]) {Q:Int->Option Addr->Nat->Nat->Int->Int->Heap->Prop} (hQ:∀ h',Rdr h0 h' A s []->Q u.n u.s.a u.s.n u.s.c x y h') :
  ∃ zn:Zone,Zone.has zn h b/\∃ (t11:Int),∃ (t12:Int),cellsH h ⟨b,0,none⟩ 0 [.int .i64 t11,.int .i64 t12]/\StoreH h ⟨p,0,none⟩ [.int .i64 u.n,.slice u.s.a u.s.n u.s.c] fun h1=>Zone.r zn h h1/\StoreH h1 ⟨q,0,none⟩ [.int .i64 t11,.int .i64 t12] fun h2=>Zone.r zn h1 h2 /\
   ∃ (t:Int),∃ (a:Option Addr),∃ (n:Nat),∃ (c:Nat),cellsH h2 ⟨p,0,none⟩ 0 [.int .i64 t,.slice a n c]/\∃ (t1:Int),∃ (t2:Int),cellsH h2 ⟨q,0,none⟩ 0 [.int .i64 t1,.int .i64 t2]/\Q t a n c t1 t2 h2:=
 ⟨Zone.of (fun i=>i=b),fun h' z=>z _ rfl,x,y,hc,(r.getX (k:=0) rfl).put (ws:=u.cs) rfl (by simp [FV.cs,Value.oneCell']) fun h1 f1 u1=>by
  have r1:=r.setX 0 (t':=⟨1,some ⟨p,0,none⟩,2,2,u.cs⟩) rfl f1 u1 (.inl rfl)
  refine ⟨upd_zone u1 fun i hi=>by subst hi;exact ⟨hb,fun ⟨ad,e1,e2⟩=>by cases e1;exact hp e2⟩,?_⟩
  refine (r1.getX (k:=1) rfl).put (ws:=[.int .i64 x,.int .i64 y]) rfl (by simp [Value.oneCell']) fun h2 f2 u2=>?_
  have r2:=r1.setX 1 (t':=⟨1,some ⟨q,0,none⟩,2,2,[.int .i64 x,.int .i64 y]⟩) rfl f2 u2 (.inl rfl)
  refine ⟨upd_zone u2 fun i hi=>by subst hi;exact ⟨Nat.lt_of_lt_of_le hb u1.1,fun ⟨ad,e1,e2⟩=>by cases e1;exact hq e2⟩,?_⟩
  exact ⟨_,_,_,_,(r2.getX (k:=0) rfl).rd.cells,_,_,f2.rd.cells,hQ h2 (r2.subX (.cons _ (.cons _ .slnil)))⟩⟩
end Go.Hx
namespace Go.Proofs.YtobageabpfkpcaaGreatDoor
open Go.Hx Go.RowKit
section
variable {h:Heap}
theorem c12 (s:ByteArray) (g:Gl h):CallsH Tryz.prog 12 #[.string s] h fun v h'=>∃ u:FV,v=.tuple #[u.v,flt (txR (B s)).2.1 (txR (B s)).2.2]/\FNew h h' u (txR (B s)).1:=by
 have hlen:=B_len s
 refine run12 s _ h ?_
 unfold VC12
 intro h1 h2
 have f1:Fr h 1 h1 (some ⟨h.size,0,none⟩) 2 2 [.int .i64 0,.slice none 0 0]:=Fr.lit (.refl h) [.int .i64 0,.slice none 0 0] 24 2 rfl
 have f2:Fr h1 1 h2 (some ⟨h1.size,0,none⟩) 2 2 [.int .i64 0,.int .i64 0]:=Fr.two h1 0 0 27
 have hsz:h.size<h1.size:=f1.own.lt
 have m2:=((((Mem.nil (.refl h)).add (t:=⟨1,some ⟨h.size,0,none⟩,2,2,[.int .i64 0,.slice none 0 0]⟩) f1).add (t:=⟨1,some ⟨h1.size,0,none⟩,2,2,[.int .i64 0,.int .i64 0]⟩) f2).perm (List.Perm.swap _ _ _))
 have err:∀ {h':Heap} {A:Nat} {q:RS} (x y:Int),txR (B s)=(noF,x,y)->∀ h'',Rdr h h'' A q []->∃ u:FV,(Value.tuple #[.agg #[.int .i64 0,.slice none 0 0],.agg #[.int .i64 x,.int .i64 y]])=.tuple #[u.v,flt (txR (B s)).2.1 (txR (B s)).2.2]/\FNew h h'' u (txR (B s)).1:=fun x y he h'' r=>by
  rw [he]
  exact ⟨⟨0,⟨none,0,0⟩⟩,rfl,noF_new r.ext⟩
 refine ⟨fun hbig=>?_,fun hbig=>?_⟩
 ·have he:txR (B s)=(noF,0,2):=by unfold txR;rw [if_pos (by omega)]
  refine (m2.get 0 rfl).put (ws:=[.int .i64 0,.slice none 0 0]) rfl (by simp [Value.oneCell']) fun h3 f3 u3=>?_
  have m3:=m2.setAt 0 (t':=⟨1,some ⟨h.size,0,none⟩,2,2,[.int .i64 0,.slice none 0 0]⟩) rfl f3 u3 (.inl rfl)
  refine (m3.get 1 rfl).put (ws:=[.int .i64 0,.int .i64 2]) rfl (by simp [Value.oneCell']) fun h4 f4 u4=>?_
  have m4:=m3.setAt 1 (t':=⟨1,some ⟨h1.size,0,none⟩,2,2,[.int .i64 0,.int .i64 2]⟩) rfl f4 u4 (.inl rfl)
  refine ⟨_,_,_,_,(m4.get 0 rfl).rd.cells,_,_,f4.rd.cells,⟨0,⟨none,0,0⟩⟩,?_,?_⟩
  ·rw [he];rfl
  ·rw [he];exact noF_new m4.ext
 ·unfold J12_0
  intro h3
  have f3:Fr h2 1 h3 (some ⟨h2.size,0,none⟩) 5 5 [.int .i64 0,.slice none 0 0,.int .i64 0,.slice none 0 0,.bool false]:=Fr.lit (.refl h2) [.int .i64 0,.slice none 0 0,.int .i64 0,.slice none 0 0,.bool false] 67 5 rfl
  have hsz2:h1.size<h2.size:=f2.own.lt
  have r3:Rdr h h3 h2.size ⟨0,[],0,[],false⟩ [⟨1,some ⟨h.size,0,none⟩,2,2,[.int .i64 0,.slice none 0 0]⟩,⟨1,some ⟨h1.size,0,none⟩,2,2,[.int .i64 0,.int .i64 0]⟩]:=
   ⟨[],none,0,0,none,0,0,rfl,((m2.add (t:=⟨1,none,0,0,[]⟩) (Fr.nil (.refl h2))).add (t:=⟨1,none,0,0,[]⟩) (Fr.nil (.refl h2))).add (t:=⟨1,some ⟨h2.size,0,none⟩,5,5,[.int .i64 0,.slice none 0 0,.int .i64 0,.slice none 0 0,.bool false]⟩) f3⟩
  have htx:txR (B s)=txS (B s).length (B s) 0 0 false ⟨0,[],0,[],false⟩:=by unfold txR;rw [if_neg (by omega)]
  refine LoopT.frm2 (n:=s.size+1) (fun i (b:Bool) h'=>∃ q:RS,q.Ok/\(b=false->q.cls=[]/\q.op=false)/\txR (B s)=txS (B s).length ((B s).drop i) 0 i b q/\Rdr h h' h2.size q [⟨1,some ⟨h.size,0,none⟩,2,2,[.int .i64 0,.slice none 0 0]⟩,⟨1,some ⟨h1.size,0,none⟩,2,2,[.int .i64 0,.int .i64 0]⟩]) ⟨_,⟨by decide,by decide,by decide,by decide,(fun h=>by cases h),(fun _=>rfl),by decide⟩,fun _=>⟨rfl,rfl⟩,htx,r3⟩ ?_
  rintro i b h4 K hi ⟨q,ok,hq,hI,r4⟩ hK
  refine ⟨fun hlt=>?_,fun hlt=>?_⟩
  ·have hlt':(i:Int)<((s.size:Nat):Int):=hlt
   have hil:i<(B s).length:=by omega
   rw [txS_at hil] at hI
   have hll:=lineAt_len (L:=B s) (i:=i) (by omega)
   have hline:(B (s.extract (Int.toNat (i:Int)) (Int.toNat ((s.size:Nat):Int)))).takeWhile nl10=lineAt (B s) i:=by
    rw [B_extract,Int.toNat_natCast,Int.toNat_natCast,List.take_of_length_le (by rw [List.length_drop];omega)];rfl
   have hss:(s.extract (Int.toNat (i:Int)) (Int.toNat ((s.size:Nat):Int))).size<4294967281:=by rw [ByteArray.size_extract];omega
   unfold J12_2
   refine ⟨by simp only;omega,by simp only;omega,by omega,(c45 _ hss (g.ext r4.ext)).mono ?_⟩
   rintro _ h5 ⟨rfl,t,b',rfl⟩
   refine ⟨_,_,_,rfl,?_⟩
   rw [hline]
   generalize hL:lineAt (B s) i=L at *
   have hnx:IntKind.wrap .i64 (((b,(i:Int)).2:Int)+IntKind.wrap .i64 ((((mk L).size:Nat):Int)+1))=((i+L.length+1:Nat):Int):=by
    rw [mk_size,w64 (x:=((L.length:Nat):Int)+1) (by omega) (by omega),w64 (by simp only;omega) (by simp only;omega)]
    simp only;omega
   rw [hnx]
   have com:comL L=true->K (b,((i+L.length+1:Nat):Int)) h5:=fun hc=>by
    rw [if_pos hc] at hI
    exact hK _ _ _ (by omega) (by omega) ⟨q,ok,hq,hI,r4⟩
   refine ⟨fun h99=>com ?_,fun h99=>use (c46 (mk L) _ h5) ⟨_,rfl,?_⟩⟩
   ·have:L=[99]:=(mk_inj (m:=[99])).1 h99
    unfold comL;rw [decide_eq_true this];rfl
   by_cases hc2:L.take 2=[99,32]
   ·have:decide ((B (mk L)).take (ByteArray.mk #[99,32]).size=B (ByteArray.mk #[99,32]))=true:=decide_eq_true hc2
    rw [this]
    exact BIf.t (com (by unfold comL;rw [decide_eq_true hc2];simp))
   have:decide ((B (mk L)).take (ByteArray.mk #[99,32]).size=B (ByteArray.mk #[99,32]))=false:=decide_eq_false hc2
   rw [this]
   have hnc:¬ comL L=true:=by
    unfold comL
    rw [decide_eq_false hc2,decide_eq_false fun h9=>h99 (by rw [h9])]
    simp
   rw [if_neg hnc] at hI
   refine BIf.f ?_
   cases b with
   | true=>
    refine BIf.t ((c47 r4 ok g (mk L) (by rw [mk_size];omega) i (by omega)).mono ?_)
    rintro _ h6 ⟨rfl,r6,ok6⟩
    simp only [B_mk] at *
    by_cases hz:(lnS L 0 0 q).2.2=0
    ·rw [if_neg (by simp [hz])] at hI
     refine ⟨0,0,by rw [lnV0 hz],?_⟩
     refine fl (Fr.two h6 0 0 27) 0 0 fun h8 f8 u8=>⟨fun _=>hK _ _ _ (by omega) (by omega) ⟨_,ok6,(fun h=>by cases h),hI,r6.ext' f8.ext⟩,fun hn=>absurd rfl hn⟩
    ·rw [if_pos hz] at hI
     refine ⟨_,_,by rw [lnV1 hz],?_⟩
     refine fl (Fr.two h6 0 0 27) _ _ fun h8 f8 u8=>⟨fun heq=>?_,fun _=>?_⟩
     ·have:=congrArg (fun a=>a[1]?) heq
      simp at this
      exact absurd this hz
     ·have hA:h1.size<h6.size:=(r6.getX (k:=1) rfl).own.lt
      have hB:h.size<h6.size:=(r6.getX (k:=0) rfl).own.lt
      refine finZ (b:=h6.size) (r6.ext' f8.ext) ⟨0,⟨none,0,0⟩⟩ _ _ f8.own.lt (by omega) (by omega) f8.rd.cells fun h9 r9=>?_
      exact err (h':=h9) _ _ hI h9 r9
   | false=>
    obtain ⟨q1,q2⟩:=hq rfl
    refine BIf.f ((c48 (mk L) (by rw [mk_size];omega) (g.ext r4.ext)).mono ?_)
    rintro _ h6 ⟨⟨x,y,hor⟩,e6⟩
    rw [B_mk] at hor
    rcases hor with ⟨hp,rfl⟩ | ⟨hp,rfl⟩
    ·refine ⟨_,_,_,rfl,?_⟩
     rw [add00]
     refine prob_step (r4.ext' e6) x y fun h7 r7=>BIf.f (hK _ _ _ (by omega) (by omega) ⟨_,?_,(fun h=>by cases h),?_,r7⟩)
     ·obtain ⟨p1,p2,p3,p4⟩:=prS_bd hp
      exact ⟨p1,p2,p4,by simp only [q1];exact p3,(fun ho=>by simp only at ho;rw [q2] at ho;cases ho),ok.e,ok.k⟩
     ·simp only [hp] at hI;exact hI
    ·refine ⟨_,_,_,rfl,?_⟩
     rw [add00]
     refine prob_step (r4.ext' e6) x y fun h7 r7=>BIf.t ?_
     simp only [hp] at hI
     exact fin0 (R:=fun _ _=>True) r7 ⟨0,⟨none,0,0⟩⟩ _ _ fun h9 r9=>err (h':=h9) _ _ hI h9 r9
  ·have hlt':¬ (i:Int)<((s.size:Nat):Int):=hlt
   rw [txS_end (by omega)] at hI
   unfold J12_1
   cases b with
   | false=>
    rw [if_pos rfl] at hI
    exact BIf.t (fin0 (R:=fun _ _=>True) r4 ⟨0,⟨none,0,0⟩⟩ _ _ fun h9 r9=>err (h':=h9) _ _ hI h9 r9)
   | true=>
    rw [if_neg (by simp)] at hI
    obtain ⟨hA,g0,⟨ca,cc,g1⟩,g2,⟨cb,cd,g3⟩,g4⟩:=r4.get
    refine BIf.f ⟨_,g4,?_⟩
    cases ho:q.op with
    | true=>
     rw [if_pos ho] at hI
     exact BIf.t (fin0 (R:=fun _ _=>True) r4 ⟨0,⟨none,0,0⟩⟩ _ _ fun h9 r9=>err (h':=h9) _ _ hI h9 r9)
    | false=>
     rw [if_neg (by rw [ho];simp)] at hI
     refine BIf.f ⟨_,_,_,by rw [add00];exact g1,_,g2,fun hl=>?_,fun hl=>?_⟩
     ·rw [if_pos hl] at hI
      exact fin0 (R:=fun _ _=>True) r4 ⟨0,⟨none,0,0⟩⟩ _ _ fun h9 r9=>err (h':=h9) _ _ hI h9 r9
     ·rw [if_neg hl] at hI
      unfold J12_3
      obtain ⟨rows,a,n,c,bb,m,d,hr1,me⟩:=r4
      have m0:=me.perm (List.perm_append_comm (l₁:=_::_::_::rows.map Rw.it) (l₂:=[_,_]))
      have rr:=(me.get 0 rfl).rd
      refine ⟨q.vars,a,n,c,cellsH_of fun j v hv=>?_,(m0.get 0 rfl).put (ws:=[.int .i64 q.vars,.slice a n c]) rfl (by simp [Value.oneCell']) fun h5 f5 u5=>?_⟩
      ·rw [add00,Nat.zero_add]
       match j,hv with
       | 0,hv=>cases hv;exact rr.fld 0 rfl
       | 1,hv=>cases hv;exact rr.fld 1 rfl
       | j+2,hv=>simp at hv
      have m5:=m0.setAt 0 (t':=⟨1,some ⟨h.size,0,none⟩,2,2,[.int .i64 q.vars,.slice a n c]⟩) rfl f5 u5 (.inl rfl)
      refine (m5.get 1 rfl).put (ws:=[.int .i64 0,.int .i64 0]) rfl (by simp [Value.oneCell']) fun h6 f6 u6=>?_
      have m6:=m5.setAt 1 (t':=⟨1,some ⟨h1.size,0,none⟩,2,2,[.int .i64 0,.int .i64 0]⟩) rfl f6 u6 (.inl rfl)
      refine ⟨_,_,_,_,(m6.get 0 rfl).rd.cells,_,_,f6.rd.cells,⟨q.vars,⟨a,n,c⟩⟩,?_,?_⟩
      ·rw [hI];rfl
      ·rw [hI];exact ⟨rfl,rows,hr1,m6.sub (.cons _ (.cons _ (.cons _ (.cons_cons _ (.cons _ (.refl _))))))⟩
end
end Go.Proofs.YtobageabpfkpcaaGreatDoor
set_option maxRecDepth 100000
namespace Go.Hx
def wkT:ByteArray:=ByteArray.mk #[112,32,99,110,102,32,50,32,50,10,49,32,45,50,32,48,10,50,32,48,10]
def wkF:Fm:=⟨2,[[1,-2],[2]]⟩
theorem wk_ok:wkF.Ok:=⟨by decide,by decide,by decide,by decide,by decide⟩
theorem wk_tx:txR (B wkT)=(wkF,0,0):=by kernel_rfl
theorem wk_mod:modR wkF=(1,0):=by kernel_rfl
theorem wk_frc:frcR wkF []=([1,2],true,0):=by kernel_rfl
theorem wk_frc1:(frcR wkF [-1]).2=(false,0):=by kernel_rfl
theorem FIs.of (F:Fm) {h:Heap} {v:FV} (f:FIs h v F):v.n=F.vars:=f.n
end Go.Hx
namespace Go.Proofs.YtobageabpfkpcaaGreatDoor
open Go.Hx Go.RowKit
section
variable {h:Heap} {v:FV} {F:Fm}
theorem c16 (g:Gl h):CallsH Tryz.prog 16 #[] h (Xt (.bool true) h):=by
 refine run16 _ h ?_
 unfold VC16
 refine (c12 wkT g).mono ?_
 rintro _ h1 ⟨u,rfl,fn⟩
 rw [wk_tx] at fn
 rw [wk_tx]
 have e01:=fn.heap
 refine ⟨_,_,_,_,_,_,rfl,?_⟩
 intro h2 h3
 have f2:Fr h1 1 h2 (some ⟨h1.size,0,none⟩) 2 2 [.int .i64 0,.slice none 0 0]:=Fr.lit (.refl h1) [.int .i64 0,.slice none 0 0] 24 2 rfl
 have f3:Fr h2 1 h3 (some ⟨h2.size,0,none⟩) 2 2 [.int .i64 0,.int .i64 0]:=Fr.two h2 0 0 27
 have m3:=(((Mem.nil (.refl h1)).add (t:=⟨1,some ⟨h1.size,0,none⟩,2,2,[.int .i64 0,.slice none 0 0]⟩) f2).add (t:=⟨1,some ⟨h2.size,0,none⟩,2,2,[.int .i64 0,.int .i64 0]⟩) f3)
 refine (m3.get 1 rfl).put (ws:=u.cs) rfl (by simp [FV.cs,Value.oneCell']) fun h4 f4 u4=>?_
 have m4:=m3.setAt 1 (t':=⟨1,some ⟨h1.size,0,none⟩,2,2,u.cs⟩) rfl f4 u4 (.inl rfl)
 refine (m4.get 0 rfl).put (ws:=[.int .i64 0,.int .i64 0]) rfl (by simp [Value.oneCell']) fun h5 f5 u5=>?_
 have m5:=m4.setAt 0 (t':=⟨1,some ⟨h2.size,0,none⟩,2,2,[.int .i64 0,.int .i64 0]⟩) rfl f5 u5 (.inl rfl)
 have fis:FIs h5 u wkF:=(fn.ext m5.ext).fis
 have hb:Rd h5 (some ⟨h1.size,0,none⟩) 2 u.cs:=(m5.get 1 rfl).rd
 have hq:Rd h5 (some ⟨h2.size,0,none⟩) 2 [.int .i64 0,.int .i64 0]:=(m5.get 0 rfl).rd
 have e05:=e01.trans m5.ext
 refine ldF hb (useX (c27 fis wk_ok) fun h6 e6=>?_)
 rw [wk_mod]
 refine ⟨_,_,rfl,ldF (hb.ext e6) ((c19 sortAbs (fis.ext e6) wk_ok (lits:=[]) (b:=none) (m:=0) (d:=0) .nil (by decide)).mono ?_)⟩
 rintro _ h7 ⟨a3,n3,c3,rfl,f7⟩
 rw [wk_frc] at f7
 rw [wk_frc]
 have e7:=e6.trans f7.ext
 refine ⟨_,_,_,_,_,rfl,ldF (hb.ext e7) ?_⟩
 intro h8
 have f8:Fr h7 1 h8 (some ⟨h7.size,0,none⟩) 1 1 (ints [-1]):=Fr.lit (.refl h7) [.int .i64 (-1)] 3 1 rfl
 have e8:=e7.trans f8.ext
 refine (c19 sortAbs (fis.ext e8) wk_ok (lits:=[-1]) f8.rd (by decide)).mono ?_
 rintro _ h9 ⟨a5,n5,c5,rfl,f9⟩
 rw [wk_frc1]
 have e9:=e8.trans f9.ext
 have hn3:n3=2:=by have:=f7.rd.ilen;simpa using this.symm
 subst hn3
 have r7:=(f7.upd (f8.ext.trans f9.ext)).rd
 refine ⟨_,_,_,_,_,rfl,0,0,(hq.ext e9).cells,?_⟩
 have fin:Xt (.bool true) h (.bool true) h9:=⟨rfl,e05.trans e9⟩
 refine ⟨fun _=>⟨fun _=>⟨fun _=>BIf.t ⟨fun _=>⟨fun _=>⟨by decide,by decide,r7.getn (i:=0) (by decide) fun ad _ hc=>⟨_,hc,fun _=>⟨by decide,by decide,r7.getn (i:=1) (by decide) fun ad2 _ hc2=>⟨_,hc2,fun _=>BIf.t ⟨fun _=>fin,fun hn=>absurd rfl hn⟩,fun hn=>absurd rfl hn⟩⟩,fun hn=>absurd rfl hn⟩⟩,fun hn=>absurd rfl hn⟩,fun hn=>absurd rfl hn⟩,fun hn=>absurd rfl hn⟩,fun hn=>absurd rfl hn⟩,fun hn=>absurd rfl hn⟩
end
end Go.Proofs.YtobageabpfkpcaaGreatDoor
set_option maxRecDepth 100000
namespace Go.Hx
theorem sameF (F:Fm):decide (F.vars=F.vars/\F.cls=F.cls)=true:=decide_eq_true ⟨rfl,rfl⟩
end Go.Hx
namespace Go.Proofs.YtobageabpfkpcaaGreatDoor
open Go.Hx Go.RowKit
section
variable {h:Heap} {v w:FV} {F G:Fm}
end
end Go.Proofs.YtobageabpfkpcaaGreatDoor
