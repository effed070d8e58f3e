/- The steps, handed out one by one: walked by the kit's words. No condition. -/
import Derived.Test.YtobageabpfkpcaaPB
import Derived.RangeFuncNested
import Derived.RangeFuncBound
import Derived.RangeFuncCalls
import Derived.RangeFuncLeaves
import Derived.Shelf.Abstract
import Derived.Shelf.RegionOpen
import Derived.WalkKit
import Derived.OwnWalkIn
import Derived.TacticsInMore
import Derived.LoopNIn
import Derived.LoopIn
set_option linter.unusedVariables false
set_option linter.unusedSimpArgs false
set_option maxRecDepth 100000
namespace Go.Proofs.Ytobageabpfkpcaa
open Go.Hx Go.RowKit Go.Proofs Go.Shelf
attribute [local go_sem] Oper.semAt_some
set_option maxHeartbeats 2000000
theorem adn (b o n:Nat):Addr.add ⟨b,o,none⟩ n=⟨b,o+n,none⟩:=by unfold Addr.add;split <;> simp_all
theorem und {b:Bool} (h:some undef=some (Value.bool b)):False:=by simp [undef] at h
inductive Stp (L:List (Bool×List Int)):Nat->Fm->Fm->Prop
 | nil (F:Fm):Stp L 0 F F
 | snoc {k:Nat} {F F1 F2:Fm} {x:Bool×List Int}:Stp L k F F1->L[k]?=some x->DoR F1 x 0 F2->x≠(false,[])->Stp L (k+1) F F2
theorem rdls_spot {h:Heap} {a:Option Addr} {n:Nat} {L:List (Bool×List Int)} (r:RdLs h a n L) (hn:0<n):∃ b o,a=some ⟨b,o,none⟩:=by
 have hg:=r.get (i:=0) hn (K:=fun ad=>∃ v,cellH h ((ad.add 0).add 0)=some v) fun ad hl x h1 h2 h3 h4=>⟨_,h1.fld 0 rfl⟩
 cases a with
 | none=>exact hg.elim
 | some ad=>
  obtain ⟨v,hv⟩:=hg
  obtain ⟨b,o,sp⟩:=ad
  rw [addr_add0,addr_add0] at hv
  cases sp with
  | none=>exact ⟨b,o,rfl⟩
  | some s=>
   unfold cellH at hv
   split at hv
   ·simp at hv
   ·cases hv
theorem it56 (h0:Heap) (A Bs Bl ln lc l:Nat) (la:Option Addr) (X:List Itm) (L:List (Bool×List Int)) (F0:Fm) (w0:World) (Rc:Heap->Prop) (Fin:World->Prop)
  (hL:RdLs h0 la ln L) (hlen:ln≤16384) (hE:lnsF L=0) (hb0:Bd F0) (hF0:F0.cls.length≤600000)
  (hXs:(⟨1,some ⟨Bs,0,none⟩,1,1,[.pointer (some ⟨A,0,none⟩)]⟩:Itm)∈X) (hXl:(⟨1,some ⟨Bl,0,none⟩,1,1,[.slice la ln lc]⟩:Itm)∈X)
  (hRc:∀ h h',Rc h->(∀ (b:Nat) (o:Obj),h[b]?=some o->o.isCells=false->h'[b]?=some o)->Rc h')
  (hY:∀ (i:Nat) (x:Bool×List Int) (e:Int) (F1 F2:Fm) (v:FV) (X':List Itm) (W:World),L[i]?=some x->Stp L i F0 F1->DoR F1 x e F2->StM h0 W.heap A v F2 (X'++X)->Rc W.heap->Same w0 W ->
   YieldAt Fence.wide 0 Try.prog l #[.int .i64 (i:Int),.int .i64 e] W fun o W'=>(o=.returned (.bool true)/\W'=W/\e=0/\x≠(false,[]))∨(o=.returned (.bool false)/\Fin W'))
  (W:World) (v0:FV) (hS:StM h0 W.heap A v0 F0 X) (hR:Rc W.heap) (hw:Same w0 W) :
  CallsIn Fence.wide 1 Try.prog 56 #[.func (.yield l) #[] #[],.pointer (some ⟨Bl,0,none⟩),.pointer (some ⟨Bs,0,none⟩)] W fun e W'=>(∃ v,e=.returned v) /\
   ((∃ F1 v X',Stp L ln F0 F1/\StM h0 W'.heap A v F1 (X'++X)/\Rc W'.heap/\Same w0 W')∨Fin W'):=by
 refine callsIn_of_wp Try.func56 rfl trivial ?_ rfl
 simp only [Try.ntmps56,List.size_toArray,List.length_cons,List.length_nil,Nat.reduceAdd,Nat.reduceSub,Array.replicate_succ,Array.replicate_zero,List.push_toArray,List.append_toArray,List.nil_append,List.cons_append]
 have hcl:W.cell? ⟨Bl,0,none⟩=some (.slice la ln lc):=by
  have:=(hS.item hXl).rd.fld 0 rfl;rwa [addr_add0] at this
 gi_wp2
 gi_loopw [8] (fun i wr=>∃ (k:Nat) (F1:Fm) (v:FV) (X':List Itm),k≤ln/\i=.int .i64 k/\Stp L k F0 F1/\StM h0 wr.heap A v F1 (X'++X)/\Rc wr.heap/\Same w0 wr/\Bd F1/\F1.cls.length≤600000+k)
  (fun i _=>ln-(intOf i).toNat)
 case atStart=>exact ⟨0,F0,v0,[],Nat.zero_le _,rfl,.nil F0,hS,hR,hw,hb0,hF0⟩
 case round=>
  obtain ⟨k,F1,v,X',hk,rfl,hst,hm,hrc,hsm,hbd,hn⟩:=hrel
  by_cases hlt:k<ln
  ·obtain ⟨ab,ao,rfl⟩:=rdls_spot hL (by omega)
   have hkL:k<L.length:=by rw [hL.len];exact hlt
   obtain ⟨x,hx⟩:∃ x:Ln,L[k]=(x.g,x.s.l)/\Rd h0 (some ((⟨ab,ao,none⟩:Addr).add (k*2))) 2 x.cs/\Rd h0 x.s.a x.s.n (ints x.s.l)/\x.s.n≤x.s.c:=hL.get (i:=k) hlt (K:=fun ad=>ad=⟨ab,ao,none⟩->∃ x:Ln,L[k]=(x.g,x.s.l)/\Rd h0 (some (ad.add (k*2))) 2 x.cs/\Rd h0 x.s.a x.s.n (ints x.s.l)/\x.s.n≤x.s.c) (fun ad hl x h1 h2 h3 h4 _=>⟨x,h4,h1,h2,h3⟩) rfl
   obtain ⟨g,⟨sa,sn,sc,sl⟩⟩:=x
   obtain ⟨hx,hr2,hrs,hsc⟩:=hx
   simp only at hx hrs hsc
   have hr2':=hr2.ext hm.mem
   have hc0:wr.cell? ⟨ab,ao+k*2,none⟩=some (.bool g):=by have:=hr2'.fld 0 rfl;rwa [adn,adn] at this
   have hc1:wr.cell? ⟨ab,ao+k*2+1,none⟩=some (.slice sa sn sc):=by have:=hr2'.fld 1 rfl;rwa [adn,adn] at this
   obtain ⟨W1,hW1⟩:∃ W1,wr.alloc (Obj.cells #[Value.bool g,Value.slice sa sn sc] 39)=W1:=⟨_,rfl⟩
   let bx:Itm:=⟨1,some ⟨wr.heap.size,0,none⟩,2,2,[.bool g,.slice sa sn sc]⟩
   have hWh:W1.heap=wr.heap.push (.cells #[.bool g,.slice sa sn sc] 39):=by rw [<- hW1];rfl
   have hfx:bx.Fr wr.heap W1.heap:=by rw [hWh];exact Fr.lit (.refl _) [.bool g,.slice sa sn sc] 39 2 rfl
   have hm1:StM h0 W1.heap A v F1 (bx::(X'++X)):=hm.put (t:=bx) hfx
   have hcs:W1.cell? ⟨Bs,0,none⟩=some (.pointer (some ⟨A,0,none⟩)):=by
    have:=(hm1.item (t:=⟨1,some ⟨Bs,0,none⟩,1,1,[.pointer (some ⟨A,0,none⟩)]⟩) (by simp [hXs])).rd.fld 0 rfl;rwa [addr_add0] at this
   have hb0:W1.cell? ⟨wr.heap.size,0,none⟩=some (.bool g):=by
    have:=(hm1.item (t:=bx) (by simp)).rd.fld 0 rfl;rwa [addr_add0] at this
   have hb1:W1.cell? ⟨wr.heap.size,1,none⟩=some (.slice sa sn sc):=(hm1.item (t:=bx) (by simp)).rd.fld 1 rfl
   have hsm1:Same w0 W1:=hsm.trans (by rw [<- hW1];exact same_push wr _)
   have hrc1:Rc W1.heap:=hRc _ _ hrc fun b o hb ho=>by rw [hWh,Array.getElem?_push,if_neg (Nat.ne_of_lt (Array.getElem?_eq_some_iff.1 hb).1)];exact hb
   have hlx:litE 262144 sl=0:=by have:=lnsF_ok hE _ (List.getElem_mem hkL);rw [hx] at this;exact this
   have hcall:=c57 (n:=sn) (c:=sc) hm1 hbd (by omega) (g:=g) hrs hlx W1 rfl
   have hlk:L[k]?=some (g,sl):=by rw [List.getElem?_eq_getElem hkL,hx]
   have hnext:∀ (e:Int) (v2:FV) (F2:Fm) (W2:World),Same W1 W2->DoR F1 (g,sl) e F2->StM h0 W2.heap A v2 F2 (bx::(X'++X))->Upd (fun i=>i=A∨Hx.atb v.s.a i) W1.heap W2.heap ->
     W2.cell? ⟨wr.heap.size,0,none⟩=some (.bool g)/\W2.cell? ⟨wr.heap.size,1,none⟩=some (.slice sa sn sc)/\Rc W2.heap /\
     YieldAt Fence.wide 0 Try.prog l #[.int .i64 (k:Int),.int .i64 e] W2 fun o W'=>(o=.returned (.bool true)/\W'=W2/\e=0/\(g,sl)≠(false,[]))∨(o=.returned (.bool false)/\Fin W'):=fun e v2 F2 W2 hs2 hd2 hm2 hu2=>by
    have hrc2:Rc W2.heap:=hRc _ _ hrc1 fun b o hb ho=>by
     have hbl:=(Array.getElem?_eq_some_iff.1 hb).1
     rw [hu2.2 b hbl fun hh=>?_]
     ·exact hb
     ·have hcell:∃ ob:Obj,W1.heap[b]?=some ob/\ob.isCells=true:=by
       obtain ⟨_,R,inner,_,m,_⟩:=hm1
       rcases hh with rfl | ⟨ad,ha,rfl⟩
       ·obtain ⟨_,cs,ee,fr,hq,_⟩:=(m.get 0 rfl).own.mem
        exact ⟨_,hq,rfl⟩
       ·have f1:=m.get 1 rfl
        rw [ha] at f1
        obtain ⟨_,cs,ee,fr,hq,_⟩:=f1.own.mem
        exact ⟨_,hq,rfl⟩
      obtain ⟨ob,h1,h2⟩:=hcell
      rw [h1] at hb;cases hb;rw [h2] at ho;cases ho
    refine ⟨?_,(hm2.item (t:=bx) (by simp)).rd.fld 1 rfl,hrc2,hY k (g,sl) e F1 F2 v2 (bx::X') W2 hlk hst hd2 hm2 hrc2 (hsm1.trans hs2)⟩
    have:=(hm2.item (t:=bx) (by simp)).rd.fld 0 rfl;rwa [addr_add0] at this
   subst hW1
   gi_wp2_with (refine ⟨trivial,?_⟩;gi_at_call 57;refine (callsIn_wide.2 hcall).mono ?_;rintro o W2 ⟨o2,rfl,hsm2,e,v2,F2,rfl,hdo,hm2,hup⟩;obtain ⟨hbx0,hbx1,hrc2,fn,tmps,assign,body,hy,hR⟩:=hnext e v2 F2 W2 hsm2 hdo hm2 hup)
   refine hR.mono ?_
   have hbd2:=hdo.bd hbd hlx
   have hsm3:Same w0 W2:=hsm1.trans hsm2
   rintro o W3 (⟨rfl,rfl,rfl,hne⟩ | ⟨rfl,hfin⟩)
   ·cases g with
    | true=>
     gi_wp2
     go_roundw
     case rel=>exact ⟨k+1,F2,v2,bx::X',by omega,by simp,.snoc hst hlk hdo hne,hm2,hrc2,hsm3,hbd2.1,by have:=hbd2.2;omega⟩
     case measure=>simp [intOf];omega
    | false=>
     have hsn:sn≠0:=fun h0=>hne (by have:=hrs.ilen;rw [show sl=[] from List.length_eq_zero_iff.1 (by omega)])
     gi_wp2
     go_roundw
     case rel=>exact ⟨k+1,F2,v2,bx::X',by omega,by simp,.snoc hst hlk hdo hne,hm2,hrc2,hsm3,hbd2.1,by have:=hbd2.2;omega⟩
     case measure=>simp [intOf];omega
   ·gi_wp2
    all_goals first
     | exact (und (by assumption)).elim
     | (refine bodyPost_ret (results_none rfl _ _ _) rfl ?_;exact ⟨⟨_,rfl⟩,.inr hfin⟩)
  ·obtain rfl:k=ln:=by omega
   gi_wp2
   go_end0
   exact ⟨⟨_,rfl⟩,.inl ⟨F1,v,X',hst,hm,hrc,hsm⟩⟩
end Go.Proofs.Ytobageabpfkpcaa
