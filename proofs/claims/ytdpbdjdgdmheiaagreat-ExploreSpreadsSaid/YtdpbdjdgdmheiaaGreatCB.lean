/- Words and facts that the claim's proof leans on. No condition. -/
import Derived.Test.YtdpbdjdgdmheiaaGreatCS
import Derived.Test.YtdpbdjdgdmheiaaGreatCAa
set_option linter.unusedVariables false
set_option linter.unusedSimpArgs false
namespace Go.Proofs.YtdpbdjdgdmheiaaGreat
open Go.Hx
theorem c182 {a:Option Addr} {n c:Nat} {L:List (List Int)} {h:Heap} (r:RdRs h a n L) (hn:n≤16384) (hl:∀ x∈L,x.length≤17592186044416) :
  CallsH Tryz.prog 182 #[.slice a n c] h (Ret (.int .i64 ((L.map List.length).sum:Nat)) h):=by
 have hlen:=r.len
 have hb:∀ k≤L.length,((L.take k).map List.length).sum≤k*17592186044416:=by
  intro k hk
  induction k with
  | zero=>simp
  | succ k ih=>
   rw [List.take_succ_eq_append_getElem (by omega),List.map_append,List.sum_append]
   have:=ih (by omega)
   have:=hl _ (List.getElem_mem (show k<L.length by omega))
   simp only [List.map_cons,List.map_nil,List.sum_cons,List.sum_nil,Nat.add_zero]
   omega
 refine run182 a n c _ h (LoopT.to2 (n:=n) (by omega) (fun i s h'=>h'=h/\s=(((L.take i).map List.length).sum:Nat)) ⟨rfl,by simp⟩ ?_)
 rintro i _ _ K hi ⟨rfl,rfl⟩ hK
 dsimp only
 refine ⟨fun hlt=>?_,fun hlt=>?_⟩
 ·refine ⟨by omega,hlt,r.get (i:=i) (by omega) fun ad hl1 s hc hr _ hs hsn=>⟨_,_,_,hc,?_⟩⟩
  have e1:=hb (i+1) (by omega)
  rw [List.take_succ_eq_append_getElem (by omega),List.map_append,List.sum_append] at e1
  simp only [List.map_cons,List.map_nil,List.sum_cons,List.sum_nil,Nat.add_zero,<- hsn] at e1
  rw [w64 (x:=(((L.take i).map List.length).sum:Nat)+(s.n:Int)) (by omega) (by omega)]
  refine hK _ _ (by omega) ⟨rfl,?_⟩
  rw [List.take_succ_eq_append_getElem (by omega),List.map_append,List.sum_append]
  simp [hsn]
 ·have:i=n:=by omega
  subst this
  rw [List.take_of_length_le (by omega)]
  exact ⟨rfl,rfl⟩
theorem ten {P:Nat->Prop} {i:Nat} (hi:i<10) (h0:P 0) (h1:P 1) (h2:P 2) (h3:P 3) (h4:P 4) (h5:P 5) (h6:P 6) (h7:P 7) (h8:P 8) (h9:P 9):P i:=by
 match i,hi with
 | 0,_=>exact h0
 | 1,_=>exact h1
 | 2,_=>exact h2
 | 3,_=>exact h3
 | 4,_=>exact h4
 | 5,_=>exact h5
 | 6,_=>exact h6
 | 7,_=>exact h7
 | 8,_=>exact h8
 | 9,_=>exact h9
theorem c170 {v:CV} {C:Circ} {h:Heap} (r:CIs h v C) (ok:C.Ok):CallsH Tryz.prog 170 #[v.v] h (Xt (.int .i64 (sizeE C)) h):=by
 refine run170 v _ h ?_
 have hb:=boxC (h:=h) v 29
 have hu:=Ext.box h (.cells (Value.cells v.v) 29)
 have hl:=r.len
 have hm:=r.mx
 unfold VC170
 intro h1
 refine ⟨v.mx,hb.fld 0 rfl,fun h2=>⟨?_,hu⟩,fun h2=>⟨v.mx,hb.fld 0 rfl,fun h3=>⟨?_,hu⟩,fun h3=>?_⟩⟩
 ·rw [sizeE,if_pos (.inl (by omega))]
 ·rw [sizeE,if_pos (.inr (by omega))]
 have hs2:Big C->sizeE C=2:=sizeE_two (by omega)
 have hs0:¬ Big C->sizeE C=0:=sizeE_ok (by omega)
 refine ⟨_,_,_,hb.fld 1 rfl,_,_,_,hb.fld 2 rfl,_,_,_,hb.fld 3 rfl,_,_,_,hb.fld 4 rfl,_,_,_,hb.fld 5 rfl,_,_,_,hb.fld 6 rfl,_,_,_,hb.fld 7 rfl,_,_,_,hb.fld 8 rfl,_,_,_,hb.fld 9 rfl,_,_,_,hb.fld 10 rfl,?_⟩
 let ns:List Nat:=[v.i.n,v.l.n,v.o.n,v.b.n,v.c.n,v.j.n,v.f.n,v.g.n,v.s.n,v.m.n]
 refine LoopT.to (n:=10) (by omega) (fun i h'=>h'=h1/\∀ k (hk:k<ns.length),k<i->ns[k]≤16384) ⟨rfl,fun k _ hk=>by omega⟩ ?_
 rintro i _ K hi ⟨rfl,hle⟩ hK
 refine ⟨fun hlt=>?_,fun hlt=>?_⟩
 ·have hi2:i<ns.length:=by show i<10;omega
  refine ⟨by omega,hlt,(ns[i]:Nat),?_,fun hgt=>⟨?_,hu⟩,fun hgt=>hK _ (by omega) ⟨rfl,fun k hk hki=>?_⟩⟩
  ·rw [Int.toNat_natCast]
   exact map_at (f:=fun n:Nat=>Value.int .i64 (n:Int)) (l:=ns) hi2
  ·rw [hs2]
   have:∀ i (hi:i<ns.length),16384<ns[i]->Big C:=by
    intro i hi
    refine ten (P:=fun i=>∀ hi2:i<ns.length,16384<ns[i]->Big C) (by exact hi) ?_ ?_ ?_ ?_ ?_ ?_ ?_ ?_ ?_ ?_ hi
    ·intro _ hh;exact .inl (by rw [hl.i];exact hh)
    ·intro _ hh;exact .inr (.inl (by rw [hl.l];exact hh))
    ·intro _ hh;exact .inr (.inr (.inl (by rw [hl.o];exact hh)))
    ·intro _ hh;exact .inr (.inr (.inr (.inl (by rw [hl.b];exact hh))))
    ·intro _ hh;exact .inr (.inr (.inr (.inr (.inl (by rw [hl.c];exact hh)))))
    ·intro _ hh;exact .inr (.inr (.inr (.inr (.inr (.inl (by rw [hl.j];exact hh))))))
    ·intro _ hh;exact .inr (.inr (.inr (.inr (.inr (.inr (.inl (by rw [hl.f];exact hh)))))))
    ·intro _ hh;exact .inr (.inr (.inr (.inr (.inr (.inr (.inr (.inl (by rw [hl.g];exact hh))))))))
    ·intro _ hh;exact .inr (.inr (.inr (.inr (.inr (.inr (.inr (.inr (.inl (by rw [hl.s];exact hh)))))))))
    ·intro _ hh;exact .inr (.inr (.inr (.inr (.inr (.inr (.inr (.inr (.inr (.inl (by rw [hl.m];exact hh))))))))))
   exact this i hi2 (by omega)
  ·rcases Nat.lt_or_ge k i with h4 | h4
   ·exact hle k hk h4
   ·have:k=i:=by omega
    subst this;omega
 ·have:i=10:=by omega
  subst this
  have g:∀ k (hk:k<ns.length),ns[k]≤16384:=fun k hk=>hle k hk hk
  have g0:v.i.n≤16384:=g 0 (by show 0<10;omega)
  have g1:v.l.n≤16384:=g 1 (by show 1<10;omega)
  have g2:v.o.n≤16384:=g 2 (by show 2<10;omega)
  have g3:v.b.n≤16384:=g 3 (by show 3<10;omega)
  have g4:v.c.n≤16384:=g 4 (by show 4<10;omega)
  have g5:v.j.n≤16384:=g 5 (by show 5<10;omega)
  have g6:v.f.n≤16384:=g 6 (by show 6<10;omega)
  have g7:v.g.n≤16384:=g 7 (by show 7<10;omega)
  have g8:v.s.n≤16384:=g 8 (by show 8<10;omega)
  have g9:v.m.n≤16384:=g 9 (by show 9<10;omega)
  have hbig:Big C↔16384<(C.just.map List.length).sum:=by
   unfold Big
   rw [hl.i,hl.l,hl.o,hl.b,hl.c,hl.j,hl.f,hl.g,hl.s,hl.m]
   omega
  refine ⟨_,_,_,hb.fld 6 rfl,use (c182 (r.j.ext hu) g5 fun x hx=>(ok.just x hx).2) ⟨_,rfl,fun hgt=>⟨?_,hu⟩,fun hgt=>⟨?_,hu⟩⟩⟩
  ·rw [hs2 (hbig.2 (by omega))]
  ·rw [hs0 (by rw [hbig];omega)]
theorem c131 {v:CV} {C:Circ} {h:Heap} (r:CIs h v C) (ok:C.Ok):CallsH Tryz.prog 131 #[v.v] h (Xt (.int .i64 (sizeE C)) h):=by
 refine run131 v _ h ?_
 have hb:=boxC (h:=h) v 29
 have hu:=Ext.box h (.cells (Value.cells v.v) 29)
 have hl:=r.len
 have hm:=r.mx
 unfold VC131
 intro h1
 refine ⟨v.mx,hb.fld 0 rfl,fun h2=>⟨?_,hu⟩,fun h2=>⟨v.mx,hb.fld 0 rfl,fun h3=>⟨?_,hu⟩,fun h3=>?_⟩⟩
 ·rw [sizeE,if_pos (.inl (by omega))]
 ·rw [sizeE,if_pos (.inr (by omega))]
 have hs2:Big C->sizeE C=2:=sizeE_two (by omega)
 have hs0:¬ Big C->sizeE C=0:=sizeE_ok (by omega)
 have rj:RdRs h1 v.j.a v.j.n C.just:=r.j.ext hu
 have hjl:=hl.j
 have hsum:∀ k≤C.just.length,k≤16385->((C.just.take k).map List.length).sum≤k*17592186044416:=by
  intro k hk _
  induction k with
  | zero=>simp
  | succ k ih=>
   rw [List.take_succ_eq_append_getElem (by omega),List.map_append,List.sum_append]
   have:=ih (by omega) (by omega)
   have:=(ok.just _ (List.getElem_mem (show k<C.just.length by omega))).2
   simp only [List.map_cons,List.map_nil,List.sum_cons,List.sum_nil,Nat.add_zero]
   omega
 have key:∀ (s:Int) (h':Heap),h'=h1->((16384<C.just.length)∨s=((C.just.map List.length).sum:Nat))->J131_1 (Xt (.int .i64 (sizeE C)) h) h s h':=by
  rintro s _ rfl hor
  have big:=hs2
  have i:=hl.i;have l:=hl.l;have o:=hl.o;have b:=hl.b;have c:=hl.c;have j:=hl.j;have f:=hl.f;have g:=hl.g;have s':=hl.s;have m:=hl.m
  refine ⟨_,_,_,hb.fld 1 rfl,fun hh=>⟨?_,hu⟩,fun g0=>⟨_,_,_,hb.fld 2 rfl,fun hh=>⟨?_,hu⟩,fun g1=>⟨_,_,_,hb.fld 3 rfl,fun hh=>⟨?_,hu⟩,fun g2=>⟨_,_,_,hb.fld 4 rfl,fun hh=>⟨?_,hu⟩,fun g3=>⟨_,_,_,hb.fld 5 rfl,fun hh=>⟨?_,hu⟩,fun g4=>
   ⟨_,_,_,hb.fld 6 rfl,fun hh=>⟨?_,hu⟩,fun g5=>⟨_,_,_,hb.fld 7 rfl,fun hh=>⟨?_,hu⟩,fun g6=>⟨_,_,_,hb.fld 8 rfl,fun hh=>⟨?_,hu⟩,fun g7=>⟨_,_,_,hb.fld 9 rfl,fun hh=>⟨?_,hu⟩,fun g8=>⟨_,_,_,hb.fld 10 rfl,fun hh=>⟨?_,hu⟩,fun g9=>⟨fun hh=>⟨?_,hu⟩,fun hh=>⟨?_,hu⟩⟩⟩⟩⟩⟩⟩⟩⟩⟩⟩⟩
  iterate 11 (rw [big (by unfold Big;omega)])
  rw [hs0 (by unfold Big;omega)]
 refine LoopT.to2 (n:=v.j.n) (by have:=ok.n;omega) (fun i s h'=>h'=h1/\i≤16385/\s=(((C.just.take i).map List.length).sum:Nat)) ⟨rfl,by omega,by simp⟩ ?_
 rintro i _ _ K hi ⟨rfl,hi2,rfl⟩ hK
 dsimp only
 refine ⟨_,_,_,hb.fld 6 rfl,fun hlt=>⟨fun hle=>?_,fun hle=>?_⟩,fun hlt=>?_⟩
 ·refine ⟨_,_,_,hb.fld 6 rfl,by omega,hlt,rj.get (i:=i) (by omega) fun ad hl1 s hc hr _ hs2 hsn=>?_⟩
  refine ⟨_,_,_,hc,?_⟩
  have e1:=hsum (i+1) (by omega) (by omega)
  rw [List.take_succ_eq_append_getElem (by omega),List.map_append,List.sum_append] at e1
  simp only [List.map_cons,List.map_nil,List.sum_cons,List.sum_nil,Nat.add_zero,<- hsn] at e1
  rw [w64 (x:=(((C.just.take i).map List.length).sum:Nat)+(s.n:Int)) (by omega) (by omega)]
  refine hK _ _ (by omega) ⟨rfl,by omega,?_⟩
  rw [List.take_succ_eq_append_getElem (by omega),List.map_append,List.sum_append]
  simp [hsn]
 ·skip
  exact key _ _ rfl (.inl (by omega))
 ·have:i=v.j.n:=by omega
  subst this
  rw [List.take_of_length_le (by omega)]
  exact key _ _ rfl (.inr rfl)
end Go.Proofs.YtdpbdjdgdmheiaaGreat
namespace Go.Proofs.YtdpbdjdgdmheiaaGreat
open Go.Hx
theorem half (l:Int):l / ((2 ^ 1:Nat):Int)=l / 2:=rfl
theorem bl1 {l:Int} (h2:2≤l) (h:W64 l):(bop .and .i64 l 1=1)↔l % 2=1:=by rw [and_one (by omega) h.2]
theorem getD_at {B:List Mk} {i:Nat} (h:i<B.length):B.getD i (0,0)=B[i]:=by rw [List.getD_eq_getElem?_getD,List.getElem?_eq_getElem h];rfl
theorem put1_len (B:List Mk) (l k i:Int):(put1 B l k i).length=B.length:=by simp [put1]
theorem cs2_one (p:Mk):∀ v∈cs2 p,v.oneCell'=true:=by simp [cs2,Value.oneCell']
structure MxOk (v:CV) (B:List Mk):Prop where
 lo:0≤v.mx
 hi:v.mx≤16384
 len:B.length=(v.mx+1).toNat
theorem MxOk.put {v:CV} {B:List Mk} (m:MxOk v B) (l k i:Int):MxOk v (put1 B l k i):=⟨m.lo,m.hi,by rw [put1_len];exact m.len⟩
theorem c183 {h0 h:Heap} {k:Addr} {v:CV} {b:Addr} {B:List Mk} (L:Lk h0 h k v b B) (m:MxOk v B) {l:Int} (hl:W64 l) (kd i:Int) :
  CallsH Tryz.prog 183 #[.pointer (some k),.int .i64 l,.agg #[.int .i64 kd,.int .i64 i]] h fun r h'=>r=.int .i64 (mk1 v.mx B l)/\Lk h0 h' k v b (if mk1 v.mx B l=0 then put1 B l kd i else B)/\Upd (fun i=>i=b.block) h h':=by
 refine run183 (some k) l kd i _ h ?_
 unfold VC183
 intro h1
 have hu:Ext h h1:=Ext.box h _
 have L1:=L.upd hu
 have hbx:Rd h1 (some ⟨h.size,0,none⟩) 2 [.int .i64 kd,.int .i64 i]:=(Fr.lit (.refl h) [.int .i64 kd,.int .i64 i] 236 2 rfl).rd
 have e30:(l<2∨l % 2=1∨2*v.mx<l)->mk1 v.mx B l=30:=fun hh=>by rw [mk1,if_pos hh]
 have fin30:mk1 v.mx B l=30->(Value.int .i64 30=.int .i64 (mk1 v.mx B l)/\Lk h0 h1 k v b (if mk1 v.mx B l=0 then put1 B l kd i else B)/\Upd (fun i=>i=b.block) h h1):=fun e=>by
  rw [e,if_neg (by omega)];exact ⟨rfl,L1,Upd.wide hu⟩
 refine ⟨fun h2=>fin30 (e30 (.inl h2)),fun h2=>⟨fun h3=>fin30 (e30 (.inr (.inl ((bl1 (by omega) hl).1 h3)))),fun h3=>⟨v.mx,L1.fld0 0 rfl,fun h4=>?_,fun h4=>?_⟩⟩⟩
 ·rw [w64 (by have:=m.lo;have:=m.hi;omega) (by have:=m.lo;have:=m.hi;omega)] at h4
  exact fin30 (e30 (.inr (.inr h4)))
 rw [w64 (by have:=m.lo;have:=m.hi;omega) (by have:=m.lo;have:=m.hi;omega)] at h4
 have hm:=m.len
 have hlo:=m.lo
 have hn:¬ (l<2∨l % 2=1∨2*v.mx<l):=by
  rintro (hh | hh | hh)
  ·exact h2 hh
  ·exact h3 ((bl1 (by omega) hl).2 hh)
  ·exact h4 hh
 have hi:(l / 2).toNat<B.length:=by omega
 have hat:=L1.at_ hi
 have hmk:mk1 v.mx B l=if (B[(l / 2).toNat]).1=0 then 0 else 31:=by rw [mk1,if_neg hn,getD_at hi]
 refine ⟨_,_,_,L1.fld 11 rfl,by show 0≤l / 2;omega,by show l / 2<_;omega,_,hat.fld 0 rfl,fun h5=>?_,fun h5=>?_⟩
 ·rw [if_pos h5] at hmk
  refine ⟨_,_,_,L1.fld 11 rfl,_,_,hbx.cells,by show 0≤l / 2;omega,by show l / 2<_;omega,?_⟩
  refine L1.fr.setE cs2l (by omega) cs2_one (j:=(l / 2).toNat) hi (kd,i) fun h' u f'=>⟨by rw [hmk],?_,(Upd.wide hu).trans u⟩
  rw [hmk,if_pos rfl]
  have hne:∀ ad,some k=some ad->¬ ad.block=b.block:=fun ad e=>by cases e;exact fun e=>L.ne e.symm
  refine ⟨f'.ext.mono fun _ _ h=>h,L.new,?_,?_,L.ne⟩
  ·rw [put1_len];exact L1.rd.upd u hne
  ·rw [put1_len];exact f'
 ·rw [if_neg h5] at hmk
  exact ⟨by rw [hmk],by rw [hmk,if_neg (by omega)];exact L1,Upd.wide hu⟩
end Go.Proofs.YtdpbdjdgdmheiaaGreat
namespace Go.Proofs.YtdpbdjdgdmheiaaGreat
open Go.Hx
theorem defG_cons {α:Type} {mx k:Int} {f g:α->Int} {l:List α} {i:Nat} (hi:i<l.length) {B:List Mk} {K:List Mk->DR} :
  defG mx k f g (l.drop i) i B K=if mk1 mx B (f l[i])=0 then (if g l[i]=0 then defG mx k f g (l.drop (i+1)) ((i+1:Nat):Int) (put1 B (f l[i]) k i) K else (i,g l[i],B)) else (i,mk1 mx B (f l[i]),B):=by
 rw [List.drop_eq_getElem_cons hi];rfl
theorem defG_end {α:Type} {mx k:Int} {f g:α->Int} {l:List α} {i:Nat} (hi:l.length≤i) {t:Int} {B:List Mk} {K:List Mk->DR}:defG mx k f g (l.drop i) t B K=K B:=by
 rw [List.drop_of_length_le hi];rfl
def DPost (h0 h:Heap) (k:Addr) (v:CV) (b:Addr) (D:DR) (r:Value) (h':Heap):Prop:=
 r=.tuple #[.int .i64 D.1,.int .i64 D.2.1]/\Ext h0 h'/\Upd (fun i=>i=b.block) h h'/\(D.2.1=0->Lk h0 h' k v b D.2.2/\MxOk v D.2.2)
section
variable {h0 h:Heap} {k:Addr} {v:CV} {b:Addr} {B:List Mk} {C:Circ}
theorem d3 {h3:Heap} {D:DR} (L:Lk h0 h3 k v b B) (m:MxOk v B) (r:CIs h0 v C) (ok:C.Ok) (u:Upd (fun i=>i=b.block) h h3)
  (hD:defG C.mx 3 L3.a (fun _=>0) C.ands 0 B (fun B=>(0,0,B))=D):J171_3 Tryz.prog (DPost h0 h k v b D) (some k) h3:=by
 have hl:=r.len
 have hmx:=r.mx
 refine ⟨_,_,_,L.fld0 8 rfl,LoopT.to (n:=v.g.n) (by have:=ok.n;have:=hl.g;omega) (fun i h'=>∃ B',Lk h0 h' k v b B'/\MxOk v B'/\Upd (fun i=>i=b.block) h h'/\defG C.mx 3 L3.a (fun _=>0) (C.ands.drop i) i B' (fun B=>(0,0,B))=D) ⟨B,L,m,u,hD⟩ ?_⟩
 rintro i h' K hi ⟨B',L',m',u',hD'⟩ hK
 refine ⟨fun hlt=>?_,fun hlt=>?_⟩
 ·refine ⟨by omega,hlt,(r.g.ext L'.ext).elem L3.csl (by omega) (i:=i) (by omega) fun ad hl1 re=>⟨_,_,_,re.cells,box3 C.ands[i] fun h4 e4 b4=>⟨_,b4.fld 0 rfl,?_⟩⟩⟩
  rw [defG_cons hl1] at hD'
  refine (c183 (L'.upd e4) m' (ok.ands _ (List.getElem_mem hl1)).1 3 i).mono ?_
  rintro _ h5 ⟨rfl,L5,u5⟩
  rw [hmx] at L5 ⊢
  have u6:=u'.trans ((Upd.wide e4).trans u5)
  refine ⟨_,rfl,fun he=>?_,fun he=>?_⟩
  ·rw [if_pos he] at hD' L5
   rw [if_pos rfl] at hD'
   exact hK _ (by omega) ⟨_,L5,m'.put _ _ _,u6,hD'⟩
  ·rw [if_neg he] at hD'
   subst hD'
   exact ⟨rfl,L5.ext,u6,fun e=>absurd e he⟩
 ·have:v.g.n≤i:=by omega
  rw [defG_end (by rw [hl.g];exact this)] at hD'
  subst hD'
  exact ⟨rfl,L'.ext,u',fun _=>⟨L',m'⟩⟩
theorem d2 {h2:Heap} {D:DR} (L:Lk h0 h2 k v b B) (m:MxOk v B) (r:CIs h0 v C) (ok:C.Ok) (u:Upd (fun i=>i=b.block) h h2)
  (hD:defG C.mx 2 L3.a rst C.lats 0 B (fun B=>defG C.mx 3 L3.a (fun _=>0) C.ands 0 B (fun B=>(0,0,B)))=D):J171_0 Tryz.prog (DPost h0 h k v b D) (some k) h2:=by
 have hl:=r.len
 have hmx:=r.mx
 refine ⟨_,_,_,L.fld0 2 rfl,LoopT.to (n:=v.l.n) (by have:=ok.n;have:=hl.l;omega) (fun i h'=>∃ B',Lk h0 h' k v b B'/\MxOk v B'/\Upd (fun i=>i=b.block) h h'/\defG C.mx 2 L3.a rst (C.lats.drop i) i B' (fun B=>defG C.mx 3 L3.a (fun _=>0) C.ands 0 B (fun B=>(0,0,B)))=D) ⟨B,L,m,u,hD⟩ ?_⟩
 rintro i h' K hi ⟨B',L',m',u',hD'⟩ hK
 refine ⟨fun hlt=>?_,fun hlt=>?_⟩
 ·refine ⟨by omega,hlt,(r.l.ext L'.ext).elem L3.csl (by omega) (i:=i) (by omega) fun ad hl1 re=>⟨_,_,_,re.cells,box3 C.lats[i] fun h4 e4 b4=>⟨_,b4.fld 0 rfl,?_⟩⟩⟩
  rw [defG_cons hl1] at hD'
  refine (c183 (L'.upd e4) m' (ok.lats _ (List.getElem_mem hl1)).1 2 i).mono ?_
  rintro _ h5 ⟨rfl,L5,u5⟩
  rw [hmx] at L5 ⊢
  have u6:=u'.trans ((Upd.wide e4).trans u5)
  refine ⟨_,rfl,fun he=>?_,fun he=>?_⟩
  ·rw [if_pos he] at hD' L5
   have hbk:h'.size≠b.block:=by
    have:=L'.fr.own.lt
    omega
   have b5:=b4.upd u5 fun ad e=>by cases e;exact hbk
   have next:rst C.lats[i]=0->K (IntKind.wrap .i64 ((i:Int)+1)) h5:=fun hr=>by
    rw [if_pos hr] at hD'
    exact hK _ (by omega) ⟨_,L5,m'.put _ _ _,u6,hD'⟩
   refine ⟨_,b5.fld 2 rfl,fun h7=>next (by rw [rst,if_pos (.inl h7)]),fun h7=>⟨_,b5.fld 2 rfl,fun h8=>next (by rw [rst,if_pos (.inr (.inl h8))]),fun h8=>⟨_,b5.fld 2 rfl,_,b5.fld 0 rfl,fun h9=>next (by rw [rst,if_pos (.inr (.inr h9))]),fun h9=>?_⟩⟩⟩
   have hr:rst C.lats[i]=33:=by rw [rst,if_neg (fun hh=>hh.elim h7 fun hh=>hh.elim h8 h9)]
   rw [hr,if_neg (by omega)] at hD'
   subst hD'
   exact ⟨rfl,L5.ext,u6,fun e=>by simp at e⟩
  ·rw [if_neg he] at hD'
   subst hD'
   exact ⟨rfl,L5.ext,u6,fun e=>absurd e he⟩
 ·have:v.l.n≤i:=by omega
  rw [defG_end (by rw [hl.l];exact this)] at hD'
  exact d3 L' m' r ok u' hD'
theorem c171 (L:Lk h0 h k v b (List.replicate (C.mx+1).toNat (0,0))) (h1:0≤C.mx) (h2:C.mx≤16384) (r:CIs h0 v C) (ok:C.Ok):CallsH Tryz.prog 171 #[.pointer (some k)] h (DPost h0 h k v b (defs C)):=by
 have hl:=r.len
 have hmx:=r.mx
 refine run171 (some k) _ h ⟨_,_,_,L.fld0 1 rfl,LoopT.to (n:=v.i.n) (by have:=ok.n;have:=hl.i;omega) (fun i h'=>∃ B',Lk h0 h' k v b B'/\MxOk v B'/\Upd (fun i=>i=b.block) h h'/\defG C.mx 1 id (fun _=>0) (C.ins.drop i) i B' (fun B=>
  defG C.mx 2 L3.a rst C.lats 0 B fun B=>defG C.mx 3 L3.a (fun _=>0) C.ands 0 B (fun B=>(0,0,B)))=defs C) ⟨_,L,⟨by omega,by omega,by rw [List.length_replicate,hmx]⟩,.refl _,rfl⟩ ?_⟩
 rintro i h' K hi ⟨B',L',m',u',hD'⟩ hK
 refine ⟨fun hlt=>?_,fun hlt=>?_⟩
 ·refine ⟨by omega,hlt,(r.i.ext L'.ext).getn (i:=i) (by omega) fun ad hl1 hc=>⟨_,hc,?_⟩⟩
  rw [defG_cons hl1] at hD'
  refine (c183 L' m' (ok.ins _ (List.getElem_mem hl1)) 1 i).mono ?_
  rintro _ h5 ⟨rfl,L5,u5⟩
  rw [hmx] at L5 ⊢
  refine ⟨_,rfl,fun he=>?_,fun he=>?_⟩
  ·rw [if_pos he] at L5
   rw [show id C.ins[i]=C.ins[i] from rfl,if_pos he,if_pos rfl] at hD'
   exact hK _ (by omega) ⟨_,L5,m'.put _ _ _,u'.trans u5,hD'⟩
  ·rw [show id C.ins[i]=C.ins[i] from rfl,if_neg he] at hD'
   rw [<- hD']
   exact ⟨rfl,L5.ext,u'.trans u5,fun e=>absurd e he⟩
 ·have:v.i.n≤i:=by omega
  rw [defG_end (by rw [hl.i];exact this)] at hD'
  exact d2 L' m' r ok u' hD'
end
end Go.Proofs.YtdpbdjdgdmheiaaGreat
namespace Go.Proofs.YtdpbdjdgdmheiaaGreat
open Go.Hx
theorem firstE_cons {α:Type} {f:α->Int} {l:List α} {i:Nat} (hi:i<l.length) {z:Int×Int}:firstE f (l.drop i) i z=if f l[i]=0 then firstE f (l.drop (i+1)) ((i+1:Nat):Int) z else (i,f l[i]):=by
 rw [List.drop_eq_getElem_cons hi];rfl
theorem firstE_end {α:Type} {f:α->Int} {l:List α} {i:Nat} (hi:l.length≤i) {t:Int} {z:Int×Int}:firstE f (l.drop i) t z=z:=by
 rw [List.drop_of_length_le hi];rfl
theorem usL_one (mx:Int) (B:List Mk) (x:Int):usL mx B [x]=us1 mx B x:=by
 simp only [usL,firstE]
 split <;> simp_all
section
variable {h0 h:Heap} {k:Addr} {v:CV} {b:Addr} {B:List Mk} {C:Circ}
theorem c184 (L:Lk h0 h k v b B) (m:MxOk v B) {a:Option Addr} {n c:Nat} {l:List Int} (r:Rd h a n (ints l)) (hl:∀ x∈l,W64 x) (hn:n≤17592186044416) :
  CallsH Tryz.prog 184 #[.pointer (some k),.slice a n c] h (Ret (.int .i64 (usL v.mx B l)) h):=by
 have hlen:=r.ilen
 have hlo:=m.lo
 have hhi:=m.hi
 have hm:=m.len
 refine run184 (some k) a n c _ h (LoopT.to (n:=n) (by omega) (fun i h'=>h'=h/\(firstE (us1 v.mx B) (l.drop i) i (0,0)).2=usL v.mx B l) ⟨rfl,rfl⟩ ?_)
 rintro i _ K hi ⟨rfl,hE⟩ hK
 rename_i h
 refine ⟨fun hlt=>?_,fun hlt=>?_⟩
 ·refine ⟨by omega,hlt,r.getn (i:=i) (by omega) fun ad hl1 hc=>⟨_,hc,?_⟩⟩
  rw [firstE_cons hl1] at hE
  have hw:=hl _ (List.getElem_mem hl1)
  have bad:∀ e,e≠0->us1 v.mx B l[i]=e->Ret (.int .i64 (usL v.mx B l)) h (.int .i64 e) h:=fun e he hus=>by
   rw [if_neg (by rw [hus];exact he),hus] at hE
   exact ⟨by rw [<- hE],rfl⟩
  have good:us1 v.mx B l[i]=0->K (IntKind.wrap .i64 ((i:Int)+1)) h:=fun hus=>by
   rw [if_pos hus] at hE
   exact hK _ (by omega) ⟨rfl,hE⟩
  refine ⟨fun h1=>bad 30 (by omega) (by rw [us1,if_pos (.inl h1)]),fun h1=>⟨v.mx,L.fld0 0 rfl,?_⟩⟩
  rw [w64 (x:=2*v.mx) (by omega) (by omega),w64 (x:=2*v.mx+1) (by omega) (by omega)]
  refine ⟨fun h2=>bad 30 (by omega) (by rw [us1,if_pos (.inr h2)]),fun h2=>?_⟩
  have hus:us1 v.mx B l[i]=if 1<l[i]/\(B.getD (l[i] / 2).toNat (0,0)).1=0 then 32 else 0:=by rw [us1,if_neg (by omega)]
  refine ⟨fun h3=>?_,fun h3=>good (by rw [hus,if_neg (fun hh=>h3 hh.1)])⟩
  have hi2:(l[i] / 2).toNat<B.length:=by omega
  refine ⟨_,_,_,L.fld 11 rfl,by show 0≤l[i] / 2;omega,by show l[i] / 2<_;omega,_,(L.at_ hi2).fld 0 rfl,fun h4=>bad 32 (by omega) (by rw [hus,if_pos ⟨h3,by rw [getD_at hi2];exact h4⟩]),fun h4=>good (by rw [hus,if_neg (fun hh=>h4 (by rw [getD_at hi2] at hh;exact hh.2))])⟩
 ·have:n≤i:=by omega
  rw [firstE_end (by omega)] at hE
  exact ⟨by rw [<- hE],rfl⟩
theorem use1 (L:Lk h0 h k v b B) (m:MxOk v B) {x:Int} (hx:W64 x) {e:TypeId} {R:Value->Heap->Prop} (hR:∀ h',Ext h h'->R (.int .i64 (us1 v.mx B x)) h') :
  CallsH Tryz.prog 184 #[.pointer (some k),.slice (some ⟨h.size,0,none⟩) 1 1] (h.push (.cells #[.int .i64 x] e)) R:=by
 have f:=Fr.lit (.refl h) (ints [x]) e 1 rfl
 refine use (c184 (L.upd f.ext) m (l:=[x]) f.rd (by simpa using hx) (by omega)) ?_
 rw [usL_one]
 exact hR _ f.ext
def UPost (h:Heap) (U:Int×Int) (r:Value) (h':Heap):Prop:=r=.tuple #[.int .i64 U.1,.int .i64 U.2]/\Ext h h'
theorem u5 {h1:Heap} {U:Int×Int} (L:Lk h0 h1 k v b B) (m:MxOk v B) (r:CIs h0 v C) (ok:C.Ok) (u:Ext h h1)
  (hU:firstE (fun x=>usL C.mx B [x.b,x.c]) C.ands 0 (0,0)=U):J172_13 Tryz.prog (UPost h U) (some k) h1:=by
 have hl:=r.len
 have hmx:=r.mx
 refine ⟨_,_,_,L.fld0 8 rfl,LoopT.to (n:=v.g.n) (by have:=ok.n;have:=hl.g;omega) (fun i h'=>Lk h0 h' k v b B/\Ext h h'/\firstE (fun x=>usL C.mx B [x.b,x.c]) (C.ands.drop i) i (0,0)=U) ⟨L,u,hU⟩ ?_⟩
 rintro i h' K hi ⟨L',u',hU'⟩ hK
 refine ⟨fun hlt=>?_,fun hlt=>?_⟩
 ·refine ⟨by omega,hlt,(r.g.ext L'.ext).elem L3.csl (by omega) (i:=i) (by omega) fun ad hl1 re=>⟨_,_,_,re.cells,box3 C.ands[i] fun h4 e4 b4=>⟨_,b4.fld 1 rfl,_,b4.fld 2 rfl,?_⟩⟩⟩
  rw [firstE_cons hl1] at hU'
  have hw:=ok.ands _ (List.getElem_mem hl1)
  have f:=Fr.lit (.refl h4) (ints [C.ands[i].b,C.ands[i].c]) 3 2 rfl
  refine use (c184 ((L'.upd e4).upd f.ext) m (l:=[C.ands[i].b,C.ands[i].c]) f.rd (by simpa using ⟨hw.2.1,hw.2.2⟩) (by omega)) ⟨_,rfl,?_⟩
  rw [hmx]
  have ue:=u'.trans (e4.trans f.ext)
  refine ⟨fun he=>?_,fun he=>?_⟩
  ·rw [if_pos he] at hU'
   exact hK _ (by omega) ⟨(L'.upd e4).upd f.ext,ue,hU'⟩
  ·rw [if_neg he] at hU'
   subst hU'
   exact ⟨rfl,ue⟩
 ·rw [firstE_end (by have:=hl.g;omega)] at hU'
  subst hU'
  exact ⟨rfl,u'⟩
theorem u4 {h1:Heap} {U:Int×Int} (L:Lk h0 h1 k v b B) (m:MxOk v B) (r:CIs h0 v C) (ok:C.Ok) (u:Ext h h1)
  (hU:firstE (us1 C.mx B) C.fair 0 (firstE (fun x=>usL C.mx B [x.b,x.c]) C.ands 0 (0,0))=U):J172_10 Tryz.prog (UPost h U) (some k) h1:=by
 have hl:=r.len
 have hmx:=r.mx
 refine ⟨_,_,_,L.fld0 7 rfl,LoopT.to (n:=v.f.n) (by have:=ok.n;have:=hl.f;omega) (fun i h'=>Lk h0 h' k v b B/\Ext h h'/\firstE (us1 C.mx B) (C.fair.drop i) i (firstE (fun x=>usL C.mx B [x.b,x.c]) C.ands 0 (0,0))=U) ⟨L,u,hU⟩ ?_⟩
 rintro i h' K hi ⟨L',u',hU'⟩ hK
 refine ⟨fun hlt=>?_,fun hlt=>?_⟩
 ·refine ⟨by omega,hlt,(r.f.ext L'.ext).getn (i:=i) (by omega) fun ad hl1 hc=>⟨_,hc,use1 L' m (ok.fair _ (List.getElem_mem hl1)) fun h5 e5=>⟨_,rfl,?_⟩⟩⟩
  rw [firstE_cons hl1] at hU'
  rw [hmx]
  refine ⟨fun he=>?_,fun he=>?_⟩
  ·rw [if_pos he] at hU'
   exact hK _ (by omega) ⟨L'.upd e5,u'.trans e5,hU'⟩
  ·rw [if_neg he] at hU'
   subst hU'
   exact ⟨rfl,u'.trans e5⟩
 ·rw [firstE_end (by have:=hl.f;omega)] at hU'
  exact u5 L' m r ok u' hU'
theorem u3 {h1:Heap} {U:Int×Int} (L:Lk h0 h1 k v b B) (m:MxOk v B) (r:CIs h0 v C) (ok:C.Ok) (u:Ext h h1)
  (hU:firstE (usL C.mx B) C.just 0 (firstE (us1 C.mx B) C.fair 0 (firstE (fun x=>usL C.mx B [x.b,x.c]) C.ands 0 (0,0)))=U):J172_3 Tryz.prog (UPost h U) (some k) h1:=by
 have hl:=r.len
 have hmx:=r.mx
 refine ⟨_,_,_,L.fld0 6 rfl,LoopT.to (n:=v.j.n) (by have:=ok.n;have:=hl.j;omega) (fun i h'=>Lk h0 h' k v b B/\Ext h h'/\firstE (usL C.mx B) (C.just.drop i) i (firstE (us1 C.mx B) C.fair 0 (firstE (fun x=>usL C.mx B [x.b,x.c]) C.ands 0 (0,0)))=U) ⟨L,u,hU⟩ ?_⟩
 rintro i h' K hi ⟨L',u',hU'⟩ hK
 refine ⟨fun hlt=>?_,fun hlt=>?_⟩
 ·refine ⟨by omega,hlt,(r.j.ext L'.ext).get (i:=i) (by omega) fun ad hl1 s hc hr _ hs hsn=>⟨_,_,_,hc,?_⟩⟩
  rw [firstE_cons hl1] at hU'
  have hw:=ok.just _ (List.getElem_mem hl1)
  rw [hs] at hr
  refine use (c184 L' m hr hw.1 (by rw [hsn];exact hw.2)) ⟨_,rfl,?_⟩
  rw [hmx]
  refine ⟨fun he=>?_,fun he=>?_⟩
  ·rw [if_pos he] at hU'
   exact hK _ (by omega) ⟨L',u',hU'⟩
  ·rw [if_neg he] at hU'
   subst hU'
   exact ⟨rfl,u'⟩
 ·rw [firstE_end (by have:=hl.j;omega)] at hU'
  exact u4 L' m r ok u' hU'
def threeE (mx:Int) (B:List Mk):List (List Int)->(Int×Int)->Int×Int
 | [],z=>z
 | l::r,z=>firstE (us1 mx B) l 0 (threeE mx B r z)
theorem c172 (L:Lk h0 h k v b B) (m:MxOk v B) (r:CIs h0 v C) (ok:C.Ok):CallsH Tryz.prog 172 #[.pointer (some k)] h (UPost h (uses C B)):=by
 have hl:=r.len
 have hmx:=r.mx
 obtain ⟨Z,hZ⟩:∃ Z,Z=firstE (usL C.mx B) C.just 0 (firstE (us1 C.mx B) C.fair 0 (firstE (fun x=>usL C.mx B [x.b,x.c]) C.ands 0 (0,0))):=⟨_,rfl⟩
 have hU:firstE (fun x=>us1 C.mx B x.b) C.lats 0 (threeE C.mx B [C.outs,C.bads,C.cons] Z)=uses C B:=by subst hZ;rfl
 refine run172 (some k) _ h ⟨_,_,_,L.fld0 2 rfl,LoopT.to (n:=v.l.n) (by have:=ok.n;have:=hl.l;omega) (fun i h'=>Lk h0 h' k v b B/\Ext h h'/\firstE (fun x=>us1 C.mx B x.b) (C.lats.drop i) i (threeE C.mx B [C.outs,C.bads,C.cons] Z)=uses C B) ⟨L,.refl _,hU⟩ ?_⟩
 rintro i h' K hi ⟨L',u',hU'⟩ hK
 refine ⟨fun hlt=>?_,fun hlt=>?_⟩
 ·refine ⟨by omega,hlt,(r.l.ext L'.ext).elem L3.csl (by omega) (i:=i) (by omega) fun ad hl1 re=>⟨_,_,_,re.cells,box3 C.lats[i] fun h4 e4 b4=>⟨_,b4.fld 1 rfl,use1 (L'.upd e4) m (ok.lats _ (List.getElem_mem hl1)).2.1 fun h5 e5=>⟨_,rfl,?_⟩⟩⟩⟩
  rw [firstE_cons hl1] at hU'
  rw [hmx]
  have ue:=u'.trans (e4.trans e5)
  refine ⟨fun he=>?_,fun he=>?_⟩
  ·rw [if_pos he] at hU'
   exact hK _ (by omega) ⟨(L'.upd e4).upd e5,ue,hU'⟩
  ·rw [if_neg he] at hU'
   rw [<- hU']
   exact ⟨rfl,ue⟩
 ·rw [firstE_end (by have:=hl.l;omega)] at hU'
  refine ⟨_,_,_,L'.fld0 3 rfl,_,_,_,L'.fld0 4 rfl,_,_,_,L'.fld0 5 rfl,?_⟩
  let ss:List Rw:=[⟨v.o.a,v.o.n,v.o.c,C.outs⟩,⟨v.b.a,v.b.n,v.b.c,C.bads⟩,⟨v.c.a,v.c.n,v.c.c,C.cons⟩]
  have hbig:∀ s∈ss,Rd h0 s.a s.n (ints s.l)/\(∀ x∈s.l,W64 x)/\s.n≤17592186044416:=by
   have hn:=ok.n
   intro s hs
   simp only [ss,List.mem_cons,List.not_mem_nil,or_false] at hs
   rcases hs with rfl | rfl | rfl
   ·exact ⟨r.o,ok.outs,by have:=hl.o;simp only;omega⟩
   ·exact ⟨r.b,ok.bads,by have:=hl.b;simp only;omega⟩
   ·exact ⟨r.c,ok.cons,by have:=hl.c;simp only;omega⟩
  have f:=Fr.lit (.refl h') (ss.map Rw.v) 22 3 rfl
  refine LoopT.to (n:=3) (by omega) (fun j h6=>Lk h0 h6 k v b B/\Ext h h6/\Rd h6 (some ⟨h'.size,0,none⟩) 3 (ss.map Rw.v)/\threeE C.mx B ((ss.map Rw.l).drop j) Z=uses C B) ⟨L'.upd f.ext,u'.trans f.ext,f.rd,hU'⟩ ?_
  rintro j h6 K2 hj ⟨L6,u6,r6,hU6⟩ hK2
  refine ⟨fun hlt2=>?_,fun hlt2=>?_⟩
  ·have hj3:j<ss.length:=by show j<3;omega
   have hs:=hbig _ (List.getElem_mem hj3)
   refine ⟨by omega,by omega,ss[j].a,ss[j].n,ss[j].c,?_,?_⟩
   ·have:=r6.getN (f:=Rw.v) (i:=j) (List.getElem?_eq_getElem hj3)
    exact this
   have e6:threeE C.mx B ((ss.map Rw.l).drop j) Z=firstE (us1 C.mx B) ss[j].l 0 (threeE C.mx B ((ss.map Rw.l).drop (j+1)) Z):=by
    rw [List.drop_eq_getElem_cons (show j<(ss.map Rw.l).length by simpa using hj3)]
    simp [threeE]
   rw [e6] at hU6
   refine LoopT.to (n:=ss[j].n) (by omega) (fun i h'=>Lk h0 h' k v b B/\Ext h h'/\Ext h6 h'/\firstE (us1 C.mx B) (ss[j].l.drop i) i (threeE C.mx B ((ss.map Rw.l).drop (j+1)) Z)=uses C B) ⟨L6,u6,.refl _,hU6⟩ ?_
   rintro i7 h7 K3 hi7 ⟨L7,u7,e7,hU7⟩ hK3
   have hl7:=hs.1.ilen
   refine ⟨fun hlt3=>?_,fun hlt3=>?_⟩
   ·refine ⟨by omega,hlt3,(hs.1.ext L7.ext).getn (i:=i7) (by omega) fun ad hl1 hc=>⟨_,hc,use1 L7 m (hs.2.1 _ (List.getElem_mem hl1)) fun h8 e8=>⟨_,rfl,?_⟩⟩⟩
    rw [firstE_cons hl1] at hU7
    rw [hmx]
    refine ⟨fun he=>?_,fun he=>?_⟩
    ·rw [if_pos he] at hU7
     exact hK3 _ (by omega) ⟨L7.upd e8,u7.trans e8,e7.trans e8,hU7⟩
    ·rw [if_neg he] at hU7
     rw [<- hU7]
     exact ⟨rfl,u7.trans e8⟩
   ·rw [firstE_end (by omega)] at hU7
    exact hK2 _ (by omega) ⟨L7,u7,r6.ext e7,hU7⟩
  ·have:j=3:=by omega
   subst this
   exact u3 L6 m r ok u6 (by rw [<- hU6,hZ];rfl)
end
end Go.Proofs.YtdpbdjdgdmheiaaGreat
namespace Go.Proofs.YtdpbdjdgdmheiaaGreat
open Go.Hx
theorem cutA_zero (a:Option Addr) (c:Nat):cutA 1 a c 0=a:=by
 unfold cutA
 split
 ·rfl
 ·cases a with
  | none=>rfl
  | some ad=>simp [addr_add0]
theorem cutA_some (ad:Addr) {c i:Nat} (h:i<c):cutA 1 (some ad) c i=some (ad.add (i*1)):=by unfold cutA;rw [if_neg (by omega)];rfl
theorem at_mid {α:Type} {A:List α} {y:α} {B:List α} {k:Nat} (h:A.length=k):(A++y::B)[k]?=some y:=by subst h;simp
theorem c191 (a b:Int) (h:Heap):CallsH Tryz.prog 191 #[.int .i64 a,.int .i64 b] h (Ret (.int .i64 (IntKind.wrap .i64 (b-a))) h):=run191 a b _ h ⟨rfl,rfl⟩
theorem c190 {a:Option Addr} {n c:Nat} {l:List Int} {h:Heap} (r:Rd h a n (ints l)) (hn:n≤1073741824) (x:Int) :
  CallsH Tryz.prog 190 #[.slice a n c,.int .i64 x,.func (.func 191) #[] #[]] h fun v h'=>h'=h/\∃ i:Nat,∃ b:Bool,i≤n/\v=.tuple #[.int .i64 (i:Nat),.bool b]:=by
 have hok:callOk Tryz.prog 191=true:=by kernel_rfl
 refine run190 a n c x _ _ h ⟨fun (st:Int×Int) h' m=>h'=h/\0≤st.1/\st.1≤st.2/\st.2≤n/\m=(st.2-st.1).toNat,⟨_,rfl,Int.le_refl _,by show (0:Int)≤n;omega,Int.le_refl _,rfl⟩,?_⟩
 rintro ⟨i,j⟩ _ _ ⟨rfl,h0,hij,hjn,rfl⟩
 rename_i h
 dsimp only at h0 hij hjn ⊢
 refine ⟨fun hl=>?_,fun hl=>?_⟩
 ·unfold J190_1
  have e1:IntKind.wrap .i64 (i+j)=i+j:=w64 (by omega) (by omega)
  have e2:IntKind.wrap .u64 (i+j)=i+j:=by simp [IntKind.wrap,IntKind.bits,IntKind.signed];omega
  have e3:IntKind.wrap .i64 ((i+j) / 2)=(i+j) / 2:=w64 (by omega) (by omega)
  have e4:IntKind.wrap .i64 ((i+j) / 2+1)=(i+j) / 2+1:=w64 (by omega) (by omega)
  simp only [show ((2 ^ 1:Nat):Int)=2 from rfl,e1,e2,e3,e4]
  refine ⟨by omega,by omega,r.geti (by omega) (by omega) fun ad hl2 hc=>⟨_,hc,CallV.func hok (use (c191 _ _ _) ⟨_,rfl,fun ho=>?_,fun ho=>?_⟩)⟩⟩
  ·exact ⟨_,by show (j-((i+j) / 2+1)).toNat<_;omega,rfl,by show 0≤(i+j) / 2+1;omega,by show (i+j) / 2+1≤j;omega,hjn,rfl⟩
  ·exact ⟨_,by show ((i+j) / 2-i).toNat<_;omega,rfl,h0,by show i≤(i+j) / 2;omega,by show (i+j) / 2≤n;omega,rfl⟩
 ·have hi:i=(i.toNat:Nat):=by omega
  refine ⟨fun hl2=>⟨h0,hl2,r.geti h0 hl2 fun ad hl3 hc=>⟨_,hc,CallV.func hok (use (c191 _ _ _) ⟨_,rfl,fun ho=>?_,fun ho=>?_⟩)⟩⟩,fun hl2=>?_⟩
  ·exact ⟨rfl,i.toNat,true,by omega,by rw [<- hi]⟩
  ·exact ⟨rfl,i.toNat,false,by omega,by rw [<- hi]⟩
  ·exact ⟨rfl,i.toNat,false,by omega,by rw [<- hi]⟩
theorem c192 {h:Heap} {a:Option Addr} {n c:Nat} {l:List Int} (o:Own 1 h a n c (ints l)) {i:Nat} (hi:i≤n) (hn:n≤1073741824) {x:Int} {vb:Addr} (hv:Rd h (some vb) 1 [.int .i64 x])
  (hvm:∃ cs e,h[vb.block]?=some (.cells cs e (0,0))) (hne:∀ ad,a=some ad->vb.block≠ad.block) :
  CallsH Tryz.prog 192 #[.slice a n c,.int .i64 (i:Nat),.slice (some vb) 1 1] h fun v h'=>∃ a' c',v=.slice a' (n+1) c'/\Own 1 h' a' (n+1) c' (ints (l.take i++x::l.drop i))/\Upd (atb a) h h'/\(a'=a∨∃ ad,a'=some ad/\h.size≤ad.block):=by
 have hcap:=o.cap
 have hlen:l.length=n:=by have:=o.rd.len;simpa using this
 have e1:IntKind.wrap .i64 (((n:Nat):Int)+((1:Nat):Int))=((n+1:Nat):Int):=by rw [w64 (by omega) (by omega)];rfl
 have e2:IntKind.wrap .i64 (((i:Nat):Int)+((1:Nat):Int))=((i+1:Nat):Int):=by rw [w64 (by omega) (by omega)];rfl
 have hx1:∀ w∈[Value.int .i64 x],w.oneCell'=true:=by simp [Value.oneCell']
 refine run192 a n c i (some vb) 1 1 _ h ⟨by omega,by omega,by omega,fun h0=>by simp at h0,fun _=>⟨fun hin=>?_,fun hin=>?_⟩⟩
 ·have:i=n:=by omega
  subst this
  refine ⟨[.int .i64 x],hv.read,rfl,AppS.own o rfl hx1 (by omega) fun a' c' h' o' u hor=>⟨a',c',rfl,?_,u,hor⟩⟩
  rw [List.take_of_length_le (by omega),List.drop_of_length_le (by omega),ints,List.map_append]
  exact o'
 have hlt:i<n:=by omega
 unfold J192_1
 rw [e1]
 refine ⟨fun hgr=>?_,fun hgr=>?_⟩
 ·have e3:IntKind.wrap .i64 (((n+1:Nat):Int)-(i:Nat))=((n+1-i:Nat):Int):=by rw [w64 (by omega) (by omega)];omega
  rw [e2,e3]
  simp only [Int.toNat_natCast,Int.toNat_zero,Nat.sub_zero,cutA_zero]
  refine ⟨by omega,by omega,by omega,by omega,by omega,fun hle=>by omega,fun _=>⟨by omega,ints (l.take i),(o.take (m:=i) (by omega)).rd.read |> fun hr=>?_,by simp;omega,fun cap hc=>?_⟩⟩
  ·simpa [ints] using hr
  have hpos:0<n+1-i:=by omega
  have hzl:∀ m,(zeroRow #[Value.int .i64 0] m).length=m:=fun m=>by simp [zeroRow]
  have f1:Fr h 1 (h.push (.cells (ints (l.take i)++zeroRow #[Value.int .i64 0] ((n+1-i)*1)++zeroRow #[Value.int .i64 0] ((cap-(i+(n+1-i)))*1)).toArray 3)) (some ⟨h.size,0,none⟩) (n+1) cap
    ((ints (l.take i)++zeroRow #[Value.int .i64 0] ((n+1-i)*1)++zeroRow #[Value.int .i64 0] ((cap-(i+(n+1-i)))*1)).take ((n+1)*1)):=
   Fr.push (.refl h) _ 3 (n+1) cap (by omega) (by rw [List.length_append,List.length_append,hzl,hzl,List.length_map,List.length_take];omega)
  obtain ⟨h1,hh1⟩:∃ h1,h1=h.push (.cells (ints (l.take i)++zeroRow #[Value.int .i64 0] ((n+1-i)*1)++zeroRow #[Value.int .i64 0] ((cap-(i+(n+1-i)))*1)).toArray 3):=⟨_,rfl⟩
  rw [<- hh1] at f1 ⊢
  have hr1:=hv.ext f1.ext
  have o1:=o.ext f1.ext
  rw [show i+(n+1-i)=n+1 by omega]
  dsimp only
  rw [cutA_some _ (by omega),cutA_some _ (by omega)]
  refine ⟨by omega,by omega,by omega,[.int .i64 x],hr1.read,by simp;omega,?_⟩
  refine CpyH.some (f1.own.write (i*1) [.int .i64 x] (by simp <;> omega) hx1 fun h2 u2 w2=>?_)
  have hz:∀ ad,a=some ad->¬ ad.block=h.size:=fun ad ha e=>by subst ha;have:=o.lt;omega
  have o2:=o1.upd u2 hz
  have hlen2:((ints (l.take i)++zeroRow #[Value.int .i64 0] ((n+1-i)*1)++zeroRow #[Value.int .i64 0] ((cap-(n+1))*1)).take ((n+1)*1))=ints (l.take i)++zeroRow #[Value.int .i64 0] (n+1-i):=by
   rw [List.take_append_of_le_length (by rw [List.length_append,hzl,List.length_map,List.length_take];omega),List.take_of_length_le (by rw [List.length_append,hzl,List.length_map,List.length_take];omega),Nat.mul_one]
  obtain ⟨zs,hzs,hzs2⟩:∃ zs,zs=ints (l.take i)++[Value.int .i64 x]/\zs.length=(i+1)*1:=⟨_,rfl,by simp;omega⟩
  have own2:Own 1 h2 (some ⟨h.size,0,none⟩) (i+1) cap zs:=by
   refine w2 (i+1) zs hzs2 (by omega) fun k hk=>?_
   rw [show i+(n+1-i)=n+1 by omega,hlen2,hzs]
   simp only [List.length_cons,List.length_nil,Nat.zero_add,Nat.mul_one]
   by_cases hki:k=i
   ·subst hki
    rw [if_pos (by omega),at_mid (by simp <;> omega),Nat.sub_self]
    rfl
   ·rw [if_neg (by omega),List.getElem?_append_left (by simp <;> omega),List.getElem?_append_left (by simp <;> omega)]
  refine ⟨by omega,by omega,by omega,by omega,by omega,by omega,ints (l.drop i),?_,by simp;omega,?_⟩
  ·have:=o2.rd.cutA (sz:=1) (c:=c) i (n-i) (by omega) (by omega)
   rw [Nat.mul_one,List.take_of_length_le (by simp <;> omega),<- List.map_drop] at this
   exact this.read
  ·refine CpyH.some (own2.write ((i+1)*1) (ints (l.drop i)) (by simp <;> omega) ints_one fun h3 u3 w3=>⟨_,cap,rfl,w3 (n+1) _ (by simp <;> omega) (by omega) fun k hk=>?_,?_,.inr ⟨_,rfl,Nat.le_refl _⟩⟩)
   ·rw [hzs,ints,List.map_append,List.map_cons]
    rcases Nat.lt_or_ge k (i+1) with hk2 | hk2
    ·rw [if_neg (by omega)]
     by_cases hki:k=i
     ·subst hki
      rw [at_mid (by simp <;> omega),at_mid (by simp <;> omega)]
     ·rw [List.getElem?_append_left (by simp <;> omega),List.getElem?_append_left (by simp <;> omega)]
    ·rw [if_pos (by simp <;> omega),List.getElem?_append_right (by simp <;> omega),List.getElem?_cons]
     simp only [List.length_map,List.length_take]
     rw [if_neg (by omega)]
     congr 1
     omega
   ·exact Upd.mono (S:=fun b=>b=h.size) ((Upd.wide f1.ext).trans (u2.trans u3)) fun b hb e=>by omega
 ·obtain ⟨ad,rfl⟩:∃ ad,a=some ad:=by
   cases a with
   | some ad=>exact ⟨ad,rfl⟩
   | none=>have:c=0:=o.mem;omega
  have hne':=hne ad rfl
  have hnc:n+1≤c:=by omega
  unfold J192_2
  rw [e1,e2]
  simp only [Int.toNat_natCast,Int.toNat_zero,Nat.sub_zero,cutA_zero]
  rw [cutA_some _ (by omega),cutA_some _ (by omega)]
  obtain ⟨hsp,cs,e,hb,hle⟩:=o.mem
  refine ⟨by omega,by omega,by omega,by omega,by omega,by omega,by rw [add_block];exact hne',hvm,⟨cs,e,(0,0),by rw [add_block];exact hb,by omega⟩,by omega,by omega,by omega,by omega,by omega,by omega,ints (l.drop i),?_,by simp;omega,?_⟩
  ·have:=o.rd.cut (i*1) (n-i) (by omega)
   rw [Nat.mul_one,List.take_of_length_le (by simp <;> omega),<- List.map_drop] at this
   rw [Nat.mul_one]
   exact this.read
  refine CpyH.some (o.write ((i+1)*1) (ints (l.drop i)) (by simp <;> omega) ints_one fun h2 u2 w2=>?_)
  have own2:Own 1 h2 (some ad) (n+1) c (ints (l.take (i+1)++l.drop i)):=by
   refine w2 (n+1) _ (by simp <;> omega) (by omega) fun k hk=>?_
   rw [ints,List.map_append]
   rcases Nat.lt_or_ge k (i+1) with hk2 | hk2
   ·rw [if_neg (by omega),List.getElem?_append_left (by simp <;> omega)]
    simp [List.getElem?_take,hk2]
   ·rw [if_pos (by simp <;> omega),List.getElem?_append_right (by simp <;> omega)]
    congr 1
    simp <;> omega
  have hv2:=hv.upd u2 (fun x hx=>by cases hx;exact hne')
  refine ⟨by omega,by omega,by omega,[.int .i64 x],hv2.read,by simp;omega,?_⟩
  refine CpyH.some (own2.write (i*1) [.int .i64 x] (by simp <;> omega) hx1 fun h3 u3 w3=>⟨_,c,rfl,w3 (n+1) _ (by simp <;> omega) (by omega) fun k hk=>?_,(u2.trans u3).mono fun b hb e=>⟨ad,rfl,e⟩,.inl rfl⟩)
  rw [ints,List.map_append,List.map_cons,ints,List.map_append]
  simp only [List.length_cons,List.length_nil,Nat.zero_add,Nat.mul_one]
  rcases Nat.lt_trichotomy k i with hki | hki | hki
  ·rw [if_neg (by omega),List.getElem?_append_left (by simp <;> omega),List.getElem?_append_left (by simp <;> omega)]
   simp [List.getElem?_take,hki,show k<i+1 by omega]
  ·subst hki
   rw [if_pos (by omega),at_mid (by simp <;> omega),Nat.sub_self]
   rfl
  ·rw [if_neg (by omega),List.getElem?_append_right (by simp <;> omega),List.getElem?_append_right (by simp <;> omega),List.getElem?_cons]
   simp only [List.length_map,List.length_take]
   rw [if_neg (by omega)]
   congr 1
   omega
end Go.Proofs.YtdpbdjdgdmheiaaGreat
namespace Go.Proofs.YtdpbdjdgdmheiaaGreat
open Go.Hx
structure GOk (C:Circ) (B:List Mk):Prop where
 blen:B.length=(C.mx+1).toNat
 mx0:0≤C.mx
 mx1:C.mx≤16384
 gates:∀ p∈B,p.1=3->0≤p.2/\p.2<C.ands.length
 lits:∀ x∈C.ands,(0≤x.b/\x.b≤2*C.mx+1)/\0≤x.c/\x.c≤2*C.mx+1
 n:C.ands.length≤16384
theorem bel_lt {C:Circ} {B:List Mk} (g:GOk C B) (i y:Nat) (hy:y∈bel C B i):y<C.ands.length:=by
 have key:∀ l,y∈gateOf B l->y<C.ands.length:=by
  intro l hl
  unfold gateOf at hl
  split at hl
  ·rename_i h3
   rcases Nat.lt_or_ge (l / 2).toNat B.length with h | h
   ·rw [getD_at h] at hl h3
    have:=g.gates _ (List.getElem_mem h) h3
    simp at hl
    omega
   ·rw [List.getD_eq_getElem?_getD,List.getElem?_eq_none h] at h3
    simp at h3
  ·simp at hl
 unfold bel at hy
 split at hy
 ·rcases List.mem_append.1 hy with h | h
  ·exact key _ h
  ·exact key _ h
 ·simp at hy
theorem bel_two {C:Circ} {B:List Mk} (i:Nat):(bel C B i).length≤2:=by
 have key:∀ l,(gateOf B l).length≤1:=fun l=>by unfold gateOf;split <;> simp
 unfold bel
 split
 ·rename_i x _
  have h1:=key x.b
  have h2:=key x.c
  rw [List.length_append];omega
 ·simp
section
variable {h0 h:Heap} {k:Addr} {v:CV} {b:Addr} {B:List Mk} {C:Circ}
theorem c185 (L:Lk h0 h k v b B) (m:MxOk v B) (r:CIs h0 v C) (g:GOk C B) {i:Nat} (hi:i<C.ands.length) :
  CallsH Tryz.prog 185 #[.pointer (some k),.int .i64 (i:Nat)] h fun w h'=>∃ a c,w=.slice a (bel C B i).length c/\Fr h 1 h' a (bel C B i).length c (ints (nI (bel C B i))):=by
 have hl:=r.len
 have hg:=r.g.ext L.ext
 have hlit:=g.lits _ (List.getElem_mem hi)
 have hbl:=g.blen
 have hm:=r.mx
 have hbel:bel C B i=gateOf B C.ands[i].b++gateOf B C.ands[i].c:=by unfold bel;rw [List.getElem?_eq_getElem hi]
 have hgl:∀ l,(gateOf B l).length≤1:=fun l=>by unfold gateOf;split <;> simp
 let ls:List Int:=[C.ands[i].b,C.ands[i].c]
 have hls:∀ x∈ls,0≤x/\x≤2*C.mx+1:=by
  intro x hx
  simp only [ls,List.mem_cons,List.not_mem_nil,or_false] at hx
  rcases hx with rfl | rfl
  ·exact hlit.1
  ·exact hlit.2
 refine run185 (some k) i _ h ⟨_,_,_,L.fld0 8 rfl,by omega,by have:=hl.g;omega,hg.elem L3.csl (by omega) (i:=i) (by have:=hl.g;omega) fun ad hl1 re=>⟨_,re.fld 1 rfl,_,_,_,L.fld0 8 rfl,by omega,by have:=hl.g;omega,hg.elem L3.csl (by omega) (i:=i) (by have:=hl.g;omega) fun ad2 hl2 re2=>⟨_,re2.fld 2 rfl,?_⟩⟩⟩
 refine LoopT.to2 (n:=2) (by omega) (fun j s h'=>Fr h 1 h' s.1 s.2.1 s.2.2 (ints (nI ((ls.take j).flatMap (gateOf B))))/\s.2.1=((ls.take j).flatMap (gateOf B)).length/\s.2.1≤j) ⟨.nil (.refl _),rfl,Nat.le_refl _⟩ ?_
 rintro j ⟨oa,on,oc⟩ h' K hj ⟨f,hon,hle⟩ hK
 dsimp only at f hon hle ⊢
 have L':=L.upd f.ext
 refine ⟨fun hlt=>?_,fun hlt=>?_⟩
 ·have hj2:j<ls.length:=by show j<2;omega
  have hx:=hls _ (List.getElem_mem hj2)
  have hb2:(ls[j] / 2).toNat<B.length:=by omega
  have hat:=L'.at_ hb2
  have e1:(ls.take (j+1)).flatMap (gateOf B)=(ls.take j).flatMap (gateOf B)++gateOf B ls[j]:=by rw [List.take_succ_eq_append_getElem hj2,List.flatMap_append];simp
  refine ⟨by omega,by omega,ls[j],?_,_,_,_,L'.fld 11 rfl,by show 0≤ls[j] / 2;omega,by show ls[j] / 2<_;omega,_,_,hat.cells,?_⟩
  ·rw [Int.toNat_natCast];exact map_at (f:=Value.int .i64) (l:=ls) hj2
  refine boxN (zs:=[.int .i64 0,.int .i64 0]) (ws:=cs2 B[(ls[j] / 2).toNat]) rfl (cs2_one _) fun h3 e3 b3=>⟨_,b3.fld 0 rfl,fun h4=>?_,fun h4=>?_⟩
  ·have hgo:gateOf B ls[j]=[(B[(ls[j] / 2).toNat]).2.toNat]:=by unfold gateOf;rw [getD_at hb2,if_pos h4]
   have hge:=g.gates _ (List.getElem_mem hb2) h4
   refine ⟨_,b3.fld 1 rfl,?_⟩
   refine app1 (f.upd e3) rfl (by omega) fun a' c' h5 f5=>hK _ _ (by omega) ⟨?_,?_,by show on+1≤j+1;omega⟩
   ·show Fr h 1 h5 a' (on+1) c' _
    rw [e1,hgo,nI,ints,List.map_append,List.map_append]
    simp only [List.map_cons,List.map_nil]
    rw [show (((B[(ls[j] / 2).toNat]).2.toNat:Nat):Int)=(B[(ls[j] / 2).toNat]).2 by omega]
    exact f5
   ·show on+1=_
    rw [e1,hgo,List.length_append,<- hon];rfl
  ·have hgo:gateOf B ls[j]=[]:=by unfold gateOf;rw [getD_at hb2,if_neg h4]
   refine hK (oa,on,oc) _ (by omega) ⟨?_,?_,by show on≤j+1;omega⟩
   ·show Fr h 1 h3 oa on oc _
    rw [e1,hgo,List.append_nil];exact f.upd e3
   ·show on=_
    rw [e1,hgo,List.append_nil];exact hon
 ·have:j=2:=by omega
  subst this
  have e:(ls.take 2).flatMap (gateOf B)=bel C B i:=by rw [hbel];simp [ls]
  rw [e] at f hon
  subst hon
  exact ⟨oa,oc,rfl,f⟩
end
theorem c189 {h:Heap} {bx:Nat} {a:Option Addr} {n c:Nat} {l:List Int} (ob:Own 1 h (some ⟨bx,0,none⟩) 1 1 [.slice a n c]) (o:Own 1 h a n c (ints l)) (hne:∀ ad,a=some ad->ad.block≠bx) (hn:n≤1073741824) (x:Int) :
  CallsH Tryz.prog 189 #[.int .i64 x,.pointer (some ⟨bx,0,none⟩)] h fun v h'=>v=.tuple #[]/\∃ a' c' l',Own 1 h' (some ⟨bx,0,none⟩) 1 1 [.slice a' (n+1) c']/\Own 1 h' a' (n+1) c' (ints l')/\l'.Perm (x::l) /\
   (a'=a∨∃ ad,a'=some ad/\h.size≤ad.block)/\Upd (fun b=>b=bx∨atb a b) h h':=by
 have hblt:=ob.lt
 have hlen:l.length=n:=by have:=o.rd.len;simpa using this
 have rb:cellH h ⟨bx,0,none⟩=some (.slice a n c):=by have:=ob.rd.read 0 _ rfl;rwa [addr_add0] at this
 have hrd:Rd h a n (ints l):=by have:=o.rd;rwa [Nat.mul_one] at this
 refine run189 x (some ⟨bx,0,none⟩) _ h ⟨a,n,c,rb,(c190 hrd hn x).mono ?_⟩
 rintro _ _ ⟨rfl,i,bb,hi,rfl⟩
 rename_i h
 refine ⟨_,_,rfl,a,n,c,rb,?_⟩
 intro h1
 have e1:Ext h h1:=Ext.box h _
 have f1:=Fr.lit (.refl h) [Value.int .i64 x] 3 1 rfl
 refine (c192 (o.ext e1) hi hn (x:=x) (vb:=⟨h.size,0,none⟩) f1.rd ⟨_,_,push_at _ _⟩ (fun ad ha e=>?_)).mono ?_
 ·subst ha;have:=o.lt;simp only at e;omega
 rintro _ h2 ⟨a',c',rfl,o2,u2,hor⟩
 refine ⟨_,_,_,rfl,?_⟩
 have u12:Upd (atb a) h h2:=(Upd.wide e1).trans u2
 have ob2:Own 1 h2 (some ⟨bx,0,none⟩) 1 1 [.slice a n c]:=ob.upd u12 fun ad ha ⟨y,hy,e⟩=>by cases ha;exact hne y hy e.symm
 have hor':a'=a∨∃ ad,a'=some ad/\h.size≤ad.block:=by
  rcases hor with h3 | ⟨ad,h3,h4⟩
  ·exact .inl h3
  ·exact .inr ⟨ad,h3,Nat.le_trans e1.1 h4⟩
 have hne':∀ ad,a'=some ad->¬ ad.block=bx:=fun ad ha e=>by
  rcases hor' with h3 | ⟨ad',h3,h4⟩
  ·exact hne ad (h3▸ha) e
  ·rw [h3] at ha;cases ha;simp only at hblt;omega
 have:=ob2.write 0 [.slice a' (n+1) c'] (by simp) (by simp [Value.oneCell']) (K:=fun h'=>(Value.tuple #[]=.tuple #[]/\∃ a' c' l',Own 1 h' (some ⟨bx,0,none⟩) 1 1 [.slice a' (n+1) c']/\Own 1 h' a' (n+1) c' (ints l')/\l'.Perm (x::l) /\
   (a'=a∨∃ ad,a'=some ad/\h.size≤ad.block)/\Upd (fun b=>b=bx∨atb a b) h h')) fun h3 u3 w3=>⟨rfl,a',c',_,w3 1 [.slice a' (n+1) c'] rfl (by omega) fun i hi=>by rw [if_pos (by simp <;> omega),Nat.sub_zero],o2.upd u3 hne',?_,hor',?_⟩
 ·rwa [addr_add0] at this
 ·exact (List.perm_middle).trans (by rw [List.take_append_drop])
 ·refine ⟨Nat.le_trans u12.1 u3.1,fun b hb hs=>?_⟩
  rw [u3.2 b (Nat.lt_of_lt_of_le hb u12.1) (fun e=>hs (.inl e)),u12.2 b hb (fun e=>hs (.inr e))]
end Go.Proofs.YtdpbdjdgdmheiaaGreat
