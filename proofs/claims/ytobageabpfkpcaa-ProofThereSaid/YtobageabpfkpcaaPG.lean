/- The steps gone over: walked by the kit's words. No condition. -/
import Derived.Test.YtobageabpfkpcaaPH
import Derived.Stop.RegionWithIn
set_option linter.unusedVariables false
set_option linter.unusedSimpArgs false
set_option maxRecDepth 100000
namespace Go.Hx
def WalkR (F:Fm) (L:List (Bool×List Int)) (done:Bool) (at' e:Int):Prop:=
 if (chkF F).2≠0 then done=false/\at'=0/\e=(chkF F).2
 else if lnsE L≠0 then done=false/\at'=0/\e=lnsE L
 else (∃ (i:Nat) (F1 F2:Fm) (x:Bool×List Int) (e':Int),L[i]?=some x/\Go.Proofs.Ytobageabpfkpcaa.Stp L i F F1/\DoR F1 x e' F2/\((e'≠0/\done=false/\at'=i/\e=e')∨(e'=0/\x=(false,[])/\done=true/\at'=i/\e=0))) ∨
  (∃ F1,Go.Proofs.Ytobageabpfkpcaa.Stp L L.length F F1/\done=false/\at'=0/\e=0)
end Go.Hx
namespace Go.Proofs.Ytobageabpfkpcaa
open Go.Hx Go.RowKit Go.Proofs Go.Shelf
attribute [local go_sem] Oper.semAt_some
set_option maxHeartbeats 4000000
section
variable {h0:Heap} {W:World} {l:List Itm}
theorem mbox (m:Mem h0 W.heap l) (vs:List Value) (e:TypeId):Mem h0 (W.alloc (.cells vs.toArray e)).heap (⟨1,some ⟨W.heap.size,0,none⟩,vs.length,vs.length,vs⟩::l):=m.add (t:=⟨1,some ⟨W.heap.size,0,none⟩,vs.length,vs.length,vs⟩) (Fr.lit (.refl _) vs e _ rfl)
theorem mcell (m:Mem h0 W.heap l) {t:Itm} (ht:t∈l) {b n c:Nat} {vs:List Value} (e:t=⟨1,some ⟨b,0,none⟩,n,c,vs⟩) (i:Nat) {v:Value} (hv:vs[i]?=some v):W.cell? ⟨b,i,none⟩=some v:=by
 subst e
 have f:=m.fr _ ht
 have:=f.rd.fld i hv
 rwa [adn,Nat.zero_add] at this
theorem mfroz (m:Mem h0 W.heap l) {t:Itm} (ht:t∈l) {b n c:Nat} {vs:List Value} (e:t=⟨1,some ⟨b,0,none⟩,n,c,vs⟩) (i:Nat) (hi:i<c):W.frozen? ⟨b,i,none⟩=false:=by
 subst e
 have f:=m.fr _ ht
 obtain ⟨_,cs,ee,fr,hq,hle,hlo⟩:=f.own.mem
 unfold World.frozen?
 simp only at hq
 simp only [hq]
 have:=hlo i (Nat.zero_le _) (by simp only [Nat.zero_add,Nat.mul_one];exact hi)
 simpa using this
theorem mset (m:Mem h0 W.heap l) (k:Nat) {b n:Nat} {vs:List Value} (hk:l[k]?=some ⟨1,some ⟨b,0,none⟩,n,n,vs⟩) (i:Nat) (hi:i<n) {v:Value} (h1:v.oneCell'=true):Mem h0 (W.setCell ⟨b,i,none⟩ v).heap (l.set k ⟨1,some ⟨b,0,none⟩,n,n,vs.set i v⟩):=by
 have f:=m.get k hk
 obtain ⟨_,cs,ee,fr,hq,hle,hlo⟩:=f.own.mem
 have hlen:=f.rd.len
 simp only at hq
 have hs:=f.cellAt i hi h1 (K:=fun h'=>h'=(W.setCell ⟨b,i,none⟩ v).heap->Mem h0 (W.setCell ⟨b,i,none⟩ v).heap (l.set k ⟨1,some ⟨b,0,none⟩,n,n,vs.set i v⟩)) fun h' u f' e=>by
  subst e
  exact m.setAt k hk f' u (.inl rfl)
 rw [adn,Nat.zero_add] at hs
 obtain ⟨_,c2,e2,fr2,hq2,_,_,_,hK⟩:=hs
 refine hK ?_
 simp only at hq2
 rw [hq] at hq2
 cases hq2
 rw [setCell_heap hq]
 show W.heap.setIfInBounds b _=_
 congr 1
 show Obj.cells _ _ _=Obj.cells _ _ _
 congr 1
 apply Array.ext'
 simp only [writeL,Array.toList_setIfInBounds]
 rw [List.set_eq_take_append_cons_drop,if_pos (by simp only at hle;rw [Array.length_toList];omega)]
 rfl
end
theorem resCell {a:Nat} {t:TypeId} {tmps:Array Value} {ad:Addr} {v:Value} {W:World} (hz:isAggB Try.prog t=some false) (hat:tmps.getD a undef=.pointer (some ad)) (hc:W.cell? ad=some v):(resOne tmps (.cell a t)).run Try.prog W=.ok v W:=by
 simp only [resOne,Sem.run_bind,Sem.run_pure,Result.andThen_ok,hat,asAddr,loadVar,isAgg_false hz W,Bool.false_eq_true,if_false,run_load_cell hc]
theorem res27 {tmps:Array Value} {a4 a5 a6 a7:Addr} {v4 v5 v6 v7:Value} {W:World} (h4:tmps.getD 4 undef=.pointer (some a4)) (h5:tmps.getD 5 undef=.pointer (some a5)) (h6:tmps.getD 6 undef=.pointer (some a6)) (h7:tmps.getD 7 undef=.pointer (some a7))
  (e4':W.cell? a4=some v4) (e5':W.cell? a5=some v5) (e6':W.cell? a6=some v6) (e7':W.cell? a7=some v7):(results Try.f27 tmps).run Try.prog W=.ok (.tuple #[v4,v5,v6,v7]) W:=by
 have e1:results Try.f27 tmps=(do let vs <- Try.f27.results.mapM (resOne tmps);pure (if h:vs.size=1 then vs[0] else .tuple vs)):=rfl
 have e2:Try.f27.results=[ResultVar.cell 4 47,.cell 5 4,.cell 6 3,.cell 7 29].toArray:=rfl
 rw [e1,e2,List.mapM_toArray]
 simp only [List.mapM_cons,List.mapM_nil,Sem.run_bind,map_eq_pure_bind,resCell (t:=47) (by kernel_rfl) h4 e4',resCell (t:=4) (by kernel_rfl) h5 e5',resCell (t:=3) (by kernel_rfl) h6 e6',resCell (t:=29) (by kernel_rfl) h7 e7',Result.andThen_ok,Sem.run_pure]
 rfl
theorem fin4 {h0:Heap} {W:World} {b4 b5 b6 b7:Nat} {u4 u5 u6 u7 v4 v5 v6 v7:Value} {X:List Itm}
  (m:Mem h0 W.heap (⟨1,some ⟨b7,0,none⟩,1,1,[u7]⟩::⟨1,some ⟨b6,0,none⟩,1,1,[u6]⟩::⟨1,some ⟨b5,0,none⟩,1,1,[u5]⟩::⟨1,some ⟨b4,0,none⟩,1,1,[u4]⟩::X))
  (o4:v4.oneCell'=true) (o5:v5.oneCell'=true) (o6:v6.oneCell'=true) (o7:v7.oneCell'=true) {W':World} (hW:W'=(((W.setCell ⟨b4,0,none⟩ v4).setCell ⟨b5,0,none⟩ v5).setCell ⟨b6,0,none⟩ v6).setCell ⟨b7,0,none⟩ v7) :
  Mem h0 W'.heap (⟨1,some ⟨b7,0,none⟩,1,1,[v7]⟩::⟨1,some ⟨b6,0,none⟩,1,1,[v6]⟩::⟨1,some ⟨b5,0,none⟩,1,1,[v5]⟩::⟨1,some ⟨b4,0,none⟩,1,1,[v4]⟩::X)/\Same W W'/\∀ b,b≠b4->b≠b5->b≠b6->b≠b7->W'.heap[b]?=W.heap[b]?:=by
 subst hW
 refine ⟨?_,?_,fun b n4 n5 n6 n7=>(Below.heap_setCell _ _ _ b n7).trans ((Below.heap_setCell _ _ _ b n6).trans ((Below.heap_setCell _ _ _ b n5).trans (Below.heap_setCell _ _ _ b n4)))⟩
 ·exact mset (mset (mset (mset m 3 rfl 0 (by decide) o4) 2 rfl 0 (by decide) o5) 1 rfl 0 (by decide) o6) 0 rfl 0 (by decide) o7
 ·exact (setCell_same _ _ _).trans ((setCell_same _ _ _).trans ((setCell_same _ _ _).trans (setCell_same _ _ _)))
theorem got4 {h0:Heap} {W:World} {b4 b5 b6 b7:Nat} {v4 v5 v6 v7:Value} {X:List Itm}
  (m:Mem h0 W.heap (⟨1,some ⟨b7,0,none⟩,1,1,[v7]⟩::⟨1,some ⟨b6,0,none⟩,1,1,[v6]⟩::⟨1,some ⟨b5,0,none⟩,1,1,[v5]⟩::⟨1,some ⟨b4,0,none⟩,1,1,[v4]⟩::X)) :
  W.cell? ⟨b4,0,none⟩=some v4/\W.cell? ⟨b5,0,none⟩=some v5/\W.cell? ⟨b6,0,none⟩=some v6/\W.cell? ⟨b7,0,none⟩=some v7:=
 ⟨mcell m (List.mem_of_getElem? (i:=3) rfl) rfl 0 rfl,mcell m (List.mem_of_getElem? (i:=2) rfl) rfl 0 rfl,mcell m (List.mem_of_getElem? (i:=1) rfl) rfl 0 rfl,mcell m (List.mem_of_getElem? (i:=0) rfl) rfl 0 rfl⟩
theorem c39 {h:Heap} (s a:Option Addr) (n c:Nat):CallsH Try.prog 39 #[.pointer s,.slice a n c] h fun o h'=>o=.func (.func 56) #[] #[.pointer (some ⟨h.size+1,0,none⟩),.pointer (some ⟨h.size,0,none⟩)]/\h'=(h.push (.cells #[.pointer s] 47)).push (.cells #[.slice a n c] 37):=by
 refine run39 s a n c _ h ?_
 unfold VC39
 intro h1 h2
 have e:h1.size=h.size+1:=by simp [h1]
 rw [e]
 exact ⟨rfl,rfl⟩
theorem mcast {h0 h h':Heap} {l:List Itm} (m:Mem h0 h l) (e:h'=h):Mem h0 h' l:=e▸m
theorem mput {h0:Heap} {W:World} {l:List Itm} (m:Mem h0 W.heap l) {b:Nat} {o:Obj} (hb:W.heap[b]?=some o) (ho:o.isCells=false) (hge:h0.size≤b) (o':Obj):Mem h0 (W.putObj b o').heap l:=by
 have u:Upd (fun i=>i=b) W.heap (W.putObj b o').heap:=⟨by simp,fun i _ hi=>World.putObj_heap_other hi⟩
 have e:Ext h0 (W.putObj b o').heap:=⟨Nat.le_trans m.ext.1 u.1,fun i hi _=>(u.2 i (Nat.lt_of_lt_of_le hi m.ext.1) (by show ¬ i=b;omega)).trans (m.ext.2 i hi fun h=>h)⟩
 refine ⟨e,fun t ht=>?_,m.dis⟩
 have f:=m.fr t ht
 refine ⟨f.own.upd u fun ad ha hab=>?_,f.new,e⟩
 have hme:=f.own.mem
 rw [ha] at hme
 obtain ⟨_,cs,ee,fr,hq,_⟩:=hme
 have hab':ad.block=b:=hab
 rw [hab',hb] at hq
 cases hq
 cases ho
theorem permX {a b:Itm} {X' X inner:List Itm}:(a::b::((X'++X)++inner)).Perm (X++(a::b::(X'++inner))):=by
 have h:(([a,b]++X')++X++inner).Perm (X++([a,b]++X')++inner):=List.perm_append_comm.append_right inner
 simpa using h
theorem put_same (W:World) (b:Nat) (o:Obj):Same W (W.putObj b o):=⟨rfl,rfl,rfl,⟨by simp,.inl (Nat.le_refl _)⟩⟩
structure Cnt (e:Int) (g:Bool) (sl:List Int):Prop where
 a:e=0
 b:(g,sl)≠(false,[])
def RtOk (WB:World) (b A i:Nat) (e:Int) (g:Bool) (sl:List Int) (W3:World):Prop:=
 ∃ (done:Bool) (e':Int),W3=(((WB.setCell ⟨b+1+1,0,none⟩ (.pointer (some ⟨A,0,none⟩))).setCell ⟨b+1+1+1,0,none⟩ (.bool done)).setCell ⟨b+1+1+1+1,0,none⟩ (.int .i64 (i:Int))).setCell ⟨b+1+1+1+1+1,0,none⟩ (.int .i64 e') /\
  ((e≠0/\done=false/\e'=e)∨(e=0/\(g,sl)=(false,[])/\done=true/\e'=0))
def Stp109 (w:World) (F:Fm) (L:List (Bool×List Int)) (A:Nat) (W2:World):Prop:=
 Same w W2/\∃ (done:Bool) (at' e:Int) (Y:List Itm),WalkR F L done at' e/\Mem w.heap W2.heap (⟨1,some ⟨w.heap.size+1+1+1+1+1,0,none⟩,1,1,[.int .i64 e]⟩::⟨1,some ⟨w.heap.size+1+1+1+1,0,none⟩,1,1,[.int .i64 at']⟩::⟨1,some ⟨w.heap.size+1+1+1,0,none⟩,1,1,[.bool done]⟩ ::
      ⟨1,some ⟨w.heap.size+1+1,0,none⟩,1,1,[.pointer (some ⟨A,0,none⟩)]⟩::Y)
def noPanic (Q:Exit->Act->World->Prop):Exit->Act->World->Prop
 | .panic _,_,_=>False
 | .normal,a,w=>Q .normal a w
 | .ret,a,w=>Q .ret a w
 | .exit i,a,w=>Q (.exit i) a w
 | .goto t,a,w=>Q (.goto t) a w
 | .outgrown,_,_=>False
theorem noPanic_of {Q:Exit->Act->World->Prop}:∀ e a w,noPanic Q e a w->Q e a w
 | .panic _,_,_,h=>h.elim
 | .normal,_,_,h=>h
 | .ret,_,_,h=>h
 | .exit _,_,_,h=>h
 | .goto _,_,_,h=>h
 | .outgrown,_,_,h=>h.elim
theorem c27 {h:Heap} {v:FV} {F:Fm} (r:FIs h v F) (ok:F.Ok) {la:Option Addr} {ln lc:Nat} {L:List (Bool×List Int)} (rl:RdLs h la ln L) (hln:ln<9223372036854775807) (hLl:∀ x∈L,x.2.length<9223372036854775807) :
  CallsH Try.prog 27 #[v.v,.slice la ln lc] h fun o h'=>∃ (sp:Option Addr) (done:Bool) (at' e:Int),o=.tuple #[.pointer sp,.bool done,.int .i64 at',.int .i64 e]/\WalkR F L done at' e/\Ext h h':=by
 intro w hw
 subst hw
 refine (callsIn_wide (n:=3)).1 ?_
 refine callsIn_of_wp_marks Try.func27 rfl trivial ?_ rfl
 refine wpIn_mono ?_ noPanic_of
 simp only [Try.ntmps27,List.size_toArray,List.length_cons,List.length_nil,Nat.reduceAdd,Nat.reduceSub,Array.replicate_succ,Array.replicate_zero,List.push_toArray,List.append_toArray,List.nil_append,List.cons_append]
 obtain ⟨vn,⟨va,vN,vC⟩⟩:=v
 simp only [FV.v]
 have hm6:=mbox (mbox (mbox (mbox (mbox (mbox (Mem.nil (h0:=w.heap) (.refl w.heap)) [.int .i64 vn,.slice va vN vC] 24) [.slice la ln lc] 37) [.pointer none] 47) [.bool false] 4) [.int .i64 0] 3) [.int .i64 0] 29
 simp only [World.size_alloc,List.length_cons,List.length_nil,Nat.reduceAdd] at hm6
 have hsm6:Same w _:=(same_push w (.cells #[.int .i64 vn,.slice va vN vC] 24)).trans ((same_push _ (.cells #[.slice la ln lc] 37)).trans ((same_push _ (.cells #[.pointer none] 47)).trans ((same_push _ (.cells #[.bool false] 4)).trans ((same_push _ (.cells #[.int .i64 0] 3)).trans (same_push _ (.cells #[.int .i64 0] 29))))))
 have facts:∀ W:World,Mem w.heap W.heap [⟨1,some ⟨w.heap.size+1+1+1+1+1,0,none⟩,1,1,[.int .i64 0]⟩,⟨1,some ⟨w.heap.size+1+1+1+1,0,none⟩,1,1,[.int .i64 0]⟩,⟨1,some ⟨w.heap.size+1+1+1,0,none⟩,1,1,[.bool false]⟩,
   ⟨1,some ⟨w.heap.size+1+1,0,none⟩,1,1,[.pointer none]⟩,⟨1,some ⟨w.heap.size+1,0,none⟩,1,1,[.slice la ln lc]⟩,⟨1,some ⟨w.heap.size,0,none⟩,2,2,[.int .i64 vn,.slice va vN vC]⟩] ->
   W.cell? ⟨w.heap.size,0,none⟩=some (.int .i64 vn)/\W.cell? ⟨w.heap.size,1,none⟩=some (.slice va vN vC)/\W.cell? ⟨w.heap.size+1,0,none⟩=some (.slice la ln lc)/\W.cell? ⟨w.heap.size+1+1,0,none⟩=some (.pointer none) /\
   W.cell? ⟨w.heap.size+1+1+1,0,none⟩=some (.bool false)/\W.cell? ⟨w.heap.size+1+1+1+1,0,none⟩=some (.int .i64 0)/\W.cell? ⟨w.heap.size+1+1+1+1+1,0,none⟩=some (.int .i64 0) /\
   W.frozen? ⟨w.heap.size+1+1,0,none⟩=false/\W.frozen? ⟨w.heap.size+1+1+1,0,none⟩=false/\W.frozen? ⟨w.heap.size+1+1+1+1,0,none⟩=false/\W.frozen? ⟨w.heap.size+1+1+1+1+1,0,none⟩=false:=fun W m=>
  ⟨mcell m (List.mem_of_getElem? (i:=5) rfl) rfl 0 rfl,mcell m (List.mem_of_getElem? (i:=5) rfl) rfl 1 rfl,mcell m (List.mem_of_getElem? (i:=4) rfl) rfl 0 rfl,mcell m (List.mem_of_getElem? (i:=3) rfl) rfl 0 rfl,mcell m (List.mem_of_getElem? (i:=2) rfl) rfl 0 rfl,
   mcell m (List.mem_of_getElem? (i:=1) rfl) rfl 0 rfl,mcell m (List.mem_of_getElem? (i:=0) rfl) rfl 0 rfl,mfroz m (List.mem_of_getElem? (i:=3) rfl) rfl 0 (by decide),mfroz m (List.mem_of_getElem? (i:=2) rfl) rfl 0 (by decide),mfroz m (List.mem_of_getElem? (i:=1) rfl) rfl 0 (by decide),mfroz m (List.mem_of_getElem? (i:=0) rfl) rfl 0 (by decide)⟩
 have hc34:=c17 (r.ext hm6.ext) ok _ rfl
 by_cases hz:(chkF F).2=0
 ·by_cases hz2:lnsE L=0
  ·obtain ⟨p0,p1,p2,p3⟩:=chkF_ok hz
   obtain ⟨rows,q1,q2,q3⟩:=r.r.ex
   simp only at q1
   have hNlen:=r.r.len
   simp only at hNlen
   gi_wp2_with (first
    | (refine ⟨trivial,?_⟩;gi_at_call 17;refine (callsIn_wide.2 hc34).mono ?_;rintro o W1 ⟨o2,rfl,hsm1,rfl,ext1⟩;obtain ⟨k2,k2',k3,k4,k5,k6,k7,z4,z5,z6,z7⟩:=facts W1 (hm6.ext' ext1))
    | (refine ⟨trivial,?_⟩;gi_at_call 37;refine (callsIn_wide.2 (c37 (rl.ext (hm6.ext' ext1).ext) hln hLl W1 rfl)).mono ?_;rintro o W2 ⟨o2,rfl,hsm2,rfl,ext2⟩;obtain ⟨j2,j2',j3,j4,j5,j6,j7,y4,y5,y6,y7⟩:=facts W2 ((hm6.ext' ext1).ext' ext2)))
   have hc136:=c38 (q1.ext ((hm6.ext' ext1).ext' ext2).ext) Rw.one (by omega) (c:=vC) W2.drew rfl
   gi_region_with (refine ⟨trivial,?_⟩;gi_at_call 38;refine (callsIn_wide.2 hc136).mono ?_;rintro o W3 ⟨o2,rfl,hsm3,a3,n3,c10003,rfl,hl3,f3⟩;have hfW3:=facts W3 (((hm6.ext' ext1).ext' ext2).ext' f3.ext);obtain ⟨e2,e2',e3,e4,e5,e6,e7,d4,d5,d6,d7⟩:=hfW3;obtain ⟨i2,i2',i3,i4,i5,i6,i7,x4,x5,x6,x7⟩:=facts (W3.alloc (Obj.cells #[.int .i64 vn,.slice a3 n3 c10003] 49)) ((((hm6.ext' ext1).ext' ext2).ext' f3.ext).ext' (Ext.push _ _)))
   all_goals (
    have hm3:=mbox (((hm6.ext' ext1).ext' ext2).add (t:=⟨1,a3,n3,c10003,rows.map Rw.v⟩) f3) [.int .i64 vn,.slice a3 n3 c10003] 49
    have hm4:=mset hm3 5 rfl 0 (by decide) (v:=.pointer (some ⟨W3.heap.size,0,none⟩)) rfl
    obtain ⟨A,hA⟩:∃ A,W3.heap.size=A:=⟨_,rfl⟩
    obtain ⟨W4,hW4⟩:∃ W4,(W3.alloc (Obj.cells #[.int .i64 vn,.slice a3 n3 c10003] 49)).setCell ⟨w.heap.size+1+1,0,none⟩ (.pointer (some ⟨W3.heap.size,0,none⟩))=W4:=⟨_,rfl⟩
    have hsm4:Same w W4:=hsm6.trans (hsm1.trans (hsm2.trans ((show Same W2 W2.drew from ⟨rfl,rfl,rfl,⟨Nat.le_refl _,.inl (Nat.le_succ _)⟩⟩).trans (hsm3.trans ((same_push W3 (.cells #[.int .i64 vn,.slice a3 n3 c10003] 49)).trans (by rw [<- hW4];exact setCell_same _ _ _))))))
    rw [hW4] at hm4 ⊢
    rw [hA] at hm4 ⊢
    simp only [List.set_cons_succ,List.set_cons_zero,List.length_cons,List.length_nil,Nat.reduceAdd] at hm4
    have g3:W4.cell? ⟨w.heap.size+1,0,none⟩=some (.slice la ln lc):=mcell hm4 (List.mem_of_getElem? (i:=6) rfl) rfl 0 rfl
    have g4:W4.cell? ⟨w.heap.size+1+1,0,none⟩=some (.pointer (some ⟨A,0,none⟩)):=mcell hm4 (List.mem_of_getElem? (i:=5) rfl) rfl 0 rfl
    have hc137:=c39 (some ⟨A,0,none⟩) la ln lc W4 rfl
    gi_wp2_with (refine ⟨trivial,?_⟩;gi_at_call 39;refine (callsIn_wide.2 hc137).mono ?_;rintro o W5 ⟨o2,rfl,hsm5,rfl,hW5⟩)
    have hm5':=mbox (mbox hm4 [.pointer (some ⟨A,0,none⟩)] 47) [.slice la ln lc] 37
    simp only [World.size_alloc,List.length_cons,List.length_nil,Nat.reduceAdd] at hm5'
    obtain ⟨S,hS⟩:∃ S,W4.heap.size=S:=⟨_,rfl⟩
    rw [hS] at hm5' ⊢
    have hm5:=mcast hm5' hW5
    have hsm5':Same w W5:=hsm4.trans hsm5
    have hB7:w.heap.size+1+1+1+1+1<W5.heap.size:=hm5.lt (t:=⟨1,some ⟨w.heap.size+1+1+1+1+1,0,none⟩,1,1,[.int .i64 0]⟩) (List.mem_of_getElem? (i:=4) rfl) rfl
    obtain ⟨T,hT⟩:∃ T,W5.heap.size=T:=⟨_,rfl⟩
    rw [hT] at hB7
    have hL1:L.length≤16384:=by unfold lnsE at hz2;split at hz2 <;> omega
    have hL2:lnsF L=0:=by unfold lnsE at hz2;rw [if_neg (by omega)] at hz2;exact hz2
    have hLn:=rl.len
    let X:List Itm:=[⟨1,some ⟨w.heap.size+1+1+1+1+1,0,none⟩,1,1,[.int .i64 0]⟩,⟨1,some ⟨w.heap.size+1+1+1+1,0,none⟩,1,1,[.int .i64 0]⟩,⟨1,some ⟨w.heap.size+1+1+1,0,none⟩,1,1,[.bool false]⟩,
     ⟨1,some ⟨w.heap.size+1+1,0,none⟩,1,1,[.pointer (some ⟨A,0,none⟩)]⟩,⟨1,some ⟨w.heap.size+1,0,none⟩,1,1,[.slice la ln lc]⟩,⟨1,some ⟨w.heap.size,0,none⟩,2,2,[.int .i64 vn,.slice va vN vC]⟩,
     ⟨1,some ⟨S+1,0,none⟩,1,1,[.slice la ln lc]⟩,⟨1,some ⟨S,0,none⟩,1,1,[.pointer (some ⟨A,0,none⟩)]⟩]
    have hst5:StM w.heap W5.heap A ⟨vn,⟨a3,n3,c10003⟩⟩ F X:=⟨r.n,rows,[],q3,hm5.perm (List.perm_append_comm (l₁:=([⟨1,some ⟨S+1,0,none⟩,1,1,[.slice la ln lc]⟩,⟨1,some ⟨S,0,none⟩,1,1,[.pointer (some ⟨A,0,none⟩)]⟩]:List Itm))),fun s hs=>⟨(q2 s hs).2,.inl (q2 s hs).1⟩⟩
    have hbF:Bd F:=⟨p0,p1,fun D hD=>⟨(p3 D hD).1,fun x hx=>by have:=(p3 D hD).2 x hx;omega⟩⟩
    refine rf_wide (gf:=56) (lb:=#[.pointer (some ⟨S+1,0,none⟩),.pointer (some ⟨S,0,none⟩)]) (by decide) rfl (enters_of Try.func56 (by kernel_rfl) rfl)
     (fun W2=>∃ F1 v X',Stp L ln F F1/\StM w.heap W2.heap A v F1 (X'++X)/\Same w W2)
     (fun c W2=>c=.ret/\Stp109 w F L A W2) ?hcall ?hdone ?hstop
    case hcall=>
     intro fn rc hrc
     rw [hT]
     have hr0:((W5.alloc (.deferred (some []))).alloc (.loop (rc .ready none))).heap[T]?=some (.deferred (some [])):=by
      rw [<- hT];exact (Below.heap_alloc _ _ _ (by simp)).trans (World.alloc_heap_new W5 _)
     have hr1:((W5.alloc (.deferred (some []))).alloc (.loop (rc .ready none))).heap[T+1]?=some (.loop (rc .ready none)):=by
      have:=World.alloc_heap_new (W5.alloc (.deferred (some []))) (.loop (rc .ready none));rwa [World.size_alloc,hT] at this
     refine (callsIn_wide (n:=2)).2 ((callsIn_wide (n:=1)).1 ((it56 w.heap A S (S+1) ln lc (T+1) la X L F w (fun h=>h[T+1]?=some (.loop (rc .ready none))/\h[T]?=some (.deferred (some [])))
      (fun W'=>W'.heap[T+1]?=some (.loop (rc .done (some .ret)))/\W'.heap[T]?=some (.deferred (some []))/\Stp109 w F L A W') rl (by omega) hL2 hbF (by omega) (List.mem_of_getElem? (i:=7) rfl) (List.mem_of_getElem? (i:=6) rfl)
      (fun h h' ⟨h1,h2⟩ hk=>⟨hk _ _ h1 rfl,hk _ _ h2 rfl⟩) ?hY _ ⟨vn,⟨a3,n3,c10003⟩⟩ (hst5.ext ((Ext.push _ _).trans (Ext.push _ _))) ⟨hr1,hr0⟩ (hsm5'.trans ((same_push W5 _).trans (same_push _ _)))).mono ?_))
     case hY=>
      rintro i ⟨g,sl⟩ e F1 F2 v X' W hx hst hdo hm ⟨hr1,hr2⟩ hsm
      obtain ⟨me,R,inner,a1,hmm,a3⟩:=hm
      have hil:=(List.getElem?_eq_some_iff.1 hx).1
      obtain ⟨ab,ao,rfl⟩:=rdls_spot rl (by omega)
      obtain ⟨x,hxe,hx2,hxs,hxc⟩:∃ x:Ln,L[i]=(x.g,x.s.l)/\Rd w.heap (some ((⟨ab,ao,none⟩:Addr).add (i*2))) 2 x.cs/\Rd w.heap x.s.a x.s.n (ints x.s.l)/\x.s.n≤x.s.c:=by
       exact rl.get (i:=i) (by omega) (K:=fun ad=>ad=⟨ab,ao,none⟩->∃ x:Ln,L[i]=(x.g,x.s.l)/\Rd w.heap (some (ad.add (i*2))) 2 x.cs/\Rd w.heap x.s.a x.s.n (ints x.s.l)/\x.s.n≤x.s.c) (fun ad hl x h1 h2 h3 h4 _=>⟨x,h4,h1,h2,h3⟩) rfl
      obtain ⟨g',⟨sa,sn,sc,sl'⟩⟩:=x
      rw [List.getElem?_eq_getElem hil,hxe] at hx
      simp only at hx hxs
      cases hx
      have hmB:=(mput hmm hr1 rfl (by omega) (.loop (rc .busy none))).perm permX
      have hlT:T+1<W.heap.size:=(Array.getElem?_eq_some_iff.1 hr1).1
      have hrB:(W.putObj (T+1) (.loop (rc .busy none))).heap[T+1]?=some (.loop (rc .busy none)):=World.putObj_heap_same hlT
      have hrD:(W.putObj (T+1) (.loop (rc .busy none))).heap[T]?=some (.deferred (some [])):=(World.putObj_heap_other (by omega)).trans hr2
      have hsB:Same w (W.putObj (T+1) (.loop (rc .busy none))):=hsm.trans (put_same _ _ _)
      obtain ⟨WB,hWB⟩:∃ WB,W.putObj (T+1) (.loop (rc .busy none))=WB:=⟨_,rfl⟩
      rw [hWB] at hmB hrB hrD hsB
      obtain ⟨q4,q5,q6,q7⟩:=got4 hmB
      have z4:=mfroz hmB (List.mem_of_getElem? (i:=3) rfl) rfl 0 (by decide)
      have z5:=mfroz hmB (List.mem_of_getElem? (i:=2) rfl) rfl 0 (by decide)
      have z6:=mfroz hmB (List.mem_of_getElem? (i:=1) rfl) rfl 0 (by decide)
      have z7:=mfroz hmB (List.mem_of_getElem? (i:=0) rfl) rfl 0 (by decide)
      have q3:=mcell hmB (List.mem_of_getElem? (i:=4) rfl) rfl 0 rfl
      have hx2':=hx2.ext hmB.ext
      have c0:WB.cell? ⟨ab,ao+i*2,none⟩=some (.bool g):=by have:=hx2'.fld 0 rfl;rwa [adn,adn] at this
      have c1:WB.cell? ⟨ab,ao+i*2+1,none⟩=some (.slice sa sn sc):=by have:=hx2'.fld 1 rfl;rwa [adn,adn] at this
      have hiln:i<ln:=by omega
      have hstop:∀ (done:Bool) (e':Int) (W3:World),W3=(((WB.setCell ⟨w.heap.size+1+1,0,none⟩ (.pointer (some ⟨A,0,none⟩))).setCell ⟨w.heap.size+1+1+1,0,none⟩ (.bool done)).setCell ⟨w.heap.size+1+1+1+1,0,none⟩ (.int .i64 (i:Int))).setCell ⟨w.heap.size+1+1+1+1+1,0,none⟩ (.int .i64 e') ->
        WalkR F L done i e'->W3.heap[T+1]?=some (.loop (rc .busy none))/\((W3.putObj (T+1) (.loop (rc .done (some .ret)))).heap[T+1]?=some (.loop (rc .done (some .ret)))/\(W3.putObj (T+1) (.loop (rc .done (some .ret)))).heap[T]?=some (.deferred (some []))/\Stp109 w F L A (W3.putObj (T+1) (.loop (rc .done (some .ret))))):=fun done e' W3 hW3 hwr=>by
       obtain ⟨mF,sF,kF⟩:=fin4 (v4:=.pointer (some ⟨A,0,none⟩)) (v5:=.bool done) (v6:=.int .i64 (i:Int)) (v7:=.int .i64 e') hmB rfl rfl rfl rfl hW3
       have k1:=(kF (T+1) (by omega) (by omega) (by omega) (by omega)).trans hrB
       have k0:=(kF T (by omega) (by omega) (by omega) (by omega)).trans hrD
       exact ⟨k1,World.putObj_heap_same (Array.getElem?_eq_some_iff.1 k1).1,(World.putObj_heap_other (by omega)).trans k0,hsB.trans (sF.trans (put_same _ _ _)),done,i,e',_,hwr,mput mF k1 rfl (by omega) _⟩
      have hwalk:∀ (done:Bool) (e':Int),((e≠0/\done=false/\e'=e)∨(e=0/\(g,sl)=(false,[])/\done=true/\e'=0))->WalkR F L done i e':=fun done e' hh=>by
       unfold WalkR
       rw [if_neg (by simp [hz]),if_neg (by simp [hz2])]
       refine .inl ⟨i,F1,F2,(g,sl),e,by rw [List.getElem?_eq_getElem hil,hxe],hst,hdo,?_⟩
       rcases hh with ⟨h1,h2,h3⟩ | ⟨h1,h2,h3,h4⟩
       ·exact .inl ⟨h1,h2,rfl,h3⟩
       ·exact .inr ⟨h1,h2,h3,rfl,h4⟩
      refine rf_round2 hrc hr1 rfl (fun t=>(((t.setIfInBounds 37 (.int .i64 (i:Int))).setIfInBounds 38 (.int .i64 e)).setIfInBounds 11 (.int .i64 (i:Int))).setIfInBounds 12 (.int .i64 e)) hWB (Cnt e g sl) (fun h=>.inl ⟨rfl,rfl,h.a,h.b⟩) (RtOk WB w.heap.size A i e g sl)
       (fun W3 ⟨done,e',h1,h2⟩=>by
        obtain ⟨k1,k2⟩:=hstop done e' W3 h1 (hwalk done e' h2)
        exact ⟨k1,.inr ⟨rfl,k2⟩⟩) ?assign ?body
      case assign=>
       intro K hK
       gi_wp2
       exact hK
      case body=>
       clear hstop hwalk hrc hmB hrB hrD hsB
       simp only [List.setIfInBounds_toArray,List.set_cons_succ,List.set_cons_zero]
       by_cases he:e=0
       ·subst he
        cases g with
        | true=>
         gi_wp2
         exact ⟨rfl,rfl,by simp⟩
        | false=>
         by_cases hsl:sl=[]
         ·subst hsl
          have hsn:sn=0:=by have:=hxs.ilen;simpa using this.symm
          subst hsn
          gi_wp2
          exact ⟨_,_,rfl,.inr ⟨rfl,rfl,rfl,rfl⟩⟩
         ·have hsn:sn≠0:=fun h0=>hsl (by have:=hxs.ilen;rw [h0] at this;exact List.length_eq_zero_iff.1 this)
          gi_wp2
          exact ⟨rfl,rfl,by simp [hsl]⟩
       ·gi_wp2
        exact ⟨_,_,rfl,.inl ⟨he,rfl,rfl⟩⟩
     rintro e W2 ⟨hv,(⟨F1,v,X',hs,hm,⟨k1,k0⟩,hsm⟩ | ⟨k1,k0,hst⟩)⟩
     ·exact ⟨hv,.inl ⟨k1,k0,F1,v,X',hs,hm,hsm⟩⟩
     ·exact ⟨hv,.inr ⟨.ret,k1,k0,rfl,hst⟩⟩
    case hdone=>
     rw [hT]
     rintro W2 o rr ⟨F1,v,X',hs,⟨me,R,inner,a1,hmm,a3⟩,hsm⟩ hl2 hK
     have hge:w.heap.size≤T+1:=by omega
     have hmB:=(mput hmm hl2 rfl hge o).perm permX
     have hsB:Same w (W2.putObj (T+1) o):=hsm.trans (put_same _ _ _)
     obtain ⟨WB,hWB⟩:∃ WB,W2.putObj (T+1) o=WB:=⟨_,rfl⟩
     rw [hWB] at hmB hK hsB ⊢
     obtain ⟨mF,sF,kF⟩:=fin4 (v4:=.pointer (some ⟨A,0,none⟩)) (v5:=.bool false) (v6:=.int .i64 0) (v7:=.int .i64 0) hmB rfl rfl rfl rfl rfl
     have hKF:=(kF T (by omega) (by omega) (by omega) (by omega)).trans hK
     obtain ⟨q4,q5,q6,q7⟩:=got4 hmB
     have z4:=mfroz hmB (List.mem_of_getElem? (i:=3) rfl) rfl 0 (by decide)
     have z5:=mfroz hmB (List.mem_of_getElem? (i:=2) rfl) rfl 0 (by decide)
     have z6:=mfroz hmB (List.mem_of_getElem? (i:=1) rfl) rfl 0 (by decide)
     have z7:=mfroz hmB (List.mem_of_getElem? (i:=0) rfl) rfl 0 (by decide)
     gi_wp2
     have mG:=mput mF hKF rfl (by omega) (.deferred none)
     obtain ⟨g4,g5,g6,g7⟩:=got4 mG
     refine ⟨by simp,.inl ⟨_,_,rfl,run_takeDeferred hKF,?_⟩⟩
     refine ⟨_,res27 rfl rfl rfl rfl g4 g5 g6 g7,_,rfl,hsB.trans (sF.trans (put_same _ _ _)),_,false,0,0,rfl,?_,mG.ext⟩
     unfold WalkR
     rw [if_neg (by simp [hz]),if_neg (by simp [hz2])]
     exact .inr ⟨F1,by rw [hLn];exact hs,rfl,rfl,rfl⟩
    case hstop=>
     rw [hT]
     rintro c W2 o rr ⟨rfl,hsm,done,at',e,Y,hwr,hmm⟩ hl2 hK
     have hge:w.heap.size≤T+1:=by omega
     have hmB:=mput hmm hl2 rfl hge o
     have hsB:Same w (W2.putObj (T+1) o):=hsm.trans (put_same _ _ _)
     obtain ⟨WB,hWB⟩:∃ WB,W2.putObj (T+1) o=WB:=⟨_,rfl⟩
     rw [hWB] at hmB hK hsB ⊢
     gi_wp2
     have mG:=mput hmB hK rfl (by omega) (.deferred none)
     obtain ⟨g4,g5,g6,g7⟩:=got4 mG
     refine ⟨by simp,.inl ⟨_,_,rfl,run_takeDeferred hK,?_⟩⟩
     exact ⟨_,res27 rfl rfl rfl rfl g4 g5 g6 g7,_,rfl,hsB.trans (put_same _ _ _),_,done,at',e,rfl,hwr,mG.ext⟩)
  ·gi_wp2_with (first
    | (refine ⟨trivial,?_⟩;gi_at_call 17;refine (callsIn_wide.2 hc34).mono ?_;rintro o W1 ⟨o2,rfl,hsm1,rfl,ext1⟩;obtain ⟨k2,k2',k3,k4,k5,k6,k7,z4,z5,z6,z7⟩:=facts W1 (hm6.ext' ext1))
    | (refine ⟨trivial,?_⟩;gi_at_call 37;refine (callsIn_wide.2 (c37 (rl.ext (hm6.ext' ext1).ext) hln hLl W1 rfl)).mono ?_;rintro o W2 ⟨o2,rfl,hsm2,rfl,ext2⟩;obtain ⟨j2,j2',j3,j4,j5,j6,j7,y4,y5,y6,y7⟩:=facts W2 ((hm6.ext' ext1).ext' ext2)))
   obtain ⟨m4,s4,_⟩:=fin4 (v4:=.pointer none) (v5:=.bool false) (v6:=.int .i64 0) (v7:=.int .i64 (lnsE L)) ((hm6.ext' ext1).ext' ext2) rfl rfl rfl rfl rfl
   obtain ⟨g4,g5,g6,g7⟩:=got4 m4
   refine ⟨_,res27 rfl rfl rfl rfl g4 g5 g6 g7,_,rfl,hsm6.trans (hsm1.trans (hsm2.trans s4)),none,false,0,lnsE L,rfl,?_,m4.ext⟩
   unfold WalkR
   rw [if_neg (by simp [hz]),if_pos hz2]
   exact ⟨rfl,rfl,rfl⟩
 ·gi_wp2_with (refine ⟨trivial,?_⟩;gi_at_call 17;refine (callsIn_wide.2 hc34).mono ?_;rintro o W1 ⟨o2,rfl,hsm1,rfl,ext1⟩;obtain ⟨k2,k2',k3,k4,k5,k6,k7,z4,z5,z6,z7⟩:=facts W1 (hm6.ext' ext1))
  obtain ⟨m4,s4,_⟩:=fin4 (v4:=.pointer none) (v5:=.bool false) (v6:=.int .i64 0) (v7:=.int .i64 (chkF F).2) (hm6.ext' ext1) rfl rfl rfl rfl rfl
  obtain ⟨g4,g5,g6,g7⟩:=got4 m4
  refine ⟨_,res27 rfl rfl rfl rfl g4 g5 g6 g7,_,rfl,hsm6.trans (hsm1.trans s4),none,false,0,(chkF F).2,rfl,?_,m4.ext⟩
  unfold WalkR
  rw [if_pos hz]
  exact ⟨rfl,rfl,rfl⟩
end Go.Proofs.Ytobageabpfkpcaa
