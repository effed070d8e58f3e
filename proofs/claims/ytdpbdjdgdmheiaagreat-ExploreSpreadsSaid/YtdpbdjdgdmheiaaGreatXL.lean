/- Words and facts that the claim's proof leans on. No condition. -/
import Derived.Test.YtdpbdjdgdmheiaaGreatXC
import Derived.Test.YtdpbdjdgdmheiaaGreatKEc
import Derived.Test.YtdpbdjdgdmheiaaGreatMC
import Derived.Test.YtdpbdjdgdmheiaaGreatKEb
import Derived.Test.YtdpbdjdgdmheiaaGreatMJ
import Derived.Test.YtdpbdjdgdmheiaaGreatSI
set_option linter.unusedVariables false
set_option linter.unusedSimpArgs false
namespace Go.Hx
def wantB (must:List Int) (k:Int) (a:Arc):Bool:=decide (k<0) || lit a.vl (must.getD k.toNat 0)
def mustP (must:List Int):List (Arc->Prop):=(fun _=>True)::must.map fun l a=>lit a.vl l=true
theorem wantB_neg {must:List Int}:(fun a=>wantB must (-1) a=true)=fun _=>True:=by funext a;simp [wantB]
theorem wantB_nat {must:List Int} {i:Nat} (hi:i<must.length):(fun a=>wantB must (i:Nat) a=true)=fun a=>lit a.vl must[i]=true:=by
 funext a
 have e1:decide (((i:Nat):Int)<0)=false:=decide_eq_false (by omega)
 have e2:must.getD (((i:Nat):Int)).toNat 0=must[i]:=by
  rw [show (((i:Nat):Int)).toNat=i by omega,List.getD_eq_getElem?_getD,List.getElem?_eq_getElem hi];rfl
 simp only [wantB,e1,e2,Bool.false_or]
theorem wantB_mem {must:List Int} {k:Int} (h0:-1≤k) (h1:k<must.length):(fun a=>wantB must k a=true)∈mustP must:=by
 by_cases hk:k = -1
 ·subst hk;rw [wantB_neg];exact List.mem_cons_self ..
 ·obtain ⟨i,rfl⟩:∃ i:Nat,k=i:=⟨k.toNat,by omega⟩
  rw [wantB_nat (by omega)]
  exact List.mem_cons_of_mem _ (List.mem_map.2 ⟨_,List.getElem_mem _,rfl⟩)
theorem wantB_all {must:List Int} {P:Arc->Prop} (h:P∈mustP must):∃ k:Int,-1≤k/\k<must.length/\P=fun a=>wantB must k a=true:=by
 rcases List.mem_cons.1 h with rfl | h
 ·exact ⟨-1,by omega,by omega,wantB_neg.symm⟩
 ·obtain ⟨l,hl,rfl⟩:=List.mem_map.1 h
  obtain ⟨i,hi,rfl⟩:=List.getElem_of_mem hl
  exact ⟨i,by omega,by omega,(wantB_nat hi).symm⟩
end Go.Hx
namespace Go.Proofs.YtdpbdjdgdmheiaaGreat
open Go.Hx Go.Deep
section
variable {h:Heap} {v:CV} {C:Circ}
noncomputable def badE (C:Circ) (i:Int):Int:=if fewE C≠0 then fewE C else if 0≤i/\i<C.bads.length then 0 else 5
def BadP (C:Circ) (i:Int) (h:Heap) (x:Value) (h':Heap):Prop:=Ext h h'/\((badE C i=0/\∃ z l,C.bads[i.toNat]?=some l/\x=.tuple #[.int .i64 z,.int .i64 0]/\BadIs (wdC C) (fun a=>lit a.vl l=true) z)∨(badE C i≠0/\x=.tuple #[.int .i64 0,.int .i64 (badE C i)]))
theorem badE_0 {i:Int} (h:badE C i=0):fewE C=0/\0≤i/\i<C.bads.length:=by
 unfold badE at h
 split at h
 ·rename_i h1;exact absurd h h1
 ·rename_i h1
  split at h
  ·rename_i h2;exact ⟨Decidable.not_not.1 h1,h2⟩
  ·simp at h
set_option maxRecDepth 4000 in
theorem c18 (r:CIs h v C) (ok:C.Ok) (i:Int):CallsH Tryz.prog 18 #[v.v,.int .i64 i] h (BadP C i h):=by
 have q4:=r.len.b
 refine run18 v i _ h ?_
 unfold VC18
 intro h1
 have e1:Ext h h1:=Ext.box h _
 have hb:Rd h1 (some ⟨h.size,0,none⟩) 11 v.cs:=boxC v 29
 refine ldC hb ((c42 (r.ext e1) ok).mono ?_)
 rintro _ h3 ⟨e3,⟨hz,k,rfl,w⟩ | ⟨hz,rfl⟩⟩
 rotate_left
 ·refine ⟨_,_,rfl,fun he=>absurd he hz,fun _=>⟨e1.trans e3,.inr ?_⟩⟩
  have hE:badE C i=fewE C:=by unfold badE;rw [if_pos hz]
  exact ⟨by rw [hE];exact hz,by rw [hE]⟩
 refine ⟨_,_,rfl,fun _=>?_,fun he=>absurd rfl he⟩
 have e03:=e1.trans e3
 have hb3:=hb.ext e3
 have r3:=r.ext e03
 obtain ⟨hc,hL,hI⟩:=fewE_0 hz
 have noi:¬ (0≤i/\i<C.bads.length)->BadP C i h (.tuple #[.int .i64 0,.int .i64 5]) h3:=fun hn=>by
  have hE:badE C i=5:=by unfold badE;rw [if_neg (by simp [hz]),if_neg hn]
  exact ⟨e03,.inr ⟨by rw [hE];omega,by rw [hE]⟩⟩
 unfold J18_0
 refine ⟨fun hi=>noi (by omega),fun hi=>⟨_,_,_,hb3.fld 4 rfl,fun hi2=>noi (by omega),fun hi2=>?_⟩⟩
 unfold J18_1
 refine ⟨_,_,_,hb3.fld 4 rfl,by omega,by omega,?_⟩
 refine r3.b.geti (j:=i) (by omega) (by omega) fun ad hl hcell=>⟨_,hcell,?_⟩
 obtain ⟨hb0,hb1⟩:=(good_lits hc).2.2.1 _ (List.getElem_mem hl)
 refine (c51 w hb0 hb1).mono ?_
 rintro _ h4 ⟨e4,z,rfl,bz⟩
 refine ⟨_,rfl,e03.trans e4,.inl ⟨?_,z,_,List.getElem?_eq_getElem hl,rfl,bz⟩⟩
 unfold badE
 rw [if_neg (by simp [hz]),if_pos (by omega)]
noncomputable def jusE (C:Circ) (j:Int):Int:=if fewE C≠0 then fewE C else if 0≤j/\j<C.just.length then 0 else 5
theorem jusE_0 {j:Int} (h:jusE C j=0):fewE C=0/\0≤j/\j<C.just.length:=by
 unfold jusE at h
 split at h
 ·rename_i h1;exact absurd h h1
 ·rename_i h1
  split at h
  ·rename_i h2;exact ⟨Decidable.not_not.1 h1,h2⟩
  ·simp at h
def JusP (C:Circ) (j:Int) (h:Heap) (x:Value) (h':Heap):Prop:=Ext h h'/\((jusE C j=0/\∃ k,x=.tuple #[.pointer (some k),.int .i64 0]/\WIs h' k C)∨(jusE C j≠0/\x=.tuple #[.pointer none,.int .i64 (jusE C j)]))
set_option maxRecDepth 4000 in
theorem c61 (r:CIs h v C) (ok:C.Ok) (j:Int):CallsH Tryz.prog 61 #[v.v,.int .i64 j] h (JusP C j h):=by
 have q4:=r.len.j
 refine run61 v j _ h ?_
 unfold VC61
 intro h1
 have e1:Ext h h1:=Ext.box h _
 have hb:Rd h1 (some ⟨h.size,0,none⟩) 11 v.cs:=boxC v 29
 refine ldC hb ((c42 (r.ext e1) ok).mono ?_)
 rintro _ h3 ⟨e3,⟨hz,k,rfl,w⟩ | ⟨hz,rfl⟩⟩
 rotate_left
 ·refine ⟨_,_,rfl,fun he=>absurd he hz,fun _=>⟨e1.trans e3,.inr ?_⟩⟩
  have hE:jusE C j=fewE C:=by unfold jusE;rw [if_pos hz]
  exact ⟨by rw [hE];exact hz,by rw [hE]⟩
 refine ⟨_,_,rfl,fun _=>?_,fun he=>absurd rfl he⟩
 have e03:=e1.trans e3
 have hb3:=hb.ext e3
 have noi:¬ (0≤j/\j<C.just.length)->JusP C j h (.tuple #[.pointer none,.int .i64 5]) h3:=fun hn=>by
  have hE:jusE C j=5:=by unfold jusE;rw [if_neg (by simp [hz]),if_neg hn]
  exact ⟨e03,.inr ⟨by rw [hE];omega,by rw [hE]⟩⟩
 unfold J61_0
 refine ⟨fun hi=>noi (by omega),fun hi=>⟨_,_,_,hb3.fld 6 rfl,fun hi2=>noi (by omega),fun hi2=>⟨e03,.inl ⟨?_,k,rfl,w⟩⟩⟩⟩
 unfold jusE
 rw [if_neg (by simp [hz]),if_pos (by omega)]
theorem must_lits (hz:(chk C).2=0) {j:Int} (h0:0≤j) (h1:j<C.just.length):(mustOf C j).length≤32768/\∀ l∈mustOf C j,0≤l/\l≤2*C.mx+1:=by
 obtain ⟨b0,b2,b3,b4,b5,b6,b7,b8,b9,b10,b11,b12⟩:=chk_bounds hz
 have g:=good_lits hz
 have hj:j.toNat<C.just.length:=by omega
 have hm:mustOf C j=C.just[j.toNat]++C.fair:=by unfold mustOf;rw [List.getD_eq_getElem?_getD,List.getElem?_eq_getElem hj];rfl
 have hs:=le_sumS (List.getElem_mem hj)
 rw [hm]
 refine ⟨by rw [List.length_append];omega,fun l hl=>?_⟩
 rcases List.mem_append.1 hl with hl | hl
 ·exact g.2.2.2.2.1 _ (List.getElem_mem hj) l hl
 ·exact g.2.2.2.2.2 l hl
variable {k:Addr}
set_option maxRecDepth 4000 in
theorem c63 (w:WIs h k C) {j:Int} (h0:0≤j) (h1:j<C.just.length):CallsH Tryz.prog 63 #[.pointer (some k),.int .i64 j] h fun x h'=>∃ a c,x=.slice a (mustOf C j).length c/\Fr h 1 h' a (mustOf C j).length c (ints (mustOf C j)):=by
 obtain ⟨hz,hL,hI⟩:=fewE_0 w.few
 obtain ⟨v,b,M,rk,r,_,_,_⟩:=w.ex
 have q6:=r.len.j
 obtain ⟨b0,b2,b3,b4,b5,b6,b7,b8,b9,b10,b11,b12⟩:=chk_bounds hz
 refine run63 (some k) j _ h (AtP.mk rfl ⟨_,_,_,by rw [addr_add0];exact rk.fld 6 rfl,by omega,by omega,?_⟩)
 refine r.j.get (i:=j.toNat) (by omega) fun ad hl x hc hr hxc hx1 hxn=>⟨_,_,_,hc,AtP.mk rfl ⟨_,_,_,by rw [addr_add0];exact rk.fld 7 rfl,?_⟩⟩
 intro h4
 have e4:Ext h h4:=Ext.push h _
 have hmust:mustOf C j=x.l++C.fair:=by unfold mustOf;rw [List.getD_eq_getElem?_getD,List.getElem?_eq_getElem hl,hx1];rfl
 have hxl:x.l.length≤16384:=by rw [hx1];have:=le_sumS (List.getElem_mem hl);omega
 refine (c104 (rows:=[x,⟨v.f.a,v.f.n,v.f.c,C.fair⟩]) (L:=[x.l,C.fair]) (Fr.lit (.refl h) [.slice x.a x.n x.c,.slice v.f.a v.f.n v.f.c] 22 2 rfl).rd (fun s hs=>?_) rfl (by omega) (fun l hl=>?_)).mono ?_
 ·simp only [List.mem_cons,List.not_mem_nil,or_false] at hs
  rcases hs with rfl | rfl
  ·exact hr.ext e4
  ·exact r.f.ext e4
 ·simp only [List.mem_cons,List.not_mem_nil,or_false] at hl
  rcases hl with rfl | rfl
  ·exact hxl
  ·exact b8
 rintro _ h5 ⟨ma,mc,rfl,f5⟩
 have hflat:[x.l,C.fair].flatten=mustOf C j:=by rw [hmust];simp
 rw [hflat] at f5 ⊢
 exact ⟨_,_,_,rfl,_,_,rfl,f5.base e4⟩
theorem c103 {x:AW} {kp mp:Addr} {z:Int} {a:Option Addr} {n c:Nat} {must:List Int} (hk:cellH h kp=some (.int .i64 z)) (hm:cellH h mp=some (.slice a n c)) (rm:Rd h a n (ints must)) (rv:Rd h x.sl.a x.sl.n (bools x.vl)) (hz:z<must.length)
  (hb:∀ l∈must,0≤l/\l≤9223372036854775807/\(l / 2).toNat<x.sl.n):CallsH Tryz.prog 103 #[.agg x.cs.toArray,.pointer (some kp),.pointer (some mp)] h (Xt (.bool (wantB must z x.arc)) h):=by
 have hlen:=rm.ilen
 refine run103 x.row x.nx x.sl.a x.sl.n x.sl.c (some kp) (some mp) _ h ?_
 unfold VC103
 intro h3
 have e3:Ext h h3:=Ext.push h _
 have r3:Rd h3 (some ⟨h.size,0,none⟩) 3 x.cs:=(Fr.lit (.refl h) x.cs 148 3 rfl).rd
 refine AtP.mk rfl ⟨_,Ext.cell e3 hk,fun hneg=>?_,fun hneg=>⟨_,_,_,r3.fld 2 rfl,AtP.mk rfl ⟨_,_,_,Ext.cell e3 hm,AtP.mk rfl ⟨_,Ext.cell e3 hk,by omega,by omega,?_⟩⟩⟩⟩
 ·have:wantB must z x.arc=true:=by simp [wantB,hneg]
  rw [this]
  exact ⟨rfl,e3⟩
 ·refine (rm.ext e3).geti (j:=z) (by omega) (by omega) fun ad hl hc=>⟨_,hc,?_⟩
  obtain ⟨h0,h1,h2⟩:=hb _ (List.getElem_mem hl)
  refine use (c92 (rv.ext e3) h0 h1 h2) ⟨_,rfl,?_⟩
  have:wantB must z x.arc=lit x.vl must[z.toNat]:=by
   unfold wantB
   rw [decide_eq_false hneg,Bool.false_or,List.getD_eq_getElem?_getD,List.getElem?_eq_getElem hl];rfl
  rw [this]
  exact ⟨rfl,e3⟩
end
end Go.Proofs.YtdpbdjdgdmheiaaGreat
namespace Go.Hx
theorem nodupSub {α:Type} [DecidableEq α]:∀ {l m:List α},l.Nodup->(∀ x∈l,x∈m)->l.length≤m.length
 | [],m,_,_=>Nat.zero_le _
 | x::l,m,nd,h=>by
  rw [List.nodup_cons] at nd
  have hx:=h x (List.mem_cons_self ..)
  have h1:=nodupSub (l:=l) (m:=m.erase x) nd.2 fun y hy=>by
   refine (List.mem_erase_of_ne fun e=>nd.1 ?_).2 (h y (List.mem_cons_of_mem _ hy))
   rw [<- e];exact hy
  rw [List.length_erase_of_mem hx] at h1
  have:0<m.length:=List.length_pos_of_mem hx
  rw [List.length_cons]
  omega
theorem nodupAll {α:Type} [DecidableEq α] {l m:List α} (nd:l.Nodup) (h:∀ x∈l,x∈m) (hl:m.length≤l.length):∀ x∈m,x∈l:=fun x hx=>by
 refine Decidable.byContradiction fun hn=>?_
 have:=nodupSub (l:=x::l) (m:=m) (List.nodup_cons.2 ⟨hn,nd⟩) fun y hy=>by
  rcases List.mem_cons.1 hy with rfl | hy
  ·exact hx
  ·exact h y hy
 rw [List.length_cons] at this
 omega
abbrev one1:Unit->Value:=fun _=>.int .i64 1
def keysM (M:List (Nat×Unit)):List Nat:=M.map Prod.fst
theorem keysM_len {M:List (Nat×Unit)}:(keysM M).length=M.length:=by simp [keysM]
theorem atM_in {M:List (Nat×Unit)} {s:Nat} {u:Unit} (h:atM M s=some u):s∈keysM M:=List.mem_map.2 ⟨_,atM_mem h,rfl⟩
theorem atM_out {M:List (Nat×Unit)} {s:Nat} (h:atM M s=none):s∉keysM M:=fun hm=>by
 obtain ⟨p,hp,e⟩:=List.mem_map.1 hm
 exact atM_none' h p hp e
theorem keysM_put {M:List (Nat×Unit)} {s:Nat} (h:s∉keysM M):keysM (putM M s ())=keysM M++[s]:=by
 rw [putM_none (l:=M) (x:=s) (fun p hp e=>h (List.mem_map.2 ⟨p,hp,e⟩)),keysM,List.map_append]
 rfl
theorem keysM_del {M:List (Nat×Unit)} {s t:Nat}:t∈keysM (delM M s)↔t∈keysM M/\t≠s:=by
 unfold keysM delM
 simp only [List.mem_map,List.mem_filter,decide_eq_true_eq]
 constructor
 ·rintro ⟨p,⟨h1,h2⟩,rfl⟩;exact ⟨⟨p,h1,rfl⟩,h2⟩
 ·rintro ⟨⟨p,h1,rfl⟩,h2⟩;exact ⟨p,⟨h1,h2⟩,rfl⟩
def stepB (W:Wd) (G K:List Nat) (p:Arc->Bool) (s:Nat):Bool:=(W.arcs s).any fun a=>decide (a.nx∈G) && (p a || decide (a.nx∈K))
theorem stepB_can {W:Wd} {G K:List Nat} {p:Arc->Bool} (hK:∀ s∈K,Can W (·∈G) (fun a=>p a=true) s) {s:Nat} (hs:s∈G) (h:stepB W G K p s=true):Can W (·∈G) (fun a=>p a=true) s:=by
 obtain ⟨a,ha,hb⟩:=List.any_eq_true.1 h
 simp only [Bool.and_eq_true,Bool.or_eq_true,decide_eq_true_eq] at hb
 rcases hb.2 with hp | hk
 ·exact .now hs ha hb.1 hp
 ·exact .on hs ha hb.1 (hK _ hk)
theorem can_closed {W:Wd} {G K:List Nat} {p:Arc->Bool} (hc:∀ s∈G,stepB W G K p s=true->s∈K) {s:Nat} (h:Can W (·∈G) (fun a=>p a=true) s):s∈K:=by
 induction h with
 | now h1 h2 h3 h4=>exact hc _ h1 (List.any_eq_true.2 ⟨_,h2,by simp only [Bool.and_eq_true,Bool.or_eq_true,decide_eq_true_eq];exact ⟨h3,.inl h4⟩⟩)
 | on h1 h2 h3 _ ih=>exact hc _ h1 (List.any_eq_true.2 ⟨_,h2,by simp only [Bool.and_eq_true,Bool.or_eq_true,decide_eq_true_eq];exact ⟨h3,.inr ih⟩⟩)
end Go.Hx
namespace Go.Proofs.YtdpbdjdgdmheiaaGreat
open Go.Hx Go.Deep
section
variable {h:Heap} {k:Addr} {C:Circ}
theorem CallV.clo3 {g:FuncId} {x c d e:Value} {K:Value->Heap->Prop} (hg:callOk Tryz.prog g=true) (hc:CallsH Tryz.prog g #[x,c,d,e] h K):CallV Tryz.prog (.func (.func g) #[] #[c,d,e]) [x] h K:=⟨hg,hc⟩
theorem CallV.clo2 {g:FuncId} {x c d:Value} {K:Value->Heap->Prop} (hg:callOk Tryz.prog g=true) (hc:CallsH Tryz.prog g #[x,c,d] h K):CallV Tryz.prog (.func (.func g) #[] #[c,d]) [x] h K:=⟨hg,hc⟩
theorem ok141:callOk Tryz.prog 141=true:=by kernel_rfl
theorem ok103:callOk Tryz.prog 103=true:=by kernel_rfl
theorem c141 {x:AW} {gp wp cp:Addr} {gb cb:Nat} {G K:List (Nat×Unit)} {f:Value} {b:Bool} (hg:cellH h gp=some (.map (some gb))) (hw:cellH h wp=some f) (hc:cellH h cp=some (.map (some cb))) (mg:MapIs ukey one1 h gb G) (mc:MapIs ukey one1 h cb K)
  (rv:Rd h x.sl.a x.sl.n (bools x.vl)) (hf:∀ (h':Heap) (Q:Value->Heap->Prop),Ext h h'->Rd h' x.sl.a x.sl.n (bools x.vl)->(∀ h'',Ext h' h''->Q (.bool b) h'')->CallV Tryz.prog f [.agg x.cs.toArray] h' Q) :
  CallsH Tryz.prog 141 #[.agg x.cs.toArray,.pointer (some gp),.pointer (some wp),.pointer (some cp)] h (Xt (.bool (decide (x.nx∈keysM G) && (b || decide (x.nx∈keysM K)))) h):=by
 refine run141 x.row x.nx x.sl.a x.sl.n x.sl.c (some gp) (some wp) (some cp) _ h ?_
 unfold VC141
 intro h3
 have e3:Ext h h3:=Ext.push h _
 have r3:Rd h3 (some ⟨h.size,0,none⟩) 3 x.cs:=(Fr.lit (.refl h) x.cs 148 3 rfl).rd
 refine AtP.mk rfl ⟨_,Ext.cell e3 hg,_,cells1 (r3.fld 1 rfl),MapIs.look (val:=one1) ukr (mg.ext e3) x.nx (fun hno=>⟨fun hh=>absurd hh (by omega),fun _=>?_⟩) fun u hu=>⟨_,rfl,fun _=>?_,fun hh=>absurd (show (0:Int)<1 by omega) hh⟩⟩
 ·rw [decide_eq_false (atM_out hno),Bool.false_and]
  exact ⟨rfl,e3⟩
 ·rw [decide_eq_true (atM_in hu),Bool.true_and]
  refine AtP.mk rfl ⟨_,Ext.cell e3 hw,_,_,_,_,_,r3.cells,hf h3 _ e3 (rv.ext e3) fun h4 e4=>⟨_,rfl,?_⟩⟩
  have e04:=e3.trans e4
  cases b with
  | true=>exact BIf.t ⟨rfl,e04⟩
  | false=>
   refine BIf.f (AtP.mk rfl ⟨_,Ext.cell e04 hc,_,cells1 ((r3.ext e4).fld 1 rfl),MapIs.look (val:=one1) ukr (mc.ext e04) x.nx (fun hno=>⟨fun hh=>absurd hh (by omega),fun _=>?_⟩) fun u hu=>⟨_,rfl,fun _=>?_,fun hh=>absurd (show (0:Int)<1 by omega) hh⟩⟩)
   ·rw [decide_eq_false (atM_out hno)];exact ⟨rfl,e04⟩
   ·rw [decide_eq_true (atM_in hu)];exact ⟨rfl,e04⟩
structure Kp (h h':Heap) (gp wp cp:Addr) (gb cb:Nat) (f:Value) (K:List (Nat×Unit)):Prop where
 map:MapIs ukey one1 h' cb K
 nd:(keysM K).Nodup
 ext:Ext h h'
 g:cellH h' gp=some (.map (some gb))
 w:cellH h' wp=some f
 c:cellH h' cp=some (.map (some cb))
theorem Kp.more {h' h'':Heap} {gp wp cp:Addr} {gb cb:Nat} {f:Value} {K:List (Nat×Unit)} (p:Kp h h' gp wp cp gb cb f K) (e:Ext h' h''):Kp h h'' gp wp cp gb cb f K:=
 ⟨p.map.ext e,p.nd,p.ext.trans e,Ext.cell e p.g,Ext.cell e p.w,Ext.cell e p.c⟩
theorem Kp.off {h' h'':Heap} {gp wp cp:Addr} {gb cb j:Nat} {f:Value} {K:List (Nat×Unit)} (p:Kp h h' gp wp cp gb cb f K) (u:Upd (fun i=>i=j) h' h'') (h1:h.size≤j) (h2:cb≠j) (h3:gp.block≠j) (h4:wp.block≠j) (h5:cp.block≠j):Kp h h'' gp wp cp gb cb f K:=
 ⟨p.map.upd u h2,p.nd,p.ext.newer u fun i hi e=>by omega,u.cell h3 p.g,u.cell h4 p.w,u.cell h5 p.c⟩
theorem Kp.put {h' h'':Heap} {gp wp cp:Addr} {gb cb:Nat} {f:Value} {K:List (Nat×Unit)} (p:Kp h h' gp wp cp gb cb f K) {s:Nat} (hs:s∉keysM K) (mp:MapIs ukey one1 h'' cb (putM K s ())) (u:Upd (fun i=>i=cb) h' h'') (h1:h.size≤cb) (h3:gp.block≠cb) (h4:wp.block≠cb) (h5:cp.block≠cb):Kp h h'' gp wp cp gb cb f (putM K s ()):=
 ⟨mp,by rw [keysM_put hs];exact List.nodup_append.2 ⟨p.nd,(List.nodup_cons.2 ⟨by simp,.nil⟩),fun a ha b hb e=>hs (by rw [List.mem_singleton] at hb;rw [<- hb,<- e];exact ha)⟩,p.ext.newer u fun i hi e=>by omega,u.cell h3 p.g,u.cell h4 p.w,u.cell h5 p.c⟩
set_option maxRecDepth 4000 in
theorem c102 (w:WIs h k C) {gb:Nat} {G:List (Nat×Unit)} (mg:MapIs ukey one1 h gb G) (nd:(keysM G).Nodup) (hlt:∀ s∈keysM G,s<2 ^ C.lats.length) {fn:Fn} {fa fb:Array Value} {p:Arc->Bool}
  (hf:∀ (h':Heap) (x:AW) (s:Nat) (K:Value->Heap->Prop),Ext h h'->x.arc∈(wdC C).arcs s->Rd h' x.sl.a x.sl.n (bools x.vl)->(∀ h'',Ext h' h''->K (.bool (p x.arc)) h'')->CallV Tryz.prog (.func fn fa fb) [.agg x.cs.toArray] h' K) :
  CallsH Tryz.prog 102 #[.pointer (some k),.map (some gb),.func fn fa fb] h fun x h'=>x=.tuple #[]/\Upd (fun i=>i=gb) h h'/\∃ G',MapIs ukey one1 h' gb G'/\(keysM G').Nodup/\∀ s,s∈keysM G'↔Go.Hx.Can (wdC C) (·∈keysM G) (fun a=>p a=true) s:=by
 obtain ⟨hz,hL,hI⟩:=fewE_0 w.few
 have hgb:gb<h.size:=mg.lt
 refine run102 (some k) (some gb) (.func fn fa fb) _ h ?_
 unfold VC102
 intro h1 h2 h3
 have z1:h1.size=h.size+1:=by simp [h1]
 have z2:h2.size=h.size+2:=by simp [h2,z1]
 have z3:h3.size=h.size+3:=by simp [h3,z2]
 have e1:Ext h h1:=Ext.push h _
 have e2:Ext h1 h2:=Ext.push h1 _
 have e3:Ext h2 h3:=Ext.push h2 _
 have g1:cellH h1 ⟨h.size,0,none⟩=some (.map (some gb)):=by
  have:=(Fr.lit (.refl h) [Value.map (some gb)] 73 1 rfl).rd.fld 0 rfl
  rwa [addr_add0] at this
 have w2:cellH h2 ⟨h1.size,0,none⟩=some (.func fn fa fb):=by
  have:=(Fr.lit (.refl h1) [Value.func fn fa fb] 159 1 rfl).rd.fld 0 rfl
  rwa [addr_add0] at this
 have m3:MapIs (α:=Nat) ukey one1 h3 h2.size []:=MapIs.new h2
 refine boxK rfl fun h4 e4 b4=>?_
 have c10004:cellH h4 ⟨h3.size,0,none⟩=some (.map (some h2.size)):=by
  have:=b4.fld 0 rfl
  rwa [addr_add0] at this
 have e34:Ext h2 h4:=e3.trans e4
 have kp0:Kp h h4 ⟨h.size,0,none⟩ ⟨h1.size,0,none⟩ ⟨h3.size,0,none⟩ gb h2.size (.func fn fa fb) []:=
  ⟨m3.ext e4,.nil,(e1.trans e2).trans e34,Ext.cell (e2.trans e34) g1,Ext.cell e34 w2,c10004⟩
 have bound:∀ K:List (Nat×Unit),(keysM K).Nodup->(∀ s∈keysM K,Go.Hx.Can (wdC C) (·∈keysM G) (fun a=>p a=true) s)->K.length≤G.length:=fun K kn hK=>by
  rw [<- keysM_len,<- keysM_len]
  exact nodupSub kn fun s hs=>(hK s hs).in
 refine ⟨fun again h' m=>∃ K,Kp h h' ⟨h.size,0,none⟩ ⟨h1.size,0,none⟩ ⟨h3.size,0,none⟩ gb h2.size (.func fn fa fb) K/\(∀ s∈keysM K,Go.Hx.Can (wdC C) (·∈keysM G) (fun a=>p a=true) s)/\(again=false->∀ s∈keysM G,stepB (wdC C) (keysM G) (keysM K) p s=true->s∈keysM K)/\m=if again then G.length+1-K.length else 0,⟨_,[],kp0,fun s hs=>by (cases hs),fun hh=>by (cases hh),rfl⟩,?_⟩
 rintro again h5 m ⟨K,kp,hK,hcl,rfl⟩
 unfold B102_9
 have mg5:MapIs ukey one1 h5 gb G:=mg.ext kp.ext
 cases again with
 | true=>
  refine BIf.t ?_
  unfold J102_1
  refine ⟨_,kp.g,mg5.range nd fun h6 it6 e6=>?_⟩
  have hcb5:h2.size<h5.size:=kp.map.lt
  have h3lt:h3.size<h5.size:=cellH_lt kp.c
  refine ⟨fun again1 h' m=>∃ done K',MapIt ukey one1 h' h5.size gb G done/\Kp h h' ⟨h.size,0,none⟩ ⟨h1.size,0,none⟩ ⟨h3.size,0,none⟩ gb h2.size (.func fn fa fb) K'/\(∀ s∈keysM K',Go.Hx.Can (wdC C) (·∈keysM G) (fun a=>p a=true) s)/\m=leftM G done /\
   (if again1 then K.length<K'.length else K'=K/\∀ s∈done,stepB (wdC C) (keysM G) (keysM K) p s=true->s∈keysM K),⟨_,[],K,it6,kp.more e6,hK,rfl,by rw [if_neg (by simp)];exact ⟨rfl,fun s hs=>by (cases hs)⟩⟩,?_⟩
  rintro again1 h8 m1 ⟨done,K',it8,kp8,hK',rfl,hag⟩
  have bK:=bound K' kp8.nd hK'
  unfold B102_5
  refine ⟨rfl,it8.next (fun hall=>?_) fun q hq hnd h9 e it9 u9 hk hv hme=>⟨_,rfl,_,rfl,?_⟩⟩
  ·cases again1 with
   | true=>
    rw [if_pos rfl] at hag
    exact ⟨G.length+1-K'.length,by rw [if_pos rfl];omega,K',kp8,hK',fun hh=>by (cases hh),rfl⟩
   | false=>
    rw [if_neg (by simp)] at hag
    obtain ⟨rfl,hd⟩:=hag
    refine ⟨0,by rw [if_pos rfl];omega,K',kp8,hK',fun _ s hs=>?_,rfl⟩
    obtain ⟨q,hq,rfl⟩:=List.mem_map.1 hs
    exact hd _ (hall q hq)
  ·have hql:q.1∈keysM G:=List.mem_map.2 ⟨q,hq,rfl⟩
   have kp9:=kp8.off u9 (by omega) (by omega) (by simp only;omega) (by simp only;omega) (by simp only;omega)
   unfold J102_3
   refine ⟨rfl,hme _ ⟨_,hk,_,hv,?_⟩⟩
   refine boxK rfl fun h12 e12 b12=>?_
   have kp12:=kp9.more e12
   have it12:=it9.ext e12
   have skip:∀ h',Ext h12 h'->(stepB (wdC C) (keysM G) (keysM K') p q.1=true->q.1∈keysM K')->∃ m'<leftM G done,∃ done K',MapIt ukey one1 h' h5.size gb G done/\Kp h h' ⟨h.size,0,none⟩ ⟨h1.size,0,none⟩ ⟨h3.size,0,none⟩ gb h2.size (.func fn fa fb) K'/\(∀ s∈keysM K',Go.Hx.Can (wdC C) (·∈keysM G) (fun a=>p a=true) s)/\m'=leftM G done /\
     (if again1 then K.length<K'.length else K'=K/\∀ s∈done,stepB (wdC C) (keysM G) (keysM K) p s=true->s∈keysM K):=fun h' e hs=>by
    refine ⟨_,leftM_lt hq hnd,q.1::done,K',it12.ext e,kp12.more e,hK',rfl,?_⟩
    cases again1 with
    | true=>exact hag
    | false=>
     rw [if_neg (by simp)] at hag ⊢
     obtain ⟨rfl,hd⟩:=hag
     refine ⟨rfl,fun s hm=>?_⟩
     rcases List.mem_cons.1 hm with rfl | hm
     ·exact hs
     ·exact hd s hm
   have cell12:cellsH h12 ⟨h9.size,0,none⟩ 0 [.int .u64 (q.1:Int)]:=by
    rw [<- addr_add0 ⟨h9.size,0,none⟩];exact cells1 (b12.fld 0 rfl)
   have go:q.1∉keysM K'->J102_4 Tryz.prog h (some k) h1 h3 again1 (fun st' h'=>∃ m'<leftM G done,∃ done K',MapIt ukey one1 h' h5.size gb G done/\Kp h h' ⟨h.size,0,none⟩ ⟨h1.size,0,none⟩ ⟨h3.size,0,none⟩ gb h2.size (.func fn fa fb) K'/\(∀ s∈keysM K',Go.Hx.Can (wdC C) (·∈keysM G) (fun a=>p a=true) s)/\m'=leftM G done /\
     (if st' then K.length<K'.length else K'=K/\∀ s∈done,stepB (wdC C) (keysM G) (keysM K) p s=true->s∈keysM K)) h9 h12:=fun hnk=>by
    obtain ⟨v,wb,WM,rk,r,wmp,wma,wmn⟩:=(w.ext kp12.ext).ex
    have hplt:q.1<2 ^ C.lats.length:=hlt _ hql
    unfold J102_4
    refine AtP.mk rfl ⟨_,rk.fld 11 rfl,_,cell12,?_⟩
    show MapLook _ (ukey q.1) h12 (some wb) none _ _
    have tell:∀ sl:Sl,ArcsIs h12 sl ((wdC C).arcs q.1)->CallsH Tryz.prog 99 #[sl.v,.func (.func 141) #[] #[.pointer (some ⟨h.size,0,none⟩),.pointer (some ⟨h1.size,0,none⟩),.pointer (some ⟨h3.size,0,none⟩)]] h12 (Xt (.bool (stepB (wdC C) (keysM G) (keysM K') p q.1)) h12):=fun sl ha=>by
     have hw:((wdC C).arcs q.1).length≤2 ^ C.ins.length:=warcs_len
     have h64:2 ^ C.ins.length≤64:=Nat.pow_le_pow_right (n:=2) (by omega) hI
     have hln:=ha.len
     refine c99g (p:=fun a=>decide (a.nx∈keysM G) && (p a || decide (a.nx∈keysM K'))) ha (by omega) fun h' x Q e hx rv hQ=>?_
     have kq:=kp12.more e
     exact CallV.clo3 ok141 (useX (c141 (b:=p x.arc) kq.g kq.w kq.c (mg.ext kq.ext) kq.map rv fun h'' Q' e' rv' hQ'=>hf h'' x q.1 Q' (kq.ext.trans e') hx rv' hQ') hQ)
    have fin:∀ h',Ext h12 h'->∀ {t:Bool},t=stepB (wdC C) (keysM G) (keysM K') p q.1->∀ {A B:Prop},((∀ h'',MapIs ukey one1 h'' h2.size (putM K' q.1 ())->Upd (fun i=>i=h2.size) h' h''->∃ m'<leftM G done,∃ done K',MapIt ukey one1 h'' h5.size gb G done/\Kp h h'' ⟨h.size,0,none⟩ ⟨h1.size,0,none⟩ ⟨h3.size,0,none⟩ gb h2.size (.func fn fa fb) K'/\(∀ s∈keysM K',Go.Hx.Can (wdC C) (·∈keysM G) (fun a=>p a=true) s)/\m'=leftM G done /\
      (if true then K.length<K'.length else K'=K/\∀ s∈done,stepB (wdC C) (keysM G) (keysM K) p s=true->s∈keysM K))->A)->((∃ m'<leftM G done,∃ done K',MapIt ukey one1 h' h5.size gb G done/\Kp h h' ⟨h.size,0,none⟩ ⟨h1.size,0,none⟩ ⟨h3.size,0,none⟩ gb h2.size (.func fn fa fb) K'/\(∀ s∈keysM K',Go.Hx.Can (wdC C) (·∈keysM G) (fun a=>p a=true) s)/\m'=leftM G done /\
      (if again1 then K.length<K'.length else K'=K/\∀ s∈done,stepB (wdC C) (keysM G) (keysM K) p s=true->s∈keysM K))->B)->BIf t A B:=fun h' e {t} ht {A B} hA hB=>by
     cases t with
     | false=>exact BIf.f (hB (skip h' e fun hs=>by rw [hs] at ht;cases ht))
     | true=>
      refine BIf.t (hA fun h'' mp u=>?_)
      have it':=(it12.ext e).upd u (by omega) (by omega)
      refine ⟨_,leftM_lt hq hnd,q.1::done,putM K' q.1 (),it',(kp12.more e).put hnk mp u (by omega) (by simp only;omega) (by simp only;omega) (by simp only;omega),fun s hs=>?_,rfl,?_⟩
      ·rw [keysM_put hnk,List.mem_append,List.mem_singleton] at hs
       rcases hs with hs | rfl
       ·exact hK' s hs
       ·exact stepB_can hK' hql ht.symm
      ·rw [if_pos rfl,<- keysM_len (M:=putM K' q.1 ()),keysM_put hnk,List.length_append,keysM_len,List.length_singleton]
       cases again1 with
       | true=>rw [if_pos rfl] at hag;omega
       | false=>rw [if_neg (by simp)] at hag;rw [hag.1];omega
    refine MapIs.look (val:=Sl.v) ukr wmp q.1 (fun hnone=>?_) fun sl hsl=>⟨_,_,_,rfl,?_⟩
    ·have hnil:=wmn _ hplt hnone
     have ha0:ArcsIs h12 ⟨none,0,0⟩ ((wdC C).arcs q.1):=by rw [hnil];exact ⟨[],.nil,rfl,fun v hv=>by (cases hv)⟩
     exact useX (tell ⟨none,0,0⟩ ha0) fun h14 e14=>⟨_,rfl,fin h14 e14 rfl (fun hA=>⟨_,(kp12.more e14).c,_,(b12.ext e14).cells,MapIs.put (val:=one1) ukr (kp12.more e14).map q.1 () fun h'' mp u=>hA h'' mp u⟩) fun hB=>hB⟩
    ·exact useX (tell sl (wma _ sl hsl)) fun h14 e14=>⟨_,rfl,fin h14 e14 rfl (fun hA=>⟨_,(kp12.more e14).c,_,(b12.ext e14).cells,MapIs.put (val:=one1) ukr (kp12.more e14).map q.1 () fun h'' mp u=>hA h'' mp u⟩) fun hB=>hB⟩
   refine ⟨_,kp12.c,_,cell12,MapIs.look (val:=one1) ukr kp12.map q.1 (fun hno=>⟨fun hh=>absurd hh (by omega),fun _=>go (atM_out hno)⟩) fun u hu=>⟨_,rfl,fun _=>?_,fun hh=>absurd (show (0:Int)<1 by omega) hh⟩⟩
   exact skip h12 (.refl _) fun _=>atM_in hu
 | false=>
  refine BIf.f ?_
  have hcl':=hcl rfl
  unfold J102_0
  refine ⟨_,kp.g,mg5.range nd fun h6 it6 e6=>?_⟩
  have hcb5:h2.size<h5.size:=kp.map.lt
  have h3lt:h3.size<h5.size:=cellH_lt kp.c
  refine ⟨fun _ h' m=>∃ done G',MapIt ukey one1 h' h5.size gb G' done/\MapIs ukey one1 h' h2.size K/\cellH h' ⟨h.size,0,none⟩=some (.map (some gb))/\cellH h' ⟨h3.size,0,none⟩=some (.map (some h2.size))/\Upd (fun i=>i=gb) h h'/\m=leftM G' done/\(∀ s,s∈keysM G'↔s∈keysM G/\(s∈done->s∈keysM K)),⟨_,[],G,it6,kp.map.ext e6,Ext.cell e6 kp.g,Ext.cell e6 kp.c,Upd.wide (kp.ext.trans e6),rfl,fun s=>by simp⟩,?_⟩
  rintro _ h8 m1 ⟨done,G',it8,mc8,g8,c10008,u8,rfl,hG'⟩
  unfold B102_8
  refine ⟨rfl,it8.next (fun hall=>?_) fun q hq hnd h9 e it9 u9 hk hv hme=>⟨_,rfl,_,rfl,?_⟩⟩
  ·refine ⟨rfl,u8,G',it8.map,it8.nd,fun s=>?_⟩
   rw [hG']
   constructor
   ·rintro ⟨h1,h2⟩
    have hs:s∈keysM G':=(hG' s).2 ⟨h1,h2⟩
    obtain ⟨q,hq,rfl⟩:=List.mem_map.1 hs
    exact hK _ (h2 (hall q hq))
   ·intro hc
    exact ⟨hc.in,fun _=>can_closed hcl' hc⟩
  ·have hql:q.1∈keysM G':=List.mem_map.2 ⟨q,hq,rfl⟩
   unfold J102_7
   refine ⟨rfl,hme _ ⟨_,hk,_,hv,?_⟩⟩
   refine boxK rfl fun h12 e12 b12=>?_
   have it12:=it9.ext e12
   have mc12:=(mc8.upd u9 (by omega)).ext e12
   have g12:=Ext.cell e12 (u9.cell (by simp only;omega) g8)
   have c18':=Ext.cell e12 (u9.cell (by simp only;omega) c10008)
   have u12:Upd (fun i=>i=gb) h h12:=(u8.newer u9 fun i hi e=>by omega).trans (Upd.wide e12)
   have cell12:cellsH h12 ⟨h9.size,0,none⟩ 0 [.int .u64 (q.1:Int)]:=by
    rw [<- addr_add0 ⟨h9.size,0,none⟩];exact cells1 (b12.fld 0 rfl)
   refine ⟨_,c18',_,cell12,MapIs.look (val:=one1) ukr mc12 q.1 (fun hno=>⟨fun _=>?_,fun hh=>absurd rfl hh⟩) fun u hu=>⟨_,rfl,fun hh=>absurd hh (by omega),fun _=>?_⟩⟩
   ·refine ⟨_,g12,_,cell12,MapIt.del ukr it12 q.1 fun h13 it13 u13=>?_⟩
    refine ⟨leftM (delM G' q.1) (q.1::done),Nat.lt_of_le_of_lt ?_ (leftM_lt hq hnd),q.1::done,delM G' q.1,it13,mc12.upd u13 (by omega),u13.cell (by simp only;omega) g12,u13.cell (by simp only;omega) c18',u12.trans u13,rfl,fun s=>?_⟩
    ·unfold leftM delM
     rw [List.filter_filter]
     rw [<- List.countP_eq_length_filter,<- List.countP_eq_length_filter]
     exact List.countP_mono_left fun x _ hx=>by
      simp only [Bool.and_eq_true] at hx
      exact hx.1
    ·rw [keysM_del,hG']
     have:=atM_out hno
     constructor
     ·rintro ⟨⟨h1,h2⟩,h3⟩
      exact ⟨h1,fun hd=>by rcases List.mem_cons.1 hd with rfl | hd;exact absurd rfl h3;exact h2 hd⟩
     ·rintro ⟨h1,h2⟩
      exact ⟨⟨h1,fun hd=>h2 (List.mem_cons_of_mem _ hd)⟩,fun e=>this (e▸h2 (by rw [e];exact List.mem_cons_self ..))⟩
   ·refine ⟨_,leftM_lt hq hnd,q.1::done,G',it12,mc12,g12,c18',u12,rfl,fun s=>?_⟩
    rw [hG']
    have:=atM_in hu
    constructor
    ·rintro ⟨h1,h2⟩
     exact ⟨h1,fun hd=>by rcases List.mem_cons.1 hd with rfl | hd;exact this;exact h2 hd⟩
    ·rintro ⟨h1,h2⟩
     exact ⟨h1,fun hd=>h2 (List.mem_cons_of_mem _ hd)⟩
end
end Go.Proofs.YtdpbdjdgdmheiaaGreat
namespace Go.Proofs.YtdpbdjdgdmheiaaGreat
open Go.Hx Go.Deep
section
variable {h:Heap} {k:Addr} {C:Circ}
structure FIn (C:Circ) (must:List Int) (a:Option Addr) (n c:Nat) (h h':Heap) (gp:Addr) (gb:Nat) (G:List (Nat×Unit)):Prop where
 map:MapIs ukey one1 h' gb G
 nd:(keysM G).Nodup
 rch:∀ s∈keysM G,∃ d,Rch (wdC C) d s
 all:∀ s,FairG (wdC C) (mustP must) s->s∈keysM G
 ext:Ext h h'
 m:cellH h' gp=some (.slice a n c)
theorem FIn.more {must:List Int} {a:Option Addr} {n c:Nat} {h' h'':Heap} {gp:Addr} {gb:Nat} {G:List (Nat×Unit)} (f:FIn C must a n c h h' gp gb G) (e:Ext h' h''):FIn C must a n c h h'' gp gb G:=
 ⟨f.map.ext e,f.nd,f.rch,f.all,f.ext.trans e,Ext.cell e f.m⟩
theorem FIn.keep {must:List Int} {a:Option Addr} {n c:Nat} {h' h'':Heap} {gp:Addr} {gb:Nat} {G G':List (Nat×Unit)} (f:FIn C must a n c h h' gp gb G) (u:Upd (fun i=>i=gb) h' h'') (hgb:h.size≤gb) (hne:gp.block≠gb) (mp:MapIs ukey one1 h'' gb G') (nd:(keysM G').Nodup) {P:Arc->Prop} (hP:P∈mustP must) (hG:∀ s,s∈keysM G'↔Go.Hx.Can (wdC C) (·∈keysM G) P s):FIn C must a n c h h'' gp gb G':=
 ⟨mp,nd,fun s hs=>f.rch s ((hG s).1 hs).in,fun s hs=>(hG s).2 (FairG.keep f.all hP s hs),f.ext.newer u fun i hi e=>by omega,u.cell hne f.m⟩
def FairM (C:Circ) (must:List Int) (h:Heap) (x:Value) (h':Heap):Prop:=Ext h h'/\∃ b G,x=.map (some b)/\h.size≤b/\MapIs ukey one1 h' b G/\(keysM G).Nodup/\∀ s,s∈keysM G↔FairG (wdC C) (mustP must) s
set_option maxRecDepth 4000 in
theorem c62 (w:WIs h k C) {a:Option Addr} {n c:Nat} {must:List Int} (rm:Rd h a n (ints must)) (hm:must.length≤32768/\∀ l∈must,0≤l/\l≤2*C.mx+1):CallsH Tryz.prog 62 #[.pointer (some k),.slice a n c] h (FairM C must h):=by
 have wk:=wd_ok C
 obtain ⟨hz,hL,hI⟩:=fewE_0 w.few
 have hmx:=(chk_bounds hz).1
 have hlen:=rm.ilen
 refine run62 (some k) a n c _ h ?_
 unfold VC62
 intro h1 h2
 have z1:h1.size=h.size+1:=by simp [h1]
 have z2:h2.size=h.size+2:=by simp [h2,z1]
 have e1:Ext h h1:=Ext.push h _
 have e2:Ext h1 h2:=Ext.push h1 _
 have m1:cellH h1 ⟨h.size,0,none⟩=some (.slice a n c):=by
  have:=(Fr.lit (.refl h) [Value.slice a n c] 22 1 rfl).rd.fld 0 rfl
  rwa [addr_add0] at this
 have mp2:MapIs (α:=Nat) ukey one1 h2 h1.size []:=MapIs.new h1
 refine (c43 (w.ext (e1.trans e2))).mono ?_
 rintro _ h3 ⟨e3,b,M,rfl,hb,mp,dm⟩
 refine ⟨_,rfl,mp.range dm.nd fun h4 mi e4=>?_⟩
 have z3:h2.size≤h3.size:=e3.1
 refine ⟨fun _ h' m=>∃ done G,MapIt ukey dv h' h3.size b M done/\MapIs ukey one1 h' h1.size G/\(keysM G).Nodup/\(∀ s,s∈keysM G↔s∈done)/\(∀ s∈done,s∈M.map Prod.fst)/\Ext h h'/\cellH h' ⟨h.size,0,none⟩=some (.slice a n c)/\m=leftM M done,⟨_,[],[],mi,mp2.ext (e3.trans e4),.nil,fun s=>by simp [keysM],fun s hs=>by (cases hs),((e1.trans e2).trans e3).trans e4,Ext.cell ((e2.trans e3).trans e4) m1,rfl⟩,?_⟩
 rintro _ h5 m0 ⟨done,G,it5,mg5,nd5,hG5,hd5,e05,m5,rfl⟩
 unfold B62_7
 refine ⟨rfl,it5.next (fun hall=>?_) fun p hp hnd h6 e it6 u6 hk hv hme=>⟨_,rfl,_,rfl,?_⟩⟩
 rotate_left
 ·unfold J62_6
  refine ⟨rfl,hme _ ⟨_,hk,_,hv,?_⟩⟩
  refine boxK rfl fun h7 e7 b7=>⟨_,b7.cells,?_⟩
  have mg7:=(mg5.upd u6 (by omega)).ext e7
  have e07:=(e05.newer u6 fun i hi hh=>by omega).trans e7
  have m7:=Ext.cell e7 (u6.cell (by simp only;omega) m5)
  refine MapIs.put (val:=one1) ukr mg7 p.1 () fun h8 mg8 u8=>?_
  have hnk:p.1∉keysM G:=fun hh=>hnd ((hG5 _).1 hh)
  refine ⟨_,leftM_lt hp hnd,p.1::done,_,(it6.ext e7).upd u8 (by omega) (by omega),mg8,?_,fun s=>?_,fun s hs=>?_,e07.newer u8 fun i hi hh=>by omega,u8.cell (by simp only;omega) m7,rfl⟩
  ·rw [keysM_put hnk]
   exact List.nodup_append.2 ⟨nd5,List.nodup_cons.2 ⟨by simp,.nil⟩,fun x hx y hy e=>hnk (by rw [List.mem_singleton] at hy;rw [<- hy,<- e];exact hx)⟩
  ·rw [keysM_put hnk,List.mem_append,hG5,List.mem_singleton,List.mem_cons]
   exact ⟨fun hh=>hh.symm,fun hh=>hh.symm⟩
  ·rcases List.mem_cons.1 hs with rfl | hs
   ·exact List.mem_map.2 ⟨p,hp,rfl⟩
   ·exact hd5 s hs
 have f5:FIn C must a n c h h5 ⟨h.size,0,none⟩ h1.size G:=by
  refine ⟨mg5,nd5,fun s hs=>?_,fun s hs=>?_,e05,m5⟩
  ·obtain ⟨p,hp,rfl⟩:=List.mem_map.1 (hd5 s ((hG5 s).1 hs))
   exact ⟨_,((dm.is p.1 p.2).1 (atM_nodup dm.nd hp)).1⟩
  ·obtain ⟨d,hd⟩:=hs.rch
   obtain ⟨e,he⟩:=IsDep.of hd
   rw [hG5]
   exact hall _ (atM_mem ((dm.is s e).2 he.2))
 unfold J62_0
 refine ⟨fun _ h' m=>∃ G,FIn C must a n c h h' ⟨h.size,0,none⟩ h1.size G/\m=G.length,⟨_,G,f5,rfl⟩,?_⟩
 clear f5 m5 e05 hd5 hG5 nd5 mg5 it5 hall G done
 rintro _ h6 m0 ⟨G,f6,rfl⟩
 unfold B62_5
 refine f6.map.len ?_
 refine boxK rfl fun h8 e8 b8=>?_
 have f8:=f6.more e8
 have k8:cellH h8 ⟨h6.size,0,none⟩=some (.int .i64 (-1)):=by
  have:=b8.fld 0 rfl
  rwa [addr_add0] at this
 refine ⟨fun kp h' m=>∃ (ka:Addr) (z:Int) (G':List (Nat×Unit)),kp=some ka/\cellH h' ka=some (.int .i64 z)/\ka.block≠h1.size /\-1≤z/\z≤must.length/\FIn C must a n c h h' ⟨h.size,0,none⟩ h1.size G'/\(∀ s∈keysM G',s∈keysM G) /\
   (G.length≤G'.length->∀ i:Int,-1≤i->i<z->∀ s∈keysM G,Go.Hx.Can (wdC C) (·∈keysM G) (fun x=>wantB must i x=true) s)/\m=(must.length-z).toNat,⟨_,_,-1,G,rfl,k8,?_,by omega,by omega,f8,fun s hs=>hs,fun _ i h1 h2=>by omega,rfl⟩,?_⟩
 ·have:=f6.map.lt
  simp only;omega
 rintro kp h9 m0 ⟨ka,z,G',rfl,k9,hka,hz0,hz1,f9,hsub,hcan,rfl⟩
 have hle:G'.length≤G.length:=by
  rw [<- keysM_len,<- keysM_len];exact nodupSub f9.nd hsub
 unfold B62_4
 refine AtP.mk rfl ⟨_,k9,_,_,_,f9.m,fun hlt=>?_,fun hlt=>?_⟩
 ·unfold J62_3
  have hlt':∀ s∈keysM G',s<2 ^ C.lats.length:=fun s hs=>by
   obtain ⟨d,hd⟩:=f9.rch s hs
   exact hd.lt wk
  have rm9:=rm.ext f9.ext
  refine (c102 (p:=fun x=>wantB must z x) (w.ext f9.ext) f9.map f9.nd hlt' fun h' x s K e hx rv hK=>CallV.clo2 ok103 (useX (c103 (Ext.cell e k9) (Ext.cell e f9.m) (rm9.ext e) rv (by omega) ?_) hK)).mono ?_
  ·intro l hl
   obtain ⟨l0,l1⟩:=hm.2 l hl
   have hlen:=arc_len hz hx
   have hrl:=rv.len
   rw [List.length_map] at hrl
   have:x.arc.vl=x.vl:=rfl
   rw [this] at hlen
   refine ⟨l0,by omega,by omega⟩
  rintro _ h11 ⟨rfl,u11,G2,mg11,nd11,hG2⟩
  have hwm:=wantB_mem (must:=must) hz0 (by omega)
  have hgs:h.size≤h1.size:=by omega
  have f11:=f9.keep u11 hgs (by simp only;omega) mg11 nd11 hwm hG2
  have k11:=u11.cell hka k9
  refine ⟨rfl,AtP.mk rfl ⟨_,k11,?_⟩⟩
  intro h12
  refine (Fr.lit (.refl h11) [Value.int .i64 0] 3 1 rfl).put (ws:=[.int .i64 z]) rfl (by simp [Value.oneCell']) fun h13 f13 u13=>?_
  refine ⟨_,by have:=f13.rd.fld 0 rfl;rwa [addr_add0] at this,?_⟩
  refine f13.put (ws:=[.int .i64 (IntKind.wrap .i64 (z+1))]) rfl (by simp [Value.oneCell']) fun h14 f14 u14=>?_
  have f014:=f11.more f14.ext
  have hg11:h1.size<h11.size:=f11.map.lt
  have hsub2:∀ s∈keysM G2,s∈keysM G':=fun s hs=>((hG2 s).1 hs).in
  have hw:IntKind.wrap .i64 (z+1)=z+1:=w64 (by omega) (by omega)
  refine ⟨_,?_,⟨h11.size,0,none⟩,z+1,G2,rfl,?_,by simp only;omega,by omega,by omega,f014,fun s hs=>hsub s (hsub2 s hs),fun hge i hi1 hi2 s hs=>?_,rfl⟩
  ·omega
  ·have:=f14.rd.fld 0 rfl
   rw [addr_add0,hw] at this
   exact this
  ·have hle2:G2.length≤G'.length:=by
    rw [<- keysM_len,<- keysM_len];exact nodupSub f11.nd hsub2
   by_cases hiz:i<z
   ·exact hcan (by omega) i hi1 hiz s hs
   ·obtain rfl:i=z:=by omega
    have a1:=nodupAll f9.nd hsub (by rw [keysM_len,keysM_len];omega)
    have a2:=nodupAll f11.nd hsub2 (by rw [keysM_len,keysM_len];omega)
    exact ((hG2 s).1 (a2 s (a1 s hs))).mono hsub
 ·unfold J62_2
  refine f9.map.len ⟨fun heq=>?_,fun hne=>?_⟩
  ·have a1:=nodupAll f9.nd hsub (by rw [keysM_len,keysM_len];omega)
   refine ⟨f9.ext,h1.size,G',rfl,by omega,f9.map,f9.nd,?_⟩
   refine FairG.eq f9.rch f9.all fun P hP s hs=>?_
   obtain ⟨i,hi0,hi1,rfl⟩:=wantB_all hP
   exact (hcan (by omega) i hi0 (by omega) s (hsub s hs)).mono a1
  ·exact ⟨_,by omega,G',f9,rfl⟩
end
end Go.Proofs.YtdpbdjdgdmheiaaGreat
namespace Go.Proofs.YtdpbdjdgdmheiaaGreat
open Go.Hx Go.Deep
section
variable {h:Heap} {v:CV} {C:Circ}
def FairP (C:Circ) (j:Int) (h:Heap) (x:Value) (h':Heap):Prop:=Ext h h'/\((jusE C j=0/\∃ b:Bool,x=.tuple #[.bool b,.int .i64 0]/\(b=true↔∃ s,FairG (wdC C) (mustP (mustOf C j)) s))∨(jusE C j≠0/\x=.tuple #[.bool false,.int .i64 (jusE C j)]))
set_option maxRecDepth 4000 in
theorem c26 (r:CIs h v C) (ok:C.Ok) (j:Int):CallsH Tryz.prog 26 #[v.v,.int .i64 j] h (FairP C j h):=by
 refine run26 v j _ h ?_
 unfold VC26
 intro h1
 have e1:Ext h h1:=Ext.box h _
 have hb:Rd h1 (some ⟨h.size,0,none⟩) 11 v.cs:=boxC v 29
 refine ldC hb ((c61 (r.ext e1) ok j).mono ?_)
 rintro _ h3 ⟨e3,⟨hz,k,rfl,w⟩ | ⟨hz,rfl⟩⟩
 rotate_left
 ·exact ⟨_,_,rfl,fun he=>absurd he hz,fun _=>⟨e1.trans e3,.inr ⟨hz,rfl⟩⟩⟩
 refine ⟨_,_,rfl,fun _=>?_,fun he=>absurd rfl he⟩
 obtain ⟨hf,hj0,hj1⟩:=jusE_0 hz
 obtain ⟨hc,hL,hI⟩:=fewE_0 hf
 have ml:=must_lits hc hj0 hj1
 unfold J26_0
 refine (c63 w hj0 hj1).mono ?_
 rintro _ h4 ⟨a,c,rfl,f4⟩
 refine ⟨_,_,_,rfl,(c62 (w.ext f4.ext) f4.rd ml).mono ?_⟩
 rintro _ h5 ⟨e5,b,G,rfl,hb',mg,nd,hG⟩
 have e05:=((e1.trans e3).trans f4.ext).trans e5
 refine ⟨_,rfl,mg.len ⟨fun hlt=>⟨e05,.inl ⟨hz,true,rfl,iff_of_true rfl ?_⟩⟩,fun hlt=>⟨e05,.inl ⟨hz,false,rfl,iff_of_false (by simp) ?_⟩⟩⟩⟩
 ·cases G with
  | nil=>simp at hlt
  | cons p G=>exact ⟨p.1,(hG _).1 (List.mem_cons_self ..)⟩
 ·rintro ⟨s,hs⟩
  cases G with
  | nil=>have:=(hG s).2 hs;cases this
  | cons p G=>simp at hlt
def WX:Circ:=⟨1,[],[⟨2,3,0⟩],[],[2],[],[[2,3],[0]],[],[],[],[]⟩
theorem WX_defs:defs WX=(0,0,[(0,0),(2,0)]):=by decide +kernel
theorem WX_uses:uses WX [(0,0),(2,0)]=(0,0):=by decide +kernel
theorem WX_chk:chk WX=(0,0):=by
 have h1:sizeE WX=0:=sizeE_ok (by simp [WX]) (by simp [Big,WX])
 have h4:cyc WX (defs WX).2.2=none:=by unfold cyc;simp [WX]
 have h5:syF WX=none:=rfl
 have h6:comF WX=none:=rfl
 unfold chk
 rw [if_neg (by rw [h1];simp),if_neg (by rw [WX_defs];simp),if_neg (by rw [WX_defs];simp only;rw [WX_uses];simp),h4,h5,h6]
theorem WX_ok:WX.Ok:=by
 have one:∀ (n:Int),-100≤n->n≤100->W64 n:=fun n h1 h2=>⟨by omega,by omega⟩
 refine ⟨⟨by decide,by decide⟩,fun x hx=>(by cases hx),fun x hx=>?_,fun x hx=>(by cases hx),fun x hx=>?_,fun x hx=>(by cases hx),fun x hx=>?_,fun x hx=>(by cases hx),fun x hx=>(by cases hx),fun x hx=>(by cases hx),fun x hx=>(by cases hx),by simp [WX],by simp [WX]⟩
 ·simp only [WX,List.mem_cons,List.not_mem_nil,or_false] at hx
  subst hx
  exact ⟨⟨by decide,by decide⟩,⟨by decide,by decide⟩,⟨by decide,by decide⟩⟩
 ·simp only [WX,List.mem_cons,List.not_mem_nil,or_false] at hx
  subst hx
  exact ⟨by decide,by decide⟩
 ·simp only [WX,List.mem_cons,List.not_mem_nil,or_false] at hx
  rcases hx with rfl | rfl
  ·refine ⟨fun x hx=>?_,by simp⟩
   simp only [List.mem_cons,List.not_mem_nil,or_false] at hx
   rcases hx with rfl | rfl <;> exact ⟨by decide,by decide⟩
  ·refine ⟨fun x hx=>?_,by simp⟩
   simp only [List.mem_cons,List.not_mem_nil,or_false] at hx
   subst hx
   exact ⟨by decide,by decide⟩
theorem WX_good:GoodC WX []:=⟨by rw [WX_chk],⟨List.nodup_nil,(fun i hi=>by cases hi),(fun k hk=>by simp at hk),fun i hi=>by simp [WX] at hi⟩⟩
theorem WX_vals (b:Bool):valsOf WX [b] []=[false,b]:=by
 refine valsOf_eq WX_good rfl rfl ?_
 rw [WX_defs]
 refine ⟨rfl,fun j hj=>?_,fun i x b' hx=>by simp [WX] at hx,fun i x b' hx hb=>?_,fun i x hx=>by simp [WX] at hx⟩
 ·match j with
  | 0=>rfl
  | 1=>simp at hj
  | j+2=>simp at hj
 ·match i with
  | 0=>
   simp [WX] at hx hb
   subst hx hb
   rfl
  | i+1=>simp [WX] at hx
theorem WX_few:fewE WX=0:=by
 unfold fewE
 rw [WX_chk,if_neg (by simp),if_neg (by simp [WX])]
theorem WX_next (b:Bool):nextL WX [false,b]=[!b]:=by cases b <;> kernel_rfl
theorem WX_arcs (s:Nat):(wdC WX).arcs s=[⟨0,(!(s.testBit 0)).toNat,[false,s.testBit 0]⟩]:=by
 show warcs WX s (2 ^ 0)=_
 have hv:wvals WX s 0=[false,s.testBit 0]:=WX_vals _
 have hw:warc WX s 0=some ⟨0,(!(s.testBit 0)).toNat,[false,s.testBit 0]⟩:=by
  unfold warc
  rw [hv,WX_next,if_pos (show WX.cons.all (lit [false,s.testBit 0])=true from rfl)]
  simp [numN]
 show List.filterMap (warc WX s) [0]=_
 rw [List.filterMap_cons_some hw];rfl
theorem WX_st:(wdC WX).st=[0]:=by
 show (List.range 2).filter (wst WX)=[0]
 have h0:wst WX 0=true:=by kernel_rfl
 have h1:wst WX 1=false:=by kernel_rfl
 show List.filter (wst WX) [0,1]=[0]
 simp [h0,h1]
theorem WX_rch {d s:Nat} (r:Rch (wdC WX) d s):s=d % 2:=by
 induction r with
 | zero h=>rw [WX_st,List.mem_singleton] at h;exact h
 | @step d s a r ha ih=>
  rw [WX_arcs,List.mem_singleton] at ha
  subst ha ih
  rcases Nat.mod_two_eq_zero_or_one d with h | h
  ·rw [h];show 1=_;omega
  ·rw [h];show 0=_;omega
theorem WX_d0:IsDep (wdC WX) 0 0:=⟨.zero (by rw [WX_st];simp),fun e _=>Nat.zero_le _⟩
theorem WX_d1:IsDep (wdC WX) 1 1:=⟨Rch.step (a:=⟨0,1,[false,false]⟩) WX_d0.1 (by rw [WX_arcs];simp),fun e he=>by have:=WX_rch he;omega⟩
theorem WX_dep {s d:Nat} (h:IsDep (wdC WX) s d):(s=0/\d=0)∨(s=1/\d=1):=by
 have:=WX_rch h.1
 rcases Nat.mod_two_eq_zero_or_one d with k | k
 ·have hs:s=0:=by omega
  subst hs
  exact .inl ⟨rfl,h.uniq WX_d0⟩
 ·have hs:s=1:=by omega
  subst hs
  exact .inr ⟨rfl,h.uniq WX_d1⟩
theorem WX_depL:depL (wdC WX)=[0,1]:=by
 show ([0,1]:List Nat).map (depI (wdC WX))=_
 rw [List.map_cons,List.map_cons,List.map_nil,depI_eq WX_d0,depI_eq WX_d1];rfl
theorem WX_most:MostIs (wdC WX) 1:=⟨by omega,fun s d h=>by rcases WX_dep h with h | h <;> omega,.inr ⟨1,1,WX_d1,rfl⟩⟩
theorem WX_bad:BadIs (wdC WX) (fun a=>lit a.vl 2=true) 1:=by
 refine .inr ⟨1,rfl,⟨1,⟨0,0,[false,true]⟩,WX_d1,by rw [WX_arcs];simp,rfl⟩,fun s e a he ha hl=>?_⟩
 rcases WX_dep he with ⟨rfl,rfl⟩ | ⟨rfl,rfl⟩
 ·rw [WX_arcs,List.mem_singleton] at ha
  subst ha
  have:lit [false,false] 2=true:=hl
  simp [lit] at this
 ·exact Nat.le_refl _
theorem WX_must0:mustOf WX 0=[2,3]:=rfl
theorem WX_must1:mustOf WX 1=[0]:=rfl
theorem WX_fair0:∃ s,FairG (wdC WX) (mustP (mustOf WX 0)) s:=by
 rw [WX_must0]
 have a0:(⟨0,1,[false,false]⟩:Arc)∈(wdC WX).arcs 0:=by rw [WX_arcs];simp
 have a1:(⟨0,0,[false,true]⟩:Arc)∈(wdC WX).arcs 1:=by rw [WX_arcs];simp
 refine ⟨0,fun s=>s=0∨s=1,fun t ht=>?_,fun P hP s hs=>?_,.inl rfl⟩
 ·rcases ht with rfl | rfl
  ·exact ⟨_,WX_d0.1⟩
  ·exact ⟨_,WX_d1.1⟩
 ·have c0:∀ {Q:Arc->Prop},Q ⟨0,1,[false,false]⟩->Go.Hx.Can (wdC WX) (fun s=>s=0∨s=1) Q 0:=fun hq=>.now (.inl rfl) a0 (.inr rfl) hq
  have c1:∀ {Q:Arc->Prop},Q ⟨0,0,[false,true]⟩->Go.Hx.Can (wdC WX) (fun s=>s=0∨s=1) Q 1:=fun hq=>.now (.inr rfl) a1 (.inl rfl) hq
  simp only [mustP,List.map_cons,List.map_nil,List.mem_cons,List.not_mem_nil,or_false] at hP
  rcases hP with rfl | rfl | rfl
  ·rcases hs with rfl | rfl
   ·exact c0 trivial
   ·exact c1 trivial
  ·rcases hs with rfl | rfl
   ·exact .on (.inl rfl) a0 (.inr rfl) (c1 (by rfl))
   ·exact c1 (by rfl)
  ·rcases hs with rfl | rfl
   ·exact c0 (by rfl)
   ·exact .on (.inr rfl) a1 (.inl rfl) (c0 (by rfl))
theorem WX_fair1:¬ ∃ s,FairG (wdC WX) (mustP (mustOf WX 1)) s:=by
 rw [WX_must1]
 rintro ⟨s,hs⟩
 have hc:=FairG.lives (wdC WX) _ (fun a=>lit a.vl 0=true) (by simp [mustP]) s hs
 have:∀ {G:Nat->Prop} {s:Nat},Go.Hx.Can (wdC WX) G (fun a=>lit a.vl 0=true) s->False:=fun {G s} c=>by
  induction c with
  | now h1 h2 h3 h4=>
   rw [WX_arcs,List.mem_singleton] at h2
   subst h2
   simp [lit] at h4
  | on h1 h2 h3 _ ih=>exact ih
 exact this hc
theorem WX_jus {j:Int} (h0:0≤j) (h1:j<2):jusE WX j=0:=by
 unfold jusE
 rw [WX_few,if_neg (by simp),if_pos (by simp [WX];omega)]
theorem WX_bade:badE WX 0=0:=by
 unfold badE
 rw [WX_few,if_neg (by simp),if_pos (by simp [WX])]
set_option maxRecDepth 4000 in
theorem c14:CallsH Tryz.prog 14 #[] h (Xt (.bool true) h):=by
 refine run14 _ h ?_
 unfold VC14
 intro h1 h2 h3 h4 h5
 have e1:Ext h h1:=Ext.push h _
 have e2:Ext h1 h2:=Ext.push h1 _
 have e3:Ext h2 h3:=Ext.push h2 _
 have e4:Ext h3 h4:=Ext.push h3 _
 have e5:Ext h4 h5:=Ext.push h4 _
 have r1:Rd h1 (some ⟨h.size,0,none⟩) 3 (L3.cs ⟨2,3,0⟩):=(Fr.lit (.refl h) (L3.cs ⟨2,3,0⟩) 65 3 rfl).rd
 have r2:Rd h2 (some ⟨h1.size,0,none⟩) 1 (ints [2]):=(Fr.lit (.refl h1) (ints [2]) 3 1 rfl).rd
 have r3:Rd h3 (some ⟨h2.size,0,none⟩) 2 (ints [2,3]):=(Fr.lit (.refl h2) (ints [2,3]) 3 2 rfl).rd
 have r4:Rd h4 (some ⟨h3.size,0,none⟩) 1 (ints [0]):=(Fr.lit (.refl h3) (ints [0]) 3 1 rfl).rd
 have r5:Rd h5 (some ⟨h4.size,0,none⟩) 2 [.slice (some ⟨h2.size,0,none⟩) 2 2,.slice (some ⟨h3.size,0,none⟩) 1 1]:=(Fr.lit (.refl h4) [.slice (some ⟨h2.size,0,none⟩) 2 2,.slice (some ⟨h3.size,0,none⟩) 1 1] 22 2 rfl).rd
 let n0:Sl:=⟨none,0,0⟩
 let cv:CV:=⟨1,n0,⟨some ⟨h.size,0,none⟩,1,1⟩,n0,⟨some ⟨h1.size,0,none⟩,1,1⟩,n0,⟨some ⟨h4.size,0,none⟩,2,2⟩,n0,n0,n0,n0⟩
 refine boxN (zs:=CV.zero.cs) (ws:=cv.cs) rfl (CV.one cv) fun h6 e6 b6=>?_
 have z:=(CNew.zero (.refl h6)).cis
 have cis:CIs h6 cv WX:=by
  refine ⟨rfl,z.i,?_,z.o,?_,z.c,?_,z.f,z.g,z.s,z.m⟩
  ·exact ((((r1.ext e2).ext e3).ext e4).ext e5).ext e6
  ·exact (((r2.ext e3).ext e4).ext e5).ext e6
  ·exact ⟨⟨[⟨some ⟨h2.size,0,none⟩,2,2,[2,3]⟩,⟨some ⟨h3.size,0,none⟩,1,1,[0]⟩],r5.ext e6,fun s hs=>by
    simp only [List.mem_cons,List.not_mem_nil,or_false] at hs
    rcases hs with rfl | rfl
    ·exact ⟨((r3.ext e4).ext e5).ext e6,Nat.le_refl _⟩
    ·exact ⟨(r4.ext e5).ext e6,Nat.le_refl _⟩,rfl⟩⟩
 have e06:Ext h h6:=((((e1.trans e2).trans e3).trans e4).trans e5).trans e6
 refine ldC b6 ((c16 cis WX_ok).mono ?_)
 rintro _ h7 ⟨e7,⟨_,a,n,c,m,rfl,f7,hm⟩ | ⟨hz,_⟩⟩
 rotate_left
 ·exact absurd WX_few hz
 obtain rfl:=hm.uniq WX_most
 rw [WX_depL] at f7
 have hn:n=2:=by have:=f7.rd.len;simpa [ints] using this.symm
 subst hn
 refine ⟨_,_,_,_,_,rfl,?_⟩
 refine boxN (zs:=[.slice none 0 0,.int .i64 0]) (ws:=[.slice a 2 c,.int .i64 1]) rfl (by simp [Value.oneCell']) fun h9 e9 b9=>?_
 have e69:=e7.trans e9
 refine ldC (b6.ext e69) ((c18 (cis.ext e69) WX_ok 0).mono ?_)
 rintro _ h10 ⟨e10,⟨_,y,l,hl,rfl,hy⟩ | ⟨hz,_⟩⟩
 rotate_left
 ·exact absurd WX_bade hz
 obtain rfl:l=2:=by simp [WX] at hl;exact hl.symm
 obtain rfl:=hy.uniq WX_bad
 have e610:=e69.trans e10
 refine ⟨_,_,rfl,ldC (b6.ext e610) ((c26 (cis.ext e610) WX_ok 0).mono ?_)⟩
 rintro _ h11 ⟨e11,⟨_,t,rfl,ht⟩ | ⟨hz,_⟩⟩
 rotate_left
 ·exact absurd (WX_jus (by omega) (by omega)) hz
 obtain rfl:t=true:=ht.2 WX_fair0
 have e611:=e610.trans e11
 refine ⟨_,_,rfl,ldC (b6.ext e611) ((c26 (cis.ext e611) WX_ok 1).mono ?_)⟩
 rintro _ h12 ⟨e12,⟨_,t,rfl,ht⟩ | ⟨hz,_⟩⟩
 rotate_left
 ·exact absurd (WX_jus (by omega) (by omega)) hz
 obtain rfl:t=false:=by
  cases t with
  | false=>rfl
  | true=>exact absurd (ht.1 rfl) WX_fair1
 have e912:=(e10.trans e11).trans e12
 have b12:=b9.ext e912
 refine ⟨_,_,rfl,fun _=>⟨_,b12.fld 1 rfl,fun _=>⟨_,_,_,b12.fld 0 rfl,fun _=>⟨_,_,_,b12.fld 0 rfl,by omega,by omega,?_⟩,fun hh=>absurd rfl hh⟩,fun hh=>absurd rfl hh⟩,fun hh=>absurd rfl hh⟩
 refine (f7.rd.ext (e9.trans e912)).geti (j:=1) (by omega) (by omega) fun ad hl hc=>⟨_,hc,fun _=>⟨fun _=>⟨fun _=>BIf.t ⟨fun _=>BIf.t ⟨fun _=>⟨rfl,?_⟩,fun hh=>absurd rfl hh⟩,fun hh=>absurd rfl hh⟩,fun hh=>absurd rfl hh⟩,fun hh=>absurd rfl hh⟩,fun hh=>absurd rfl hh⟩
 exact (e06.trans e69).trans e912
end
end Go.Proofs.YtdpbdjdgdmheiaaGreat
