/- Words and facts that the claim's proof leans on. No condition. -/
import Derived.Test.YtdpbdjdgdmheiaaGreatXL
import Derived.Test.YtdpbdjdgdmheiaaGreatKEd
set_option linter.unusedVariables false
set_option linter.unusedSimpArgs false
namespace Go.Hx
noncomputable def ldB (W:Wd) (p:Arc->Bool):Nat->Nat->Bool
 | 0,s=>(W.arcs s).any p
 | d+1,s=>(W.arcs s).any fun a=>ldB W p d a.nx
noncomputable def tsB (W:Wd) (p:Arc->Bool):Nat->Arc->Bool
 | 0,a=>p a
 | d+1,a=>ldB W p d a.nx
theorem ldB_eq {W:Wd} {p:Arc->Bool} {d s:Nat}:ldB W p d s=(W.arcs s).any (tsB W p d):=by cases d <;> rfl
theorem ldB_iff {W:Wd} {p:Arc->Bool}:∀ {d s:Nat},ldB W p d s=true↔∃ q t a,Way W s q t/\q.length=d/\a∈W.arcs t/\p a=true
 | 0,s=>by
  unfold ldB
  rw [List.any_eq_true]
  constructor
  ·rintro ⟨a,h1,h2⟩;exact ⟨[],s,a,.nil,rfl,h1,h2⟩
  ·rintro ⟨q,t,a,w,hl,h1,h2⟩
   cases q with
   | nil=>cases w;exact ⟨a,h1,h2⟩
   | cons _ _=>cases hl
 | d+1,s=>by
  unfold ldB
  rw [List.any_eq_true]
  constructor
  ·rintro ⟨b,h1,h2⟩
   obtain ⟨q,t,a,w,hl,k1,k2⟩:=ldB_iff.1 h2
   exact ⟨b::q,t,a,.cons h1 w,by simp [hl],k1,k2⟩
  ·rintro ⟨q,t,a,w,hl,k1,k2⟩
   cases w with
   | nil=>cases hl
   | cons h1 w=>exact ⟨_,h1,ldB_iff.2 ⟨_,t,a,w,by simpa using hl,k1,k2⟩⟩
def MOk (W:Wd) (p:Arc->Bool) (n:Nat) (M:List ((Nat×Nat)×Nat)):Prop:=∀ s d v,d<n->atM M (s,d)=some v->(v=1/\ldB W p d s=true)∨(v=2/\ldB W p d s=false)
def MSame (n:Nat) (M M':List ((Nat×Nat)×Nat)):Prop:=∀ s d,n≤d->atM M' (s,d)=atM M (s,d)
theorem MSame.refl {n:Nat} {M:List ((Nat×Nat)×Nat)}:MSame n M M:=fun _ _ _=>rfl
theorem MSame.trans {n:Nat} {M M' M'':List ((Nat×Nat)×Nat)} (a:MSame n M M') (b:MSame n M' M''):MSame n M M'':=fun s d h=>(b s d h).trans (a s d h)
theorem MOk.fin {W:Wd} {p:Arc->Bool} {n s v:Nat} {M M2 M':List ((Nat×Nat)×Nat)} (m:MOk W p (n+1) M) (h2:M2=putM M (s,n) v) (k:MOk W p n M') (sm:MSame n M2 M') (hv:(v=1/\ldB W p n s=true)∨(v=2/\ldB W p n s=false)):MOk W p (n+1) M':=fun s' d v' hd h=>by
 by_cases hdn:d<n
 ·exact k s' d v' hdn h
 ·obtain rfl:d=n:=by omega
  rw [sm s' d (Nat.le_refl _),h2,atM_putM] at h
  by_cases e:(s',d)=(s,d)
  ·rw [if_pos e] at h
   cases e
   cases h
   exact hv
  ·rw [if_neg e] at h
   exact m s' d v' hd h
theorem MSame.put {n s v:Nat} {M:List ((Nat×Nat)×Nat)}:MSame (n+1) M (putM M (s,n) v):=fun s' d h=>by
 rw [atM_putM,if_neg (by rintro ⟨⟩;omega)]
theorem MSame.less {n:Nat} {M M':List ((Nat×Nat)×Nat)} (a:MSame n M M'):MSame (n+1) M M':=fun s d h=>a s d (by omega)
end Go.Hx
namespace Go.Hx
abbrev pkey (p:Nat×Nat):Value:=.agg #[.int .u64 (p.1:Int),.int .u64 (p.2:Int)]
theorem pkr:KeyR (.flat [.int .u64,.int .u64]) pkey:=KeyR.pair .u64
theorem MOk.at_ {W:Wd} {p:Arc->Bool} {n s v:Nat} {M:List ((Nat×Nat)×Nat)} (m:MOk W p n M):MOk W p n (putM M (s,n) v):=fun s' d v' hd h=>by
 rw [atM_putM,if_neg (by rintro ⟨⟩;omega)] at h
 exact m s' d v' hd h
theorem MSame.one {n s:Nat} {M Mi:List ((Nat×Nat)×Nat)} (a:MSame n (putM M (s,n) 2) Mi):MSame n (putM M (s,n) 1) (putM Mi (s,n) 1):=fun s' d h=>by
 have:=a s' d h
 rw [atM_putM] at this ⊢
 rw [atM_putM]
 by_cases e:(s',d)=(s,n)
 ·rw [if_pos e,if_pos e]
 ·rw [if_neg e,if_neg e,this,if_neg e]
theorem any_take {α:Type} {L:List α} {t:α->Bool} {i:Nat} (hi:i<L.length) (h:(L.take i).any t=false) (hn:t L[i]=false):(L.take (i+1)).any t=false:=by
 rw [List.take_succ_eq_append_getElem hi,List.any_append,h]
 simp [hn]
end Go.Hx
namespace Go.Proofs.YtdpbdjdgdmheiaaGreat
open Go.Hx Go.Deep
section
variable {h0:Heap} {k:Addr} {C:Circ}
abbrev litP (l:Int) (a:Arc):Bool:=lit a.vl l
set_option maxRecDepth 4000 in
theorem c54 (w:WIs h0 k C) {l:Int} (hl0:0≤l) (hl1:l≤2*C.mx+1) {mb:Nat} (hmb:h0.size≤mb):∀ (d:Nat) {h:Heap} {s:Nat} {M:List ((Nat×Nat)×Nat)},d≤1000->Ext h0 h->MapIs pkey dv h mb M->MOk (wdC C) (litP l) (d+1) M->s<2 ^ C.lats.length ->
  CallsH Tryz.prog 54 #[.pointer (some k),.agg #[.int .u64 (s:Int)],.int .i64 l,.int .i64 (d:Int),.map (some mb)] h fun x h'=>x=.bool (ldB (wdC C) (litP l) d s)/\Upd (fun i=>i=mb) h h'/\∃ M',MapIs pkey dv h' mb M'/\MOk (wdC C) (litP l) (d+1) M'/\MSame (d+1) M M':=by
 obtain ⟨hz,hL,hI⟩:=fewE_0 w.few
 have hm:=(chk_bounds hz).1
 have wk:=wd_ok C
 have h64:2 ^ C.ins.length≤64:=Nat.pow_le_pow_right (n:=2) (by omega) hI
 obtain ⟨v,wb,WM,rk,r,wmp,wma,wmn⟩:=w.ex
 intro d
 induction d using Nat.strongRecOn with
 | ind d ih=>
 intro h s M hd e0 mp mo hs
 have hmlt:mb<h.size:=mp.lt
 refine run54 (some k) s l d (some mb) _ h ?_
 unfold VC54
 intro h1
 have e1:Ext h h1:=Ext.push h _
 have b1:Rd h1 (some ⟨h.size,0,none⟩) 1 [.int .u64 (s:Int)]:=(Fr.lit (.refl h) [Value.int .u64 (s:Int)] 76 1 rfl).rd
 refine ⟨Int.le_refl _,by omega,_,b1.fld 0 rfl,?_⟩
 rw [show IntKind.wrap .u64 (d:Int)=(d:Int) by rw [wr_u64];omega]
 refine boxN (zs:=[.int .u64 0,.int .u64 0]) (ws:=[.int .u64 (s:Int),.int .u64 (d:Int)]) rfl (by simp [Value.oneCell']) fun h2 e2 b2=>?_
 have z1:h1.size=h.size+1:=by simp [h1]
 have z2:h1.size<h2.size:=cellH_lt (b2.fld 0 rfl)
 have e02:=e1.trans e2
 have b2:Rd h2 (some ⟨h1.size,0,none⟩) 2 [.int .u64 (s:Int),.int .u64 (d:Int)]:=b2
 have mp2:=mp.ext e02
 have go:atM M (s,d)=none->J54_0 Tryz.prog (fun x h'=>x=.bool (ldB (wdC C) (litP l) d s)/\Upd (fun i=>i=mb) h h'/\∃ M',MapIs pkey dv h' mb M'/\MOk (wdC C) (litP l) (d+1) M'/\MSame (d+1) M M') h (some k) l (d:Int) (some mb) h1 h2:=fun hno=>by
  unfold J54_0
  refine ⟨_,_,b2.cells,?_⟩
  refine MapIs.put (val:=dv) pkr mp2 (s,d) 2 fun h4 mp4 u4=>?_
  have u04:Upd (fun i=>i=mb) h h4:=(Upd.wide e02).trans u4
  have e04:Ext h0 h4:=e0.newer u04 fun i hi e=>by omega
  have b14:Rd h4 (some ⟨h.size,0,none⟩) 1 [.int .u64 (s:Int)]:=(b1.ext e2).upd u4 fun ad ha e=>by cases ha;simp only at e;omega
  have b24:Rd h4 (some ⟨h1.size,0,none⟩) 2 [.int .u64 (s:Int),.int .u64 (d:Int)]:=b2.upd u4 fun ad ha e=>by cases ha;simp only at e;omega
  refine AtP.mk rfl ⟨_,(rk.ext e04).fld 11 rfl,_,b14.cells,?_⟩
  have no:∀ h' Mi,MapIs pkey dv h' mb Mi->MOk (wdC C) (litP l) d Mi->MSame d (putM M (s,d) 2) Mi->Upd (fun i=>i=mb) h h'->ldB (wdC C) (litP l) d s=false->(Value.bool false=.bool (ldB (wdC C) (litP l) d s)/\Upd (fun i=>i=mb) h h'/\∃ M',MapIs pkey dv h' mb M'/\MOk (wdC C) (litP l) (d+1) M'/\MSame (d+1) M M'):=fun h' Mi mpi moi smi ui hf=>
   ⟨by rw [hf],ui,Mi,mpi,MOk.fin (v:=2) mo rfl moi smi (.inr ⟨rfl,hf⟩),MSame.put.trans smi.less⟩
  refine MapIs.look (val:=Sl.v) ukr (wmp.ext e04) s (fun hnone=>?_) fun sl hsl=>⟨_,_,_,rfl,?_⟩
  ·have hnil:=wmn _ hs hnone
   refine LoopT.once fun K=>⟨fun hh=>absurd hh (by omega),fun _=>no h4 _ mp4 (MOk.at_ fun s' d' v' hd'=>mo s' d' v' (by omega)) .refl u04 ?_⟩
   rw [ldB_eq,hnil];rfl
  ·have ha:=wma _ sl hsl
   have hln:=ha.len
   have hw:((wdC C).arcs s).length≤2 ^ C.ins.length:=warcs_len
   obtain ⟨vs,rv,hvs,hvr⟩:=ha
   have hvl:vs.length=sl.n:=rv.elen AW.csl (by omega)
   refine LoopT.to (n:=sl.n) (by omega) (fun i h'=>∃ Mi,MapIs pkey dv h' mb Mi/\MOk (wdC C) (litP l) d Mi/\MSame d (putM M (s,d) 2) Mi/\Upd (fun i=>i=mb) h h'/\Rd h' (some ⟨h1.size,0,none⟩) 2 [.int .u64 (s:Int),.int .u64 (d:Int)]/\(((wdC C).arcs s).take i).any (tsB (wdC C) (litP l) d)=false)
    ⟨_,mp4,MOk.at_ fun s' d' v' hd'=>mo s' d' v' (by omega),.refl,u04,b24,by simp⟩ ?_
   rintro i h9 K hi ⟨Mi,mpi,moi,smi,ui,bi,hany⟩ hK
   refine ⟨fun hlt=>?_,fun hlt=>?_⟩
   ·have hiv:i<vs.length:=by omega
    have hia:i<((wdC C).arcs s).length:=by omega
    have harc:((wdC C).arcs s)[i]=vs[i].arc:=by simp only [<- hvs,List.getElem_map]
    have hmem:vs[i].arc∈(wdC C).arcs s:=by rw [<- harc];exact List.getElem_mem hia
    have e09:Ext h0 h9:=e0.newer ui fun i hi e=>by omega
    have z9:h1.size<h9.size:=cellH_lt (bi.fld 0 rfl)
    unfold J54_5
    refine ⟨by omega,hlt,(rv.ext e09).elem AW.csl (by omega) (i:=i) (by omega) fun ad hl3 re=>⟨_,_,_,_,_,re.cells,?_⟩⟩
    refine boxN (zs:=[.int .i64 0,.int .u64 0,.slice none 0 0]) (ws:=vs[i].cs) rfl (by simp [AW.cs,Value.oneCell']) fun h11 e11 b11=>?_
    have b11:Rd h11 (some ⟨h9.size,0,none⟩) 3 vs[i].cs:=b11
    have mpi11:=mpi.ext e11
    have ui11:=ui.trans (Upd.wide e11)
    have bi11:=bi.ext e11
    have e011:=e09.trans e11
    have hit:∀ h' Mi,MapIs pkey dv h' mb Mi->MOk (wdC C) (litP l) d Mi->MSame d (putM M (s,d) 2) Mi->Upd (fun i=>i=mb) h h'->Rd h' (some ⟨h1.size,0,none⟩) 2 [.int .u64 (s:Int),.int .u64 (d:Int)]->tsB (wdC C) (litP l) d vs[i].arc=true->∃ (t19 t20:Int),cellsH h' ⟨h1.size,0,none⟩ 0 [.int .u64 t19,.int .u64 t20]/\MapPut (.flat [.int .u64,.int .u64]) (.agg #[.int .u64 t19,.int .u64 t20]) (.int .i64 1) h' (some mb) fun h_15=>(Value.bool true=.bool (ldB (wdC C) (litP l) d s)/\Upd (fun i=>i=mb) h h_15/\∃ M',MapIs pkey dv h_15 mb M'/\MOk (wdC C) (litP l) (d+1) M'/\MSame (d+1) M M'):=fun h' Mi mpi moi smi ui bi ht=>by
     refine ⟨_,_,bi.cells,MapIs.put (val:=dv) pkr mpi (s,d) 1 fun h'' mp'' u''=>?_⟩
     have hT:ldB (wdC C) (litP l) d s=true:=by rw [ldB_eq];exact List.any_eq_true.2 ⟨_,hmem,ht⟩
     exact ⟨by rw [hT],ui.trans u'',_,mp'',MOk.fin (v:=1) mo rfl moi.at_ smi.one (.inl ⟨rfl,hT⟩),MSame.put.trans smi.one.less⟩
    have nxt:∀ h' Mi,MapIs pkey dv h' mb Mi->MOk (wdC C) (litP l) d Mi->MSame d (putM M (s,d) 2) Mi->Upd (fun i=>i=mb) h h'->Rd h' (some ⟨h1.size,0,none⟩) 2 [.int .u64 (s:Int),.int .u64 (d:Int)]->tsB (wdC C) (litP l) d vs[i].arc=false->K (IntKind.wrap .i64 ((i:Int)+1)) h':=fun h' Mi mpi moi smi ui bi ht=>
     hK h' (by omega) ⟨Mi,mpi,moi,smi,ui,bi,any_take hia hany (by rw [harc];exact ht)⟩
    refine ⟨fun hd0=>?_,fun hd0=>⟨fun hpos=>?_,fun hneg=>absurd (by omega) hneg⟩⟩
    ·obtain rfl:d=0:=by omega
     have hrv:=hvr _ (List.getElem_mem hiv)
     have hal:=arc_len hz hmem
     have hrl:=hrv.len
     rw [List.length_map] at hrl
     have hal':vs[i].vl.length=(C.mx+1).toNat:=hal
     refine ⟨_,_,_,b11.fld 2 rfl,use (c92 (hrv.ext e011) hl0 (by omega) (by omega)) ⟨_,rfl,?_⟩⟩
     cases ht:lit vs[i].vl l with
     | true=>exact BIf.t (hit h11 Mi mpi11 moi smi ui11 bi11 ht)
     | false=>exact BIf.f ⟨fun hh=>absurd hh (by omega),fun _=>nxt h11 Mi mpi11 moi smi ui11 bi11 ht⟩
    ·obtain ⟨e,rfl⟩:∃ e,d=e+1:=⟨d-1,by omega⟩
     rw [show IntKind.wrap .i64 (((e+1:Nat):Int)-1)=(e:Int) by rw [w64 (by omega) (by omega)];omega]
     have hnx:vs[i].nx<2 ^ C.lats.length:=wk.nx _ _ hmem
     refine ⟨_,cells1 (b11.fld 1 rfl),(ih e (by omega) (by omega) e011 mpi11 moi hnx).mono ?_⟩
     rintro _ h12 ⟨rfl,u12,Mj,mpj,moj,smj⟩
     refine ⟨_,rfl,?_⟩
     have uj:=ui11.trans u12
     have bj:Rd h12 (some ⟨h1.size,0,none⟩) 2 [.int .u64 (s:Int),.int .u64 ((e+1:Nat):Int)]:=bi11.upd u12 fun ad ha e'=>by cases ha;simp only at e';omega
     cases ht:ldB (wdC C) (litP l) e vs[i].nx with
     | true=>exact BIf.t (hit h12 Mj mpj moj (smi.trans smj) uj bj ht)
     | false=>exact BIf.f (nxt h12 Mj mpj moj (smi.trans smj) uj bj ht)
   ·refine no h9 Mi mpi moi smi ui ?_
    rw [List.take_of_length_le (by omega)] at hany
    rw [ldB_eq];exact hany
 refine ⟨_,_,b2.cells,?_⟩
 refine MapIs.look (val:=dv) pkr mp2 (s,d) (fun hno=>⟨fun hh=>absurd hh (by omega),fun _=>go hno⟩) fun x hx=>⟨_,rfl,?_⟩
 rcases mo s d x (by omega) hx with ⟨rfl,ht⟩ | ⟨rfl,ht⟩
 ·refine ⟨fun _=>⟨_,_,b2.cells,MapIs.look (val:=dv) pkr mp2 (s,d) (fun hno=>by rw [hx] at hno;cases hno) fun y hy=>⟨_,rfl,?_⟩⟩,fun hh=>absurd (show (0:Int)<((1:Nat):Int) by omega) hh⟩
  obtain rfl:1=y:=by rw [hx] at hy;exact Option.some.inj hy
  exact ⟨fun _=>⟨by rw [ht],Upd.wide e02,M,mp2,mo,.refl⟩,fun hh=>absurd rfl hh⟩
 ·refine ⟨fun _=>⟨_,_,b2.cells,MapIs.look (val:=dv) pkr mp2 (s,d) (fun hno=>by rw [hx] at hno;cases hno) fun y hy=>⟨_,rfl,?_⟩⟩,fun hh=>absurd (show (0:Int)<((2:Nat):Int) by omega) hh⟩
  obtain rfl:2=y:=by rw [hx] at hy;exact Option.some.inj hy
  exact ⟨fun hh=>absurd hh (by omega),fun _=>⟨by rw [ht],Upd.wide e02,M,mp2,mo,.refl⟩⟩
end
end Go.Proofs.YtdpbdjdgdmheiaaGreat
namespace Go.Hx
theorem Mem.offmap {h0 h h':Heap} {l:List Itm} {b:Nat} (m:Mem h0 h l) (hm:∃ es k,h[b]?=Option.some (Obj.map es k)) (u:Upd (fun x=>x=b) h h') (hb:h0.size≤b):Mem h0 h' l:=
 ⟨m.ext.newer u fun i hi e=>by omega,fun t ht=>(m.fr t ht).offmap hm u hb,m.dis⟩
theorem MOk.less {W:Wd} {p:Arc->Bool} {n n':Nat} {M:List ((Nat×Nat)×Nat)} (m:MOk W p n M) (h:n'≤n):MOk W p n' M:=fun s d v hd hv=>m s d v (by omega) hv
theorem MOk.join {W:Wd} {p:Arc->Bool} {n n':Nat} {M M':List ((Nat×Nat)×Nat)} (m:MOk W p n M) (m':MOk W p n' M') (sm:MSame n' M M'):MOk W p n M':=fun s d v hd hv=>by
 by_cases h:d<n'
 ·exact m' s d v h hv
 ·rw [sm s d (by omega)] at hv
  exact m s d v hd hv
noncomputable def ltP (W:Wd) (p:Arc->Bool):Nat->Nat->List Arc
 | 0,s=>((W.arcs s).find? (tsB W p 0)).toList
 | e+1,s=>match (W.arcs s).find? (tsB W p (e+1)) with
  | some a=>a::ltP W p e a.nx
  | none=>[]
noncomputable def ltR (W:Wd) (p:Arc->Bool):Nat->Nat->List Arc
 | 0,_=>[]
 | e+1,s=>ltP W p e s
theorem ltP_eq {W:Wd} {p:Arc->Bool} {d s:Nat} {a:Arc} (h:(W.arcs s).find? (tsB W p d)=some a):ltP W p d s=a::ltR W p d a.nx:=by
 cases d with
 | zero=>unfold ltP;rw [h];rfl
 | succ e=>unfold ltP;rw [h];rfl
theorem find_at {α:Type} {L:List α} {t:α->Bool} {i:Nat} (hi:i<L.length) (h:(L.take i).any t=false) (ht:t L[i]=true):L.find? t=some L[i]:=by
 have e:L=L.take i++(L[i]::L.drop (i+1)):=by rw [List.getElem_cons_drop,List.take_append_drop]
 have h1:(L.take i).find? t=none:=by
  rw [List.find?_eq_none]
  intro x hx
  rw [List.any_eq_false] at h
  exact h x hx
 calc L.find? t=(L.take i++(L[i]::L.drop (i+1))).find? t:=by rw [<- e]
  _=some L[i]:=by rw [List.find?_append,h1,Option.none_or,List.find?_cons_of_pos ht]
end Go.Hx
namespace Go.Proofs.YtdpbdjdgdmheiaaGreat
open Go.Hx Go.Deep
section
variable {h0:Heap} {k:Addr} {C:Circ}
theorem agr0 {n0:Nat} {h h':Heap} (e:Ext h h') (hn:n0≤h.size):AgreeH n0 h h':=fun b hb=>e.2 b (by omega) fun x=>x
def RwB.it (r:RwB):Itm:=⟨1,r.a,r.n,r.c,bools r.l⟩
def it46 (hk hr b:Nat) (ia:Addr) (s:Nat) (rv:List Value) (init:List Bool) (oa:Option Addr) (on oc:Nat) (rows:List RwB):List Itm:=[⟨1,some ⟨hk,0,none⟩,1,1,[.int .u64 (s:Int)]⟩,⟨1,some ⟨hr,0,none⟩,3,3,rv⟩,⟨1,some ⟨b,0,none⟩,3,3,[.slice (some ia) init.length init.length,.slice oa on oc,.int .i64 (-1)]⟩,⟨1,some ia,init.length,init.length,bools init⟩,⟨1,oa,on,oc,rows.map RwB.v⟩]++rows.map RwB.it
set_option maxRecDepth 4000 in
theorem hit46 (w:WIs h0 k C) {hk hr b q:Nat} {ia:Addr} {s:Nat} {rv:List Value} {init:List Bool} {oa:Option Addr} {on oc:Nat} {rows:List RwB} {h16:Heap} (m:Mem h0 h16 (it46 hk hr b ia s rv init oa on oc rows)) {x:AW} (bx:Rd h16 (some ⟨q,0,none⟩) 3 x.cs)
  (hlt:∀ t∈it46 hk hr b ia s rv init oa on oc rows,∀ ad,t.a=some ad->ad.block<q) (hrow:x.row<64) (hon:on≤100000) {mb:Nat} {M:List ((Nat×Nat)×Nat)} (mp:MapIs pkey dv h16 mb M) {K:Heap->Prop}
  (hK:∀ h' a' c' ad,Mem h0 h' (it46 hk hr b ia x.nx rv init a' (on+1) c' (rows++[⟨some ad,C.ins.length,C.ins.length,bitsN x.row C.ins.length⟩]))->MapIs pkey dv h' mb M->K h') :
  (Addr.block (Addr.add (Addr.mk b 0 none) 1))<(h16).size/\∃ (A8:Option Addr) (N8 C8:Nat),cellH h16 (Addr.add (Addr.mk b 0 none) 1)=some (.slice A8 N8 C8)/\(Addr.block (Addr.add ⟨q,0,none⟩ 0))<(h16).size/\∃ (t12:Int),cellH h16 (Addr.add ⟨q,0,none⟩ 0)=some (.int .i64 t12)/\AtP (some k) fun ad4=>(Addr.block (Addr.add (Addr.add ad4 0) 1))<(h16).size/\∃ (A9:Option Addr) (N9 C9:Nat),cellH h16 (Addr.add (Addr.add ad4 0) 1)=some (.slice A9 N9 C9)/\CallsH Tryz.prog 88 #[(.int .u64 (IntKind.wrap .u64 t12)),(.int .i64 ((N9:Nat):Int))] h16 fun v4 h_23=>
   ∃ (A10:Option Addr) (N10 C10:Nat),v4=(.slice A10 N10 C10)/\AgreeH (h16).size h16 h_23/\let h_24:Heap:=(h_23).push (.cells #[.slice A10 N10 C10] 46);AgreeH (h16).size h_23 h_24/\∃ ys1:List Value,ReadL h_24 (some ⟨h_23.size,0,none⟩) ys1/\ys1.length=1*1/\AppS h_24 A8 N8 C8 46 24 1 #[.slice none 0 0] ys1 1 fun apA1 apN1 apC1 h_25=>StoreH h_25 (Addr.add (Addr.mk b 0 none) 1) [.slice apA1 apN1 apC1] fun h_26=>∃ (t13:Int),cellsH h_26 (Addr.add ⟨q,0,none⟩ 1) 0 [.int .u64 t13]/\StoreH h_26 ⟨hk,0,none⟩ [.int .u64 t13] fun h_27=>K h_27:=by
 obtain ⟨hz,hL,hI⟩:=fewE_0 w.few
 obtain ⟨v,wb,WM,rk,r,_,_,_⟩:=w.ex
 have q1:=r.len.i
 have rk16:=rk.ext m.ext
 have rb:=(m.get 2 rfl).rd
 have rkI:cellH h16 ((k.add 0).add 1)=some (.slice v.i.a C.ins.length v.i.c):=by rw [addr_add0,q1];exact rk16.fld 1 rfl
 refine ⟨by have:=cellH_lt (rb.fld 1 rfl);simpa using this,_,_,_,rb.fld 1 rfl,by have:=cellH_lt (bx.fld 0 rfl);simpa using this,_,bx.fld 0 rfl,AtP.mk rfl ⟨by have:=cellH_lt rkI;simpa using this,_,_,_,rkI,?_⟩⟩
 rw [show IntKind.wrap .u64 (x.row:Int)=(x.row:Int) by rw [wr_u64];omega]
 refine (c88 (n:=x.row) (size:=C.ins.length) (by omega) (by omega)).mono ?_
 rintro _ h23 ⟨ad,rfl,f23⟩
 refine ⟨_,_,_,rfl,agr0 f23.ext (Nat.le_refl _),?_⟩
 intro h24
 have e24:Ext h23 h24:=Ext.push h23 _
 have m23:=m.add (t:=RwB.it ⟨some ad,C.ins.length,C.ins.length,bitsN x.row C.ins.length⟩) f23
 have m24:=m23.ext' e24
 have bx24:=bx.ext (f23.ext.trans e24)
 have mp24:=mp.ext (f23.ext.trans e24)
 refine ⟨agr0 e24 f23.ext.1,[.slice (some ad) C.ins.length C.ins.length],(Fr.lit (.refl h23) [Value.slice (some ad) C.ins.length C.ins.length] 46 1 rfl).rd.read,rfl,?_⟩
 have fo:=m24.get 5 (sz:=1) (a:=oa) (n:=on) (c:=oc) (vs:=rows.map RwB.v) rfl
 refine fo.app rfl (by simp [Value.oneCell']) (by omega) fun a' c' h25 f25 u25 hor=>?_
 have m25:=m24.setAt 5 (t':=⟨1,a',on+1,c',rows.map RwB.v++[.slice (some ad) C.ins.length C.ins.length]⟩) rfl f25 u25 hor
 have bx25:Rd h25 (some ⟨q,0,none⟩) 3 x.cs:=bx24.upd u25 fun ad' ha ⟨y,hy,e⟩=>by
  cases ha
  have:=hlt ⟨1,oa,on,oc,rows.map RwB.v⟩ (by simp [it46]) y hy
  simp only at e;omega
 have mp25:=mp24.upd u25 (fo.own.notmap mp24.isMap)
 have fb:=m25.get 3 (sz:=1) (a:=some ⟨b,0,none⟩) (n:=3) (c:=3) (vs:=[.slice (some ia) init.length init.length,.slice oa on oc,.int .i64 (-1)]) rfl
 refine fb.cellAt 1 (by omega) rfl fun h26 u26 f26=>?_
 have m26:=m25.setAt 3 (t':=⟨1,some ⟨b,0,none⟩,3,3,[.slice (some ia) init.length init.length,.slice a' (on+1) c',.int .i64 (-1)]⟩) rfl f26 u26 (.inl rfl)
 have bx26:Rd h26 (some ⟨q,0,none⟩) 3 x.cs:=bx25.upd u26 fun ad' ha ⟨y,hy,e⟩=>by
  cases ha
  have:=hlt ⟨1,some ⟨b,0,none⟩,3,3,[.slice (some ia) init.length init.length,.slice oa on oc,.int .i64 (-1)]⟩ (by simp [it46]) y hy
  simp only at e;omega
 have mp26:=mp25.upd u26 (fb.own.notmap mp25.isMap)
 refine ⟨_,cells1 (bx26.fld 1 rfl),?_⟩
 have fk:=m26.get 1 (sz:=1) (a:=some ⟨hk,0,none⟩) (n:=1) (c:=1) (vs:=[.int .u64 (s:Int)]) rfl
 refine fk.put (ws:=[.int .u64 (x.nx:Int)]) rfl (by simp [Value.oneCell']) fun h27 f27 u27=>?_
 have m27:=m26.setAt 1 (t':=⟨1,some ⟨hk,0,none⟩,1,1,[.int .u64 (x.nx:Int)]⟩) rfl f27 u27 (.inl rfl)
 refine hK h27 a' c' ad (m27.perm ?_) (mp26.upd u27 (fk.own.notmap mp26.isMap))
 unfold it46
 rw [List.map_append,List.map_append]
 refine (List.perm_append_comm (l₁:=[_])).trans ?_
 rw [<- List.append_assoc]
 exact List.Perm.refl _
end
end Go.Proofs.YtdpbdjdgdmheiaaGreat
namespace Go.Proofs.YtdpbdjdgdmheiaaGreat
open Go.Hx Go.Deep
section
variable {h0:Heap} {k:Addr} {C:Circ}
noncomputable def ltT (C:Circ) (l:Int) (d s:Nat):Tr:=⟨bitsN s C.lats.length,(ltP (wdC C) (litP l) d s).map fun a=>bitsN a.row C.ins.length,-1⟩
theorem arc_row {s:Nat} {a:Arc} (h:a∈(wdC C).arcs s):a.row<2 ^ C.ins.length:=by
 obtain ⟨r,hr,hw⟩:=mem_warcs.1 h
 obtain ⟨_,rfl⟩:=warc_some hw
 exact hr
set_option maxRecDepth 4000 in
theorem c55 (w:WIs h0 k C) {l:Int} (hl0:0≤l) (hl1:l≤2*C.mx+1) {mb:Nat} (hmb:h0.size≤mb) {d:Nat} {h:Heap} {s:Nat} {M:List ((Nat×Nat)×Nat)} (hd:d≤1000) (e0:Ext h0 h) (mp:MapIs pkey dv h mb M) (mo:MOk (wdC C) (litP l) (d+1) M) (hs:s<2 ^ C.lats.length) (hld:ldB (wdC C) (litP l) d s=true) :
  CallsH Tryz.prog 55 #[.pointer (some k),.agg #[.int .u64 (s:Int)],.int .i64 l,.int .i64 (d:Int),.map (some mb)] h fun x h'=>Ext h0 h'/\∃ tv,x=TV.v tv/\TNew h0 h' tv (ltT C l d s):=by
 obtain ⟨hz,hL,hI⟩:=fewE_0 w.few
 have hm:=(chk_bounds hz).1
 have wk:=wd_ok C
 have h64:2 ^ C.ins.length≤64:=Nat.pow_le_pow_right (n:=2) (by omega) hI
 have h256:2 ^ C.lats.length≤256:=Nat.pow_le_pow_right (n:=2) (by omega) hL
 obtain ⟨v,wb,WM,rk,r,wmp,wma,wmn⟩:=w.ex
 have q2:=r.len.l
 have hmlt:mb<h.size:=mp.lt
 refine run55 (some k) s l d (some mb) _ h ?_
 unfold VC55
 intro h1 h2
 have f1:Fr h 1 h1 (some ⟨h.size,0,none⟩) 1 1 [.int .u64 (s:Int)]:=Fr.lit (.refl h) [Value.int .u64 (s:Int)] 76 1 rfl
 have f2:Fr h1 1 h2 (some ⟨h1.size,0,none⟩) 3 3 TV.zero.cs:=Fr.lit (.refl h1) TV.zero.cs 49 3 rfl
 have m2:Mem h0 h2 [⟨1,some ⟨h1.size,0,none⟩,3,3,TV.zero.cs⟩,⟨1,some ⟨h.size,0,none⟩,1,1,[.int .u64 (s:Int)]⟩]:=((Mem.nil e0).add (t:=⟨1,some ⟨h.size,0,none⟩,1,1,[.int .u64 (s:Int)]⟩) f1).add (t:=⟨1,some ⟨h1.size,0,none⟩,3,3,TV.zero.cs⟩) f2
 have rb:=(m2.get 1 rfl).rd
 have rkL:cellH h2 ((k.add 0).add 2)=some (.slice v.l.a C.lats.length v.l.c):=by rw [addr_add0,q2];exact (rk.ext m2.ext).fld 2 rfl
 refine ⟨Int.le_refl _,by omega,by have:=cellH_lt (rb.fld 0 rfl);simpa using this,_,rb.fld 0 rfl,AtP.mk rfl ⟨by have:=cellH_lt rkL;simpa using this,_,_,_,rkL,?_⟩⟩
 intro U h3 g3
 have u3:=(MemU.start (Mem.nil (.refl h2))).grow g3
 refine (c88 (n:=s) (size:=C.lats.length) (by omega) (by omega)).mono ?_
 rintro _ h4 ⟨ia,rfl,fi⟩
 obtain ⟨kp4,u4⟩:=u3.add1 (t:=⟨1,some ia,C.lats.length,C.lats.length,bools (bitsN s C.lats.length)⟩) fi
 refine ⟨_,_,_,rfl,kp4,fun U1 h5 b g5 hb hobj U2 h6 g6=>?_⟩
 have u5:=u4.grow g5
 have u6:=u5.take (t:=⟨1,some ⟨b,0,none⟩,3,3,TV.zero.cs⟩) hb (u5.lt b hb).1 ⟨Own.row hobj rfl,(fun ad ha=>by cases ha;exact (u5.lt b hb).1),u5.mem.ext⟩ (fun ad ha=>by cases ha;rfl)
 have u7:=u6.grow g6
 refine (u7.mem.get 0 rfl).put (ws:=[.slice (some ia) C.lats.length C.lats.length,.slice none 0 0,.int .i64 (-1)]) rfl (by simp [Value.oneCell']) fun h7 f7 w7=>⟨w7.1,?_⟩
 have m7:=u7.mem.setAt 0 (t':=⟨1,some ⟨b,0,none⟩,3,3,[.slice (some ia) C.lats.length C.lats.length,.slice none 0 0,.int .i64 (-1)]⟩) rfl f7 w7 (.inl rfl)
 have e27:Ext h2 h7:=m7.ext
 have m7:=(m2.app m7).add (t:=⟨1,none,0,0,[]⟩) (Fr.nil (.refl h7))
 have m7:Mem h0 h7 (it46 h.size h1.size b ia s TV.zero.cs (bitsN s C.lats.length) none 0 0 []):=by
  refine m7.perm ?_
  simp only [it46,bitsN_len,List.map_nil,List.append_nil]
  exact (List.reverse_perm _).symm.trans (.cons _ (.cons _ (.swap _ _ _)))
 have mp7:MapIs pkey dv h7 mb M:=(mp.ext ((f1.ext.trans f2.ext).trans e27))
 refine ⟨fun st h' mm=>∃ (j s':Nat) (rows:List RwB) (oa:Option Addr) (on oc:Nat) (Mi:List ((Nat×Nat)×Nat)),st=(j:Int)-1/\mm=j/\Mem h0 h' (it46 h.size h1.size b ia s' TV.zero.cs (bitsN s C.lats.length) oa on oc rows)/\MapIs pkey dv h' mb Mi/\MOk (wdC C) (litP l) (d+1) Mi/\s'<2 ^ C.lats.length /\
  (∀ e,j=e+1->ldB (wdC C) (litP l) e s'=true)/\rows.map RwB.l++(ltR (wdC C) (litP l) j s').map (fun a=>bitsN a.row C.ins.length)=(ltT C l d s).ins/\on+j=d+1/\∀ x∈rows,x.n≤x.c,
  ⟨d+1,d+1,s,[],none,0,0,M,by omega,rfl,m7,mp7,mo,hs,(fun e he=>(show d=e by omega)▸hld),rfl,by omega,fun x hx=>by cases hx⟩,?_⟩
 rintro _ h8 j ⟨_,s',rows,oa,on,oc,Mi,rfl,rfl,m8,mp8,mo8,hs',hl',hrows,hon,hnc⟩
 refine ⟨fun hge=>?_,fun hlt=>?_⟩
 rotate_left
 ·obtain rfl:j=0:=by omega
  unfold J55_0
  have fb:=m8.get 2 (sz:=1) (a:=some ⟨b,0,none⟩) (n:=3) (c:=3) (vs:=[.slice (some ia) (bitsN s C.lats.length).length (bitsN s C.lats.length).length,.slice oa on oc,.int .i64 (-1)]) rfl
  let tv:TV:=⟨⟨some ia,(bitsN s C.lats.length).length,(bitsN s C.lats.length).length⟩,⟨oa,on,oc⟩,-1⟩
  refine ldT (v:=tv) fb.rd ?_
  have fr:=m8.get 1 (sz:=1) (a:=some ⟨h1.size,0,none⟩) (n:=3) (c:=3) (vs:=TV.zero.cs) rfl
  refine fr.put (ws:=tv.cs) rfl (by simp [TV.cs,Value.oneCell']) fun h9 f9 u9=>?_
  have m9:=m8.setAt 1 (t':=⟨1,some ⟨h1.size,0,none⟩,3,3,tv.cs⟩) rfl f9 u9 (.inl rfl)
  refine ldT (v:=tv) f9.rd ⟨m9.ext,tv,rfl,rfl,rows,?_,m9.sub (.cons _ (.cons _ (.cons _ (.refl _))))⟩
  rw [<- hrows];simp [ltR]
 ·obtain ⟨e,rfl⟩:∃ e,j=e+1:=⟨j-1,by omega⟩
  have hle:=hl' e rfl
  have hed:e≤d:=by omega
  have hst:((e+1:Nat):Int)-1=(e:Int):=by omega
  rw [hst]
  unfold J55_1
  have e08:=m8.ext
  have fk:=m8.get 0 (sz:=1) (a:=some ⟨h.size,0,none⟩) (n:=1) (c:=1) (vs:=[.int .u64 (s':Int)]) rfl
  refine AtP.mk rfl ⟨_,(rk.ext e08).fld 11 rfl,_,fk.rd.cells,?_⟩
  refine MapIs.look (val:=Sl.v) ukr (wmp.ext e08) s' (fun hnone=>?_) fun sl hsl=>⟨_,_,_,rfl,?_⟩
  ·have hnil:=wmn _ hs' hnone
   rw [ldB_eq,hnil] at hle
   cases hle
  have ha:=wma _ sl hsl
  have hln:=ha.len
  have hw:((wdC C).arcs s').length≤2 ^ C.ins.length:=warcs_len
  obtain ⟨vs,rv,hvs,hvr⟩:=ha
  have hvl:vs.length=sl.n:=rv.elen AW.csl (by omega)
  refine LoopT.to (n:=sl.n) (by omega) (fun i h'=>∃ Mj,Mem h0 h' (it46 h.size h1.size b ia s' TV.zero.cs (bitsN s C.lats.length) oa on oc rows)/\MapIs pkey dv h' mb Mj/\MOk (wdC C) (litP l) (d+1) Mj/\(((wdC C).arcs s').take i).any (tsB (wdC C) (litP l) e)=false)
   ⟨Mi,m8,mp8,mo8,by simp⟩ ?_
  rintro i h9 K hi ⟨Mj,m9,mp9,mo9,hany⟩ hK
  refine ⟨fun hlt=>?_,fun hlt=>?_⟩
  rotate_left
  ·rw [List.take_of_length_le (by omega)] at hany
   rw [ldB_eq,hany] at hle
   cases hle
  have hiv:i<vs.length:=by omega
  have hia:i<((wdC C).arcs s').length:=by omega
  have harc:((wdC C).arcs s')[i]=vs[i].arc:=by simp only [<- hvs,List.getElem_map]
  have hmem:vs[i].arc∈(wdC C).arcs s':=by rw [<- harc];exact List.getElem_mem hia
  have e09:=m9.ext
  unfold J55_6
  refine ⟨by omega,hlt,(rv.ext e09).elem AW.csl (by omega) (i:=i) (by omega) fun ad hl3 re=>⟨_,_,_,_,_,re.cells,?_⟩⟩
  refine boxN (zs:=[.int .i64 0,.int .u64 0,.slice none 0 0]) (ws:=vs[i].cs) rfl (by simp [AW.cs,Value.oneCell']) fun h11 e11 b11=>?_
  have b11:Rd h11 (some ⟨h9.size,0,none⟩) 3 vs[i].cs:=b11
  have m11:=m9.ext' e11
  have mp11:=mp9.ext e11
  have e011:=m11.ext
  have hlt9:∀ t∈it46 h.size h1.size b ia s' TV.zero.cs (bitsN s C.lats.length) oa on oc rows,∀ ad,t.a=some ad->ad.block<h9.size:=fun t ht ad had=>m9.lt ht had
  have hrow:vs[i].row<64:=by have:vs[i].row<2 ^ C.ins.length:=arc_row hmem;omega
  have done:tsB (wdC C) (litP l) e vs[i].arc=true->∀ h' a' c' ad Mk,MOk (wdC C) (litP l) (d+1) Mk->Mem h0 h' (it46 h.size h1.size b ia vs[i].nx TV.zero.cs (bitsN s C.lats.length) a' (on+1) c' (rows++[⟨some ad,C.ins.length,C.ins.length,bitsN vs[i].row C.ins.length⟩]))->MapIs pkey dv h' mb Mk ->
    ∃ m',m'<e+1/\∃ (j s':Nat) (rows:List RwB) (oa:Option Addr) (on oc:Nat) (Mi:List ((Nat×Nat)×Nat)),IntKind.wrap .i64 ((e:Int)-1)=(j:Int)-1/\m'=j/\Mem h0 h' (it46 h.size h1.size b ia s' TV.zero.cs (bitsN s C.lats.length) oa on oc rows)/\MapIs pkey dv h' mb Mi/\MOk (wdC C) (litP l) (d+1) Mi/\s'<2 ^ C.lats.length /\
     (∀ e,j=e+1->ldB (wdC C) (litP l) e s'=true)/\rows.map RwB.l++(ltR (wdC C) (litP l) j s').map (fun a=>bitsN a.row C.ins.length)=(ltT C l d s).ins/\on+j=d+1/\∀ x∈rows,x.n≤x.c:=fun ht h' a' c' ad Mk mok mm' mpk=>by
   refine ⟨e,by omega,e,vs[i].nx,_,a',on+1,c',Mk,w64 (by omega) (by omega),rfl,mm',mpk,mok,wk.nx _ _ hmem,fun e' he'=>?_,?_,by omega,fun x hx=>?_⟩
   ·subst he';exact ht
   ·rw [<- hrows]
    show _=_++(ltP (wdC C) (litP l) e s').map _
    rw [ltP_eq (find_at hia hany (by rw [harc];exact ht)),harc]
    simp [AW.arc]
   ·rcases List.mem_append.1 hx with hx | hx
    ·exact hnc x hx
    ·rw [List.mem_singleton] at hx;subst hx;exact Nat.le_refl _
  refine ⟨fun hd0=>?_,fun hd0=>⟨fun hpos=>?_,fun hneg=>absurd (by omega) hneg⟩⟩
  ·obtain rfl:e=0:=by omega
   have hrv:=hvr _ (List.getElem_mem hiv)
   have hal:=arc_len hz hmem
   have hrl:=hrv.len
   rw [List.length_map] at hrl
   have hal':vs[i].vl.length=(C.mx+1).toNat:=hal
   refine ⟨_,_,_,b11.fld 2 rfl,use (c92 (hrv.ext e011) hl0 (by omega) (by omega)) ⟨_,rfl,?_⟩⟩
   cases ht:lit vs[i].vl l with
   | true=>exact BIf.t (hit46 w m11 b11 hlt9 hrow (by omega) mp11 fun h' a' c' ad mm' mpk=>done ht h' a' c' ad Mj mo9 mm' mpk)
   | false=>exact BIf.f ⟨fun hh=>absurd hh (by omega),fun _=>hK h11 (by omega) ⟨Mj,m11,mp11,mo9,any_take hia hany (by rw [harc];exact ht)⟩⟩
  ·obtain ⟨e',rfl⟩:∃ e',e=e'+1:=⟨e-1,by omega⟩
   rw [show IntKind.wrap .i64 (((e'+1:Nat):Int)-1)=(e':Int) by rw [w64 (by omega) (by omega)];omega]
   have hnx:vs[i].nx<2 ^ C.lats.length:=wk.nx _ _ hmem
   refine ⟨_,cells1 (b11.fld 1 rfl),(c54 w hl0 hl1 hmb e' (by omega) e011 mp11 (mo9.less (by omega)) hnx).mono ?_⟩
   rintro _ h12 ⟨rfl,u12,Mk,mpk,mok,smk⟩
   have m12:=m11.offmap mp11.isMap u12 hmb
   have mo12:=mo9.join mok smk
   have b12:Rd h12 (some ⟨h9.size,0,none⟩) 3 vs[i].cs:=b11.upd u12 fun ad ha e'=>by cases ha;have:=mp9.lt;simp only at e';omega
   refine ⟨_,rfl,?_⟩
   cases ht:ldB (wdC C) (litP l) e' vs[i].nx with
   | true=>exact BIf.t (hit46 w m12 b12 hlt9 hrow (by omega) mpk fun h' a' c' ad mm' mpk'=>done ht h' a' c' ad Mk mo12 mm' mpk')
   | false=>exact BIf.f (hK h12 (by omega) ⟨Mk,m12,mpk,mo12,any_take hia hany (by rw [harc];exact ht)⟩)
end
end Go.Proofs.YtdpbdjdgdmheiaaGreat
namespace Go.Hx
theorem BadIs.lead {W:Wd} {p:Arc->Bool} {d:Nat} (b:BadIs W (fun a=>p a=true) (d:Nat)):∃ s∈W.st,ldB W p d s=true:=by
 rcases b with ⟨h,_⟩ | ⟨d',h,⟨t,a,hd,ha,hp⟩,_⟩
 ·omega
 ·obtain rfl:d=d':=by omega
  obtain ⟨s,q,hs,w,hl⟩:=hd.1.way
  exact ⟨s,hs,ldB_iff.2 ⟨q,t,a,w,hl,ha,hp⟩⟩
theorem BadIs.le {W:Wd} (ok:W.Ok) {P:Arc->Prop} {d:Nat} (b:BadIs W P (d:Nat)):d<W.n:=by
 rcases b with ⟨h,_⟩ | ⟨d',h,⟨t,a,hd,ha,hp⟩,_⟩
 ·omega
 ·obtain rfl:d=d':=by omega
  exact hd.lt ok
end Go.Hx
namespace Go.Proofs.YtdpbdjdgdmheiaaGreat
open Go.Hx Go.Deep
section
variable {h:Heap} {v:CV} {C:Circ}
def ShoP (C:Circ) (i:Int) (h:Heap) (x:Value) (h':Heap):Prop:=Ext h h'/\((badE C i≠0/\x=.tuple #[TV.zero.v,.int .i64 (badE C i)])∨(badE C i=0/\∃ l,C.bads[i.toNat]?=some l/\((BadIs (wdC C) (fun a=>lit a.vl l=true) (-1)/\x=.tuple #[TV.zero.v,.int .i64 5]) ∨
 ∃ (d s:Nat) (tv:TV),BadIs (wdC C) (fun a=>lit a.vl l=true) d/\(wdC C).st.find? (ldB (wdC C) (litP l) d)=some s/\x=.tuple #[tv.v,.int .i64 0]/\TNew h h' tv (ltT C l d s))))
set_option maxRecDepth 4000 in
theorem c20 (r:CIs h v C) (ok:C.Ok) (i:Int):CallsH Tryz.prog 20 #[v.v,.int .i64 i] h (ShoP C i h):=by
 have q4:=r.len.b
 refine run20 v i _ h ?_
 unfold VC20
 intro h1 h2
 have e1:Ext h h1:=Ext.box h _
 have hb:Rd h2 (some ⟨h.size,0,none⟩) 11 v.cs:=(boxC v 29).ext (Ext.push h1 _)
 have f2:Fr h1 1 h2 (some ⟨h1.size,0,none⟩) 3 3 TV.zero.cs:=Fr.lit (.refl h1) TV.zero.cs 49 3 rfl
 have e2:Ext h h2:=e1.trans f2.ext
 have zero:∀ {h':Heap} {e:Int},Ext h2 h'->(∀ h'',Ext h h''->ShoP C i h (.tuple #[TV.zero.v,.int .i64 e]) h'')->StoreH h' ⟨h1.size,0,none⟩ TV.zero.cs fun h5=>LdT h5 ⟨h1.size,0,none⟩ fun t4=>ShoP C i h (.tuple #[t4.v,.int .i64 e]) h5:=fun {h' e} e2' hK=>
  (f2.upd e2').put (ws:=TV.zero.cs) rfl (by simp [TV.zero,TV.cs,Value.oneCell']) fun h5 f5 u5=>ldT (v:=TV.zero) f5.rd (hK h5 (e1.trans f5.ext))
 refine ldC hb ((c42 (r.ext e2) ok).mono ?_)
 rintro _ h3 ⟨e3,⟨hz,k,rfl,w⟩ | ⟨hz,rfl⟩⟩
 rotate_left
 ·have hE:badE C i=fewE C:=by unfold badE;rw [if_pos hz]
  exact ⟨_,_,rfl,fun he=>absurd he hz,fun _=>zero e3 fun h'' e''=>⟨e'',.inl ⟨by rw [hE];exact hz,by rw [hE]⟩⟩⟩
 refine ⟨_,_,rfl,fun _=>?_,fun he=>absurd rfl he⟩
 have e03:=e2.trans e3
 have hb3:=hb.ext e3
 have r3:=r.ext e03
 obtain ⟨hc,hL,hI⟩:=fewE_0 hz
 have wk:=wd_ok C
 have noi:¬ (0≤i/\i<C.bads.length)->∀ h'',Ext h h''->ShoP C i h (.tuple #[TV.zero.v,.int .i64 5]) h'':=fun hn h'' e''=>by
  have hE:badE C i=5:=by unfold badE;rw [if_neg (by simp [hz]),if_neg hn]
  exact ⟨e'',.inl ⟨by rw [hE];omega,by rw [hE]⟩⟩
 unfold J20_0
 refine ⟨fun hi=>zero e3 (noi (by omega)),fun hi=>⟨_,_,_,hb3.fld 4 rfl,fun hi2=>zero e3 (noi (by omega)),fun hi2=>?_⟩⟩
 have hE:badE C i=0:=by unfold badE;rw [if_neg (by simp [hz]),if_pos (by omega)]
 have hil:i.toNat<C.bads.length:=by omega
 have hx:C.bads[i.toNat]?=some C.bads[i.toNat]:=List.getElem?_eq_getElem hil
 generalize C.bads[i.toNat]=l at hx
 have hbad:∀ {h':Heap} {K:Addr->Prop},Ext h h'->(∀ ad,cellH h' (ad.add (i.toNat*1))=some (.int .i64 l)->K ad)->i<(v.b.n:Nat)/\AtP v.b.a K:=fun {h' K} e hK=>(r.b.ext e).getq (by omega) hx hK
 obtain ⟨hb0,hb1⟩:=(good_lits hc).2.2.1 l (List.mem_of_getElem? hx)
 unfold J20_1
 refine ⟨_,_,_,hb3.fld 4 rfl,by omega,hbad e03 fun ad hcell=>⟨_,hcell,(c51 w hb0 hb1).mono ?_⟩⟩
 rintro _ h8 ⟨e8,z,rfl,bz⟩
 have e38:=e3.trans e8
 refine ⟨_,rfl,fun hneg=>?_,fun hge=>?_⟩
 ·obtain rfl:z = -1:=by
   rcases bz with ⟨h,_⟩ | ⟨d,h,_⟩ <;> omega
  exact zero e38 fun h'' e''=>⟨e'',.inr ⟨hE,l,hx,.inl ⟨bz,rfl⟩⟩⟩
 obtain ⟨d,rfl⟩:∃ d:Nat,z=d:=⟨z.toNat,by omega⟩
 have hdn:=bz.le wk
 have h256:(wdC C).n≤256:=Nat.pow_le_pow_right (n:=2) (by omega) hL
 have hst:(wdC C).st.length≤256:=by have:=nodup_lt wk.nd wk.st;omega
 have w8:=w.ext e8
 unfold J20_2
 intro h11
 have e11:Ext h8 h11:=Ext.push h8 _
 have mp11:MapIs (α:=Nat×Nat) (β:=Nat) pkey dv h11 h8.size []:=MapIs.new h8
 refine (c53 (w8.ext e11)).mono ?_
 rintro _ h12 ⟨a,c,rfl,fs⟩
 refine ⟨_,_,_,rfl,?_⟩
 refine LoopT.to (n:=(wdC C).st.length) (by omega) (fun j h'=>∃ Mi,MapIs pkey dv h' h8.size Mi/\MOk (wdC C) (litP l) (d+1) Mi/\Ext h8 h'/\Own 1 h' a (wdC C).st.length c ((wdC C).st.map kv)/\((wdC C).st.take j).any (ldB (wdC C) (litP l) d)=false)
  ⟨[],mp11.ext fs.ext,(fun s d v _ h=>by (cases h):MOk (wdC C) (litP l) (d+1) []),e11.trans fs.ext,fs.own,by simp⟩ ?_
 rintro j h13 K hj ⟨Mi,mpi,moi,e13,rs,hany⟩ hK
 have e213:Ext h2 h13:=e38.trans e13
 refine ⟨fun hlt=>?_,fun hlt=>?_⟩
 rotate_left
 ·rw [List.take_of_length_le (by omega)] at hany
  obtain ⟨s,hs,hl⟩:=bz.lead (p:=litP l)
  rw [List.any_eq_false] at hany
  exact absurd hl (hany s hs)
 have hjl:j<(wdC C).st.length:=by omega
 have hsn:(wdC C).st[j]<2 ^ C.lats.length:=wk.st _ (List.getElem_mem hjl)
 unfold J20_4
 refine ⟨by omega,hlt,(Rd.one rs.rd).getn (i:=j) hjl fun ad hl1 hcell=>⟨_,cells1 hcell,?_⟩⟩
 refine boxN (zs:=[.int .u64 0]) (ws:=[kv (wdC C).st[j]]) rfl (by simp [Value.oneCell']) fun h16 e16 b16=>⟨_,b16.cells,?_⟩
 have e216:=e213.trans e16
 refine ⟨_,_,_,(hb.ext e216).fld 4 rfl,by omega,hbad (e2.trans e216) fun ad hcell=>⟨_,hcell,?_⟩⟩
 refine (c54 w8 hb0 hb1 (Nat.le_refl _) d (by omega) (e13.trans e16) (mpi.ext e16) moi hsn).mono ?_
 rintro _ h17 ⟨rfl,u17,Mj,mpj,moj,smj⟩
 have hmb:h8.size<h13.size:=mpi.lt
 have e817:Ext h8 h17:=(e13.trans e16).newer u17 fun i hi e=>by omega
 have b17:Rd h17 (some ⟨h13.size,0,none⟩) 1 [kv (wdC C).st[j]]:=b16.upd u17 fun ad ha e=>by cases ha;simp only at e;omega
 have e217:Ext h2 h17:=e38.trans e817
 refine ⟨_,rfl,?_⟩
 cases ht:ldB (wdC C) (litP l) d (wdC C).st[j] with
 | false=>
  refine BIf.f (hK h17 hjl ⟨Mj,mpj,moj,e817,(rs.ext e16).offmap (mpi.ext e16).isMap u17,any_take hjl hany ht⟩)
 | true=>
  refine BIf.t ⟨_,b17.cells,_,_,_,(hb.ext e217).fld 4 rfl,by omega,hbad (e2.trans e217) fun ad hcell=>⟨_,hcell,?_⟩⟩
  refine (c55 w8 hb0 hb1 (Nat.le_refl _) (by omega) e817 mpj moj hsn ht).mono ?_
  rintro _ h18 ⟨e18,tv,rfl,tn⟩
  refine ⟨_,_,_,_,_,_,_,rfl,?_⟩
  have f18:=f2.upd (e38.trans e18)
  refine f18.put (ws:=tv.cs) rfl (by simp [TV.cs,Value.oneCell']) fun h19 f19 u19=>ldT (v:=tv) f19.rd ⟨e1.trans f19.ext,.inr ⟨hE,l,hx,.inr ⟨d,(wdC C).st[j],tv,bz,find_at hjl hany ht,rfl,tn.lp,?_⟩⟩⟩
  obtain ⟨rows,hr,m⟩:=tn.ex
  refine ⟨rows,hr,m.over (e2.trans e38) u19 fun b hb'=>?_⟩
  obtain ⟨ad,ha,rfl⟩:=hb'
  cases ha
  have h7:=cellH_lt ((f2.upd e38).rd.fld 0 rfl)
  exact ⟨e1.1,by simpa using h7⟩
end
end Go.Proofs.YtdpbdjdgdmheiaaGreat
