/- Words and facts that the claim's proof leans on. No condition. -/
import Derived.Test.YtdpbdjdgdmheiaaGreatCR
import Derived.Test.YtdpbdjdgdmheiaaGreatCAc
set_option linter.unusedVariables false
set_option linter.unusedSimpArgs false
namespace Go.Proofs.YtdpbdjdgdmheiaaGreat
open Go.Hx
def kB (B:List Mk):List Bool:=B.map fun p=>decide (p.1≠0)
theorem kB_len (B:List Mk):(kB B).length=B.length:=by simp [kB]
theorem kB_at {B:List Mk} {i:Nat} (h:i<B.length):(kB B)[i]?=some (decide (B[i].1≠0)):=by simp [kB,h]
theorem kB_put {B:List Mk} {l k i:Int} (hk:k≠0):kB (put1 B l k i)=(kB B).set (l / 2).toNat true:=by
 unfold kB put1
 rw [List.map_set]
 simp [hk]
theorem tdiv2 {l:Int} (h:0≤l) (hl:l≤9223372036854775807):IntKind.wrap .i64 (Int.tdiv l 2)=l / 2:=by
 rw [Int.tdiv_eq_ediv_of_nonneg h,w64 (by omega) (by omega)]
theorem c167 {h0 h:Heap} {v:CV} {ad:Addr} {n:Nat} {B:List Mk} (f:Fr h0 1 h (some ad) n n (bools (kB B))) (h1:0≤v.mx) (h2:v.mx≤16384) (hB:B.length=(v.mx+1).toNat) {l:Int} (hl:W64 l) {k:Int} (hk:k≠0) (i:Int) :
  CallsH Tryz.prog 167 #[v.v,.slice (some ad) n n,.int .i64 l] h fun w h'=>w=.int .i64 (mk1 v.mx B l)/\Fr h0 1 h' (some ad) n n (bools (kB (if mk1 v.mx B l=0 then put1 B l k i else B)))/\Upd (fun b=>b=ad.block) h h':=by
 refine run167 v (some ad) n n l _ h ?_
 have hb:=boxC (h:=h) v 29
 have hu:=Ext.box h (.cells (Value.cells v.v) 29)
 unfold VC167
 intro h3
 have f3:Fr h0 1 h3 (some ad) n n (bools (kB B)):=f.upd hu
 have hn:n=B.length:=by have:=f.rd.ilen;rw [kB_len] at this;exact this.symm
 have e30:(l<2∨l % 2=1∨2*v.mx<l)->mk1 v.mx B l=30:=fun hh=>by rw [mk1,if_pos hh]
 have fin30:mk1 v.mx B l=30->(Value.int .i64 30=.int .i64 (mk1 v.mx B l)/\Fr h0 1 h3 (some ad) n n (bools (kB (if mk1 v.mx B l=0 then put1 B l k i else B)))/\Upd (fun b=>b=ad.block) h h3):=fun e=>by
  rw [e,if_neg (by omega)];exact ⟨rfl,f3,Upd.wide hu⟩
 refine ⟨fun h4=>fin30 (e30 (.inl h4)),fun h4=>⟨fun h5=>fin30 (e30 (.inr (.inl (by rwa [Int.tmod_eq_emod_of_nonneg (by omega)] at h5)))),fun h5=>⟨v.mx,hb.fld 0 rfl,fun h6=>?_,fun h6=>?_⟩⟩⟩
 ·rw [w64 (by omega) (by omega)] at h6
  exact fin30 (e30 (.inr (.inr h6)))
 rw [w64 (by omega) (by omega)] at h6
 rw [Int.tmod_eq_emod_of_nonneg (by omega)] at h5
 have hno:¬ (l<2∨l % 2=1∨2*v.mx<l):=by omega
 have hi:(l / 2).toNat<B.length:=by omega
 have hmk:mk1 v.mx B l=if (B[(l / 2).toNat]).1=0 then 0 else 31:=by rw [mk1,if_neg hno,getD_at hi]
 unfold J167_0
 rw [tdiv2 (by omega) hl.2]
 refine ⟨by omega,by omega,_,f3.rd.getN (kB_at hi),?_⟩
 by_cases hz:(B[(l / 2).toNat]).1=0
 ·rw [if_pos hz] at hmk
  rw [decide_eq_false (by simpa using hz)]
  refine BIf.f ⟨by omega,by omega,?_⟩
  refine f3.at1 (by omega) (by omega) rfl fun h7 u7 f7=>⟨by rw [hmk],?_,(Upd.wide hu).trans (u7.mono fun b _ ⟨x,hx,e⟩=>by cases hx;exact e)⟩
  rw [hmk,if_pos rfl,kB_put hk]
  rw [bools,List.map_set]
  exact f7
 ·rw [if_neg hz] at hmk
  rw [decide_eq_true (by simpa using hz)]
  exact BIf.t ⟨by rw [hmk],by rw [hmk,if_neg (by omega)];exact f3,Upd.wide hu⟩
def RPost (C:Circ) (h:Heap) (D:DR) (w:Value) (h':Heap):Prop:=
 if D.2.1=0 then ∃ ad n,w=.tuple #[.slice (some ad) n n,.int .i64 0,.int .i64 0]/\Fr h 1 h' (some ad) n n (bools ((kB D.2.2).set 0 true))/\D.2.2.length=n/\n=(C.mx+1).toNat
 else w=.tuple #[.slice none 0 0,.int .i64 D.1,.int .i64 D.2.1]/\Ext h h'
section
variable {h:Heap} {v:CV} {C:Circ}
theorem r3 {h_ h1 h3 hb:Heap} {D:DR} {B:List Mk} (hxb:Rd hb (some ⟨h.size,0,none⟩) 11 v.cs) (eb:Ext h hb) (hbs:hb.size=h.size+1) (hh_:h_.size=h.size+1) (f:Fr hb 1 h3 (some ⟨h_.size,0,none⟩) (v.mx+1).toNat (v.mx+1).toNat (bools (kB B))) (hB:B.length=(v.mx+1).toNat) (hm1:0≤v.mx) (hm2:v.mx≤16384) (r:CIs h v C) (ok:C.Ok)
  (hD:defG C.mx 3 L3.a (fun _=>0) C.ands 0 B (fun B=>(0,0,B))=D):J132_2 Tryz.prog (RPost C h D) h h_ v.mx h3:=by
 have hl:=r.len
 have hmx:=r.mx
 have hw:IntKind.wrap .i64 (v.mx+1)=v.mx+1:=w64 (by omega) (by omega)
 refine LoopT.to (n:=v.g.n) (by have:=ok.n;have:=hl.g;omega) (fun i h'=>∃ B',Fr hb 1 h' (some ⟨h_.size,0,none⟩) (v.mx+1).toNat (v.mx+1).toNat (bools (kB B'))/\B'.length=(v.mx+1).toNat/\defG C.mx 3 L3.a (fun _=>0) (C.ands.drop i) i B' (fun B=>(0,0,B))=D) ⟨B,f,hB,hD⟩ ?_
 rintro i h' K hi ⟨B',f',hB',hD'⟩ hK
 have u':=f'.ext
 refine ⟨_,_,_,(hxb.ext u').fld 8 rfl,fun hlt=>?_,fun hlt=>?_⟩
 ·refine ldC (hxb.ext u') ⟨_,_,_,(hxb.ext u').fld 8 rfl,by omega,hlt,(r.g.ext (eb.trans u')).elem L3.csl (by omega) (i:=i) (by omega) fun ad hl1 re=>⟨_,re.fld 0 rfl,?_⟩⟩
  rw [defG_cons hl1] at hD'
  rw [hw]
  refine (c167 (v:=v) f' hm1 hm2 hB' (ok.ands _ (List.getElem_mem hl1)).1 (k:=3) (by omega) i).mono ?_
  rintro _ h5 ⟨rfl,f5,_⟩
  rw [hmx] at f5 ⊢
  refine ⟨_,rfl,fun he=>?_,fun he=>?_⟩
  ·rw [if_pos he] at hD' f5
   rw [if_pos rfl] at hD'
   exact hK _ (by omega) ⟨_,by rw [<- hmx] at f5;exact f5,by rw [put1_len];exact hB',hD'⟩
  ·rw [if_neg he] at hD'
   subst hD'
   show RPost C h _ _ _
   unfold RPost
   rw [if_neg he]
   exact ⟨rfl,eb.trans f5.ext⟩
 ·have:v.g.n≤i:=by omega
  rw [defG_end (by rw [hl.g];exact this)] at hD'
  subst hD'
  unfold J132_5
  rw [hw]
  refine ⟨by omega,by omega,?_⟩
  refine f'.at1 (j:=0) (by omega) (by omega) rfl fun h5 u5 f5=>?_
  show RPost C h _ _ _
  unfold RPost
  rw [if_pos rfl]
  refine ⟨_,_,rfl,?_,hB',by rw [hmx]⟩
  have:(bools (kB B')).set (Int.toNat 0) (.bool true)=bools ((kB B').set 0 true):=by rw [bools,bools,List.map_set];rfl
  rw [this] at f5
  exact f5.base eb
theorem r2 {h_ h1 h3 hb:Heap} {D:DR} {B:List Mk} (hxb:Rd hb (some ⟨h.size,0,none⟩) 11 v.cs) (eb:Ext h hb) (hbs:hb.size=h.size+1) (hh_:h_.size=h.size+1) (f:Fr hb 1 h3 (some ⟨h_.size,0,none⟩) (v.mx+1).toNat (v.mx+1).toNat (bools (kB B))) (hB:B.length=(v.mx+1).toNat) (hm1:0≤v.mx) (hm2:v.mx≤16384) (r:CIs h v C) (ok:C.Ok)
  (hD:defG C.mx 2 L3.a rst C.lats 0 B (fun B=>defG C.mx 3 L3.a (fun _=>0) C.ands 0 B (fun B=>(0,0,B)))=D):J132_0 Tryz.prog (RPost C h D) h h_ v.mx h3:=by
 have hl:=r.len
 have hmx:=r.mx
 have hw:IntKind.wrap .i64 (v.mx+1)=v.mx+1:=w64 (by omega) (by omega)
 refine LoopT.to (n:=v.l.n) (by have:=ok.n;have:=hl.l;omega) (fun i h'=>∃ B',Fr hb 1 h' (some ⟨h_.size,0,none⟩) (v.mx+1).toNat (v.mx+1).toNat (bools (kB B'))/\B'.length=(v.mx+1).toNat/\defG C.mx 2 L3.a rst (C.lats.drop i) i B' (fun B=>defG C.mx 3 L3.a (fun _=>0) C.ands 0 B (fun B=>(0,0,B)))=D) ⟨B,f,hB,hD⟩ ?_
 rintro i h' K hi ⟨B',f',hB',hD'⟩ hK
 have u':=f'.ext
 refine ⟨_,_,_,(hxb.ext u').fld 2 rfl,fun hlt=>?_,fun hlt=>?_⟩
 ·refine ⟨_,_,_,(hxb.ext u').fld 2 rfl,by omega,hlt,(r.l.ext (eb.trans u')).elem L3.csl (by omega) (i:=i) (by omega) fun ad hl1 re=>⟨_,_,_,re.cells,box3 C.lats[i] fun h4 e4 b4=>?_⟩⟩
  refine ldC (hxb.ext (u'.trans e4)) ⟨_,b4.fld 0 rfl,?_⟩
  rw [defG_cons hl1] at hD'
  rw [hw]
  have f4:=f'.upd e4
  refine (c167 (v:=v) f4 hm1 hm2 hB' (ok.lats _ (List.getElem_mem hl1)).1 (k:=2) (by omega) i).mono ?_
  rintro _ h5 ⟨rfl,f5,u5⟩
  rw [hmx] at f5 ⊢
  refine ⟨_,rfl,fun he=>?_,fun he=>?_⟩
  ·rw [if_pos he] at hD' f5
   have hbk:h'.size≠h_.size:=by have:=f'.own.lt;simp only at this;omega
   have b5:=b4.upd u5 fun ad e=>by cases e;exact hbk
   have next:rst C.lats[i]=0->K (IntKind.wrap .i64 ((i:Int)+1)) h5:=fun hr=>by
    rw [if_pos hr] at hD'
    exact hK _ (by omega) ⟨_,by rw [<- hmx] at f5;exact f5,by rw [put1_len];exact hB',hD'⟩
   refine ⟨_,b5.fld 2 rfl,fun h7=>next (by rw [rst,if_pos (.inl h7)]),fun h7=>⟨_,b5.fld 2 rfl,fun h8=>next (by rw [rst,if_pos (.inr (.inl h8))]),fun h8=>⟨_,b5.fld 2 rfl,_,b5.fld 0 rfl,fun h9=>next (by rw [rst,if_pos (.inr (.inr h9))]),fun h9=>?_⟩⟩⟩
   have hr:rst C.lats[i]=33:=by rw [rst,if_neg (fun hh=>hh.elim h7 fun hh=>hh.elim h8 h9)]
   rw [hr,if_neg (by omega)] at hD'
   subst hD'
   show RPost C h _ _ _
   unfold RPost
   rw [if_neg (by simp)]
   exact ⟨rfl,eb.trans f5.ext⟩
  ·rw [if_neg he] at hD'
   subst hD'
   show RPost C h _ _ _
   unfold RPost
   rw [if_neg he]
   exact ⟨rfl,eb.trans f5.ext⟩
 ·have:v.l.n≤i:=by omega
  rw [defG_end (by rw [hl.l];exact this)] at hD'
  exact r3 (h1:=h1) hxb eb hbs hh_ f' hB' hm1 hm2 r ok hD'
theorem c132 (h1:0≤C.mx) (h2:C.mx≤16384) (r:CIs h v C) (ok:C.Ok):CallsH Tryz.prog 132 #[v.v] h (RPost C h (defs C)):=by
 have hl:=r.len
 have hmx:=r.mx
 have hw:IntKind.wrap .i64 (v.mx+1)=v.mx+1:=w64 (by omega) (by omega)
 refine run132 v _ h ?_
 unfold VC132
 intro h3
 have eb:Ext h h3:=Ext.box h _
 have hxb:Rd h3 (some ⟨h.size,0,none⟩) 11 v.cs:=boxC v 29
 have hbs:h3.size=h.size+1:=by simp [h3]
 refine ⟨v.mx,hxb.fld 0 rfl,?_⟩
 rw [hw]
 refine ⟨by omega,by omega,by omega,?_⟩
 intro h4
 have f4:Fr h3 1 h4 (some ⟨h3.size,0,none⟩) (v.mx+1).toNat (v.mx+1).toNat (bools (kB (List.replicate (C.mx+1).toNat (0,0)))):=by
  have:=Fr.zeros (h:=h3) (.bool false) 4 (v.mx+1).toNat
  have e:bools (kB (List.replicate (C.mx+1).toNat (0,0)))=List.replicate (v.mx+1).toNat (.bool false):=by rw [kB,bools,List.map_map,List.map_replicate,hmx];rfl
  rw [e];exact this
 refine LoopT.to (n:=v.i.n) (by have:=ok.n;have:=hl.i;omega) (fun i h'=>∃ B',Fr h3 1 h' (some ⟨h3.size,0,none⟩) (v.mx+1).toNat (v.mx+1).toNat (bools (kB B'))/\B'.length=(v.mx+1).toNat/\defG C.mx 1 id (fun _=>0) (C.ins.drop i) i B' (fun B=>defG C.mx 2 L3.a rst C.lats 0 B fun B=>defG C.mx 3 L3.a (fun _=>0) C.ands 0 B (fun B=>(0,0,B)))=defs C) ⟨_,f4,by rw [List.length_replicate,hmx],rfl⟩ ?_
 rintro i h' K hi ⟨B',f',hB',hD'⟩ hK
 have u':=f'.ext
 refine ⟨_,_,_,(hxb.ext u').fld 1 rfl,fun hlt=>?_,fun hlt=>?_⟩
 ·refine ldC (hxb.ext u') ⟨_,_,_,(hxb.ext u').fld 1 rfl,by omega,hlt,(r.i.ext (eb.trans u')).getn (by omega) fun ad hl1 hc=>⟨_,hc,?_⟩⟩
  have hl1':i<C.ins.length:=hl1
  rw [defG_cons hl1'] at hD'
  rw [hw]
  refine (c167 (v:=v) f' (by omega) (by omega) hB' (ok.ins _ (List.getElem_mem hl1')) (k:=1) (by omega) i).mono ?_
  rintro _ h5 ⟨rfl,f5,_⟩
  rw [hmx] at f5 ⊢
  refine ⟨_,rfl,fun he=>?_,fun he=>?_⟩
  ·rw [if_pos (by exact he)] at hD' f5
   rw [if_pos rfl] at hD'
   exact hK _ (by omega) ⟨_,by rw [<- hmx] at f5;exact f5,by rw [put1_len];exact hB',hD'⟩
  ·rw [if_neg (by exact he)] at hD'
   show RPost C h _ _ _
   unfold RPost
   rw [<- hD',if_neg (by exact he)]
   exact ⟨rfl,eb.trans f5.ext⟩
 ·have:v.i.n≤i:=by omega
  rw [defG_end (by rw [hl.i];exact this)] at hD'
  exact r2 (h1:=h3) hxb eb hbs (by rw [hbs]) f' hB' (by omega) (by omega) r ok hD'
end
end Go.Proofs.YtdpbdjdgdmheiaaGreat
namespace Go.Proofs.YtdpbdjdgdmheiaaGreat
open Go.Hx
def dB (B:List Mk):List Bool:=(kB B).set 0 true
structure DRow (h:Heap) (C:Circ) (B:List Mk) (da:Option Addr) (n:Nat):Prop where
 rd:Rd h da n (bools (dB B))
 len:B.length=n
 n:n=(C.mx+1).toNat
theorem DRow.ext {h h':Heap} {C:Circ} {B:List Mk} {da:Option Addr} {n:Nat} (d:DRow h C B da n) (u:Ext h h'):DRow h' C B da n:=⟨d.rd.ext u,d.len,d.n⟩
theorem firstE_zero {α:Type} {f:α->Int}:∀ {l:List α} {i:Int} {z w:Int×Int},(firstE f l i w).2=0->firstE f l i z=z
 | [],_,_,_,_=>rfl
 | x::l,i,z,w,h=>by
  unfold firstE at h ⊢
  split at h
  ·rename_i hx;rw [if_pos hx];exact firstE_zero h
  ·rename_i hx;exact absurd h hx
theorem firstE_stop {α:Type} {f:α->Int}:∀ {l:List α} {i:Int} {z:Int×Int},(firstE f l i (0,0)).2≠0->firstE f l i z=firstE f l i (0,0)
 | [],_,_,h=>absurd rfl h
 | x::l,i,z,h=>by
  unfold firstE at h ⊢
  split at h
  ·rename_i hx;rw [if_pos hx,if_pos hx];exact firstE_stop h
  ·rename_i hx;rw [if_neg hx,if_neg hx]
section
variable {h:Heap} {v:CV} {C:Circ} {B:List Mk} {da:Option Addr} {n c:Nat}
theorem c168 (d:DRow h C B da n) (hmx:v.mx=C.mx) (h1:0≤C.mx) (h2:C.mx≤16384) {l:Int} (hl:W64 l):CallsH Tryz.prog 168 #[v.v,.slice da n c,.int .i64 l] h (Xt (.int .i64 (us1 C.mx B l)) h):=by
 refine run168 v da n c l _ h ?_
 have hb:=boxC (h:=h) v 29
 have hu:=Ext.box h (.cells (Value.cells v.v) 29)
 unfold VC168
 intro h3
 have hn:=d.n
 have hlen:=d.len
 have e30:(l<0∨2*C.mx+1<l)->us1 C.mx B l=30:=fun hh=>by rw [us1,if_pos hh]
 refine ⟨fun h4=>⟨by rw [e30 (.inl h4)],hu⟩,fun h4=>⟨v.mx,hb.fld 0 rfl,?_⟩⟩
 rw [hmx,w64 (x:=2*C.mx) (by omega) (by omega),w64 (x:=2*C.mx+1) (by omega) (by omega)]
 refine ⟨fun h5=>⟨by rw [e30 (.inr h5)],hu⟩,fun h5=>?_⟩
 unfold J168_0
 rw [tdiv2 (by omega) hl.2]
 have hi:(l / 2).toNat<(dB B).length:=by rw [dB,List.length_set,kB_len];omega
 refine ⟨by omega,by omega,(d.rd.ext hu).geti (by omega) (by omega) fun ad hl1 hc=>⟨_,hc,?_⟩⟩
 have hu1:us1 C.mx B l=if 1<l/\(B.getD (l / 2).toNat (0,0)).1=0 then 32 else 0:=by rw [us1,if_neg (by omega)]
 by_cases hl0:l≤1
 ·have hz:(l / 2).toNat=0:=by omega
  have e:(dB B)[(l / 2).toNat]=true:=by
   have hB0:0<(kB B).length:=by rw [kB_len];omega
   simp only [hz,dB]
   rw [List.getElem_set_self]
  rw [e]
  exact BIf.f ⟨by rw [hu1,if_neg (by omega)],hu⟩
 ·have hz:(l / 2).toNat≠0:=by omega
  have hib:(l / 2).toNat<B.length:=by omega
  have e:(dB B)[(l / 2).toNat]=decide (B[(l / 2).toNat].1≠0):=by
   simp only [dB]
   rw [List.getElem_set_ne (Ne.symm hz)]
   have:=kB_at hib
   rw [List.getElem?_eq_getElem (by rw [kB_len];exact hib)] at this
   exact Option.some.inj this
  rw [e]
  rw [getD_at hib] at hu1
  by_cases hk:B[(l / 2).toNat].1=0
  ·rw [decide_eq_false (by simpa using hk)]
   exact BIf.t ⟨by rw [hu1,if_pos ⟨by omega,hk⟩],hu⟩
  ·rw [decide_eq_true (by simpa using hk)]
   exact BIf.f ⟨by rw [hu1,if_neg (fun hh=>hk hh.2)],hu⟩
theorem c169 (d:DRow h C B da n) (hmx:v.mx=C.mx) (h1:0≤C.mx) (h2:C.mx≤16384) {la:Option Addr} {ln lc:Nat} {L:List Int} (r:Rd h la ln (ints L)) (hl:∀ x∈L,W64 x) (hn:ln≤17592186044416) :
  CallsH Tryz.prog 169 #[v.v,.slice da n c,.slice la ln lc] h (Xt (.tuple #[.int .i64 (firstE (us1 C.mx B) L 0 (0,0)).1,.int .i64 (firstE (us1 C.mx B) L 0 (0,0)).2]) h):=by
 refine run169 v da n c la ln lc _ h ?_
 have hll:=r.ilen
 unfold VC169
 intro h3
 have eb:Ext h h3:=Ext.box h _
 have hxb:Rd h3 (some ⟨h.size,0,none⟩) 11 v.cs:=boxC v 29
 refine LoopT.to (n:=ln) (by omega) (fun i h'=>Ext h3 h'/\firstE (us1 C.mx B) (L.drop i) i (0,0)=firstE (us1 C.mx B) L 0 (0,0)) ⟨.refl _,rfl⟩ ?_
 rintro i h' K hi ⟨u',hU⟩ hK
 refine ⟨fun hlt=>?_,fun hlt=>?_⟩
 ·have hiL:i<L.length:=by omega
  refine ldC (hxb.ext u') ⟨by omega,hlt,(r.ext (eb.trans u')).getn (by omega) fun ad hl1 hc=>⟨_,hc,useX (c168 (v:=v) (d.ext (eb.trans u')) hmx h1 h2 (hl _ (List.getElem_mem hiL))) fun h5 u5=>⟨_,rfl,?_⟩⟩⟩
  rw [firstE_cons hiL] at hU
  refine ⟨fun he=>?_,fun he=>?_⟩
  ·rw [if_pos (by exact he)] at hU
   exact hK _ (by omega) ⟨u'.trans u5,hU⟩
  ·rw [if_neg (by exact he)] at hU
   rw [<- hU]
   exact ⟨rfl,(eb.trans u').trans u5⟩
 ·rw [firstE_end (by omega)] at hU
  rw [<- hU]
  exact ⟨rfl,eb.trans u'⟩
theorem c133 (d:DRow h C B da n) (h1:0≤C.mx) (h2:C.mx≤16384) (r:CIs h v C) (ok:C.Ok):CallsH Tryz.prog 133 #[v.v,.slice da n c] h (Xt (.tuple #[.int .i64 (uses C B).1,.int .i64 (uses C B).2]) h):=by
 have hl:=r.len
 have hmx:=r.mx
 have hnb:=ok.nb
 refine run133 v da n c _ h ?_
 unfold VC133
 intro h3
 have eb:Ext h h3:=Ext.box h _
 have hxb:Rd h3 (some ⟨h.size,0,none⟩) 11 v.cs:=boxC v 29
 obtain ⟨U,hUU⟩:∃ U,U=uses C B:=⟨_,rfl⟩
 rw [<- hUU]
 have p4:∀ h4,Ext h3 h4->firstE (fun x=>usL C.mx B [x.b,x.c]) C.ands 0 (0,0)=U->J133_6 Tryz.prog (Xt (.tuple #[.int .i64 U.1,.int .i64 U.2]) h) h da n c h4:=by
  intro h4 u4 hU4
  refine LoopT.to (n:=v.g.n) (by have:=ok.n;have:=hl.g;omega) (fun i h'=>Ext h3 h'/\firstE (fun x=>usL C.mx B [x.b,x.c]) (C.ands.drop i) i (0,0)=U) ⟨u4,hU4⟩ ?_
  rintro i h' K hi ⟨u',hU⟩ hK
  have hbl:h.size<h'.size:=by have:=u'.1;have:h3.size=h.size+1:=(by simp [h3]);omega
  refine ⟨_,_,_,(hxb.ext u').fld 8 rfl,fun hlt=>?_,fun hlt=>?_⟩
  ·have hig:i<C.ands.length:=by have:=hl.g;omega
   have hL3:=ok.ands _ (List.getElem_mem hig)
   refine ⟨hbl,ldC (hxb.ext u') ⟨by rw [add_block];exact hbl,_,_,_,(hxb.ext u').fld 8 rfl,by omega,hlt,(r.g.ext (eb.trans u')).elem L3.csl (by omega) (i:=i) (by omega) fun ad hl1 re=>⟨?_,_,re.fld 1 rfl,by rw [add_block];exact hbl,_,_,_,(hxb.ext u').fld 8 rfl,by omega,hlt,(r.g.ext (eb.trans u')).elem L3.csl (by omega) (i:=i) (by omega) fun ad2 hl2 re2=>⟨?_,_,re2.fld 2 rfl,?_⟩⟩⟩⟩
   ·have:=cellH_lt (re.fld 1 rfl);exact this
   ·have:=cellH_lt (re2.fld 2 rfl);exact this
   intro h5
   have e5:Ext h' h5:=Ext.push _ _
   have r5:Rd h5 (some ⟨h'.size,0,none⟩) 2 (ints [C.ands[i].b,C.ands[i].c]):=(Fr.lit (.refl h') (ints [C.ands[i].b,C.ands[i].c]) 3 2 rfl).rd
   refine ⟨fun b hb=>e5.2 b hb fun x=>x,useX (c169 (v:=v) (d.ext ((eb.trans u').trans e5)) hmx h1 h2 r5 (fun x hx=>by
    simp only [List.mem_cons,List.not_mem_nil,or_false] at hx
    rcases hx with rfl | rfl
    ·exact hL3.2.1
    ·exact hL3.2.2) (by omega)) fun h6 u6=>⟨_,_,rfl,fun b hb=>u6.2 b (Nat.lt_of_lt_of_le hb e5.1) fun x=>x,?_⟩⟩
   rw [firstE_cons hig] at hU
   refine ⟨fun he=>?_,fun he=>?_⟩
   ·rw [if_pos (by exact he)] at hU
    exact hK _ (by omega) ⟨(u'.trans e5).trans u6,hU⟩
   ·rw [if_neg (by exact he)] at hU
    rw [<- hU]
    exact ⟨rfl,((eb.trans u').trans e5).trans u6⟩
  ·rw [firstE_end (by have:=hl.g;omega)] at hU
   rw [<- hU]
   exact ⟨rfl,eb.trans u'⟩
 have p3:∀ h4,Ext h3 h4->(firstE (us1 C.mx B) C.fair 0 <| firstE (fun x=>usL C.mx B [x.b,x.c]) C.ands 0 (0,0))=U->J133_4 Tryz.prog (Xt (.tuple #[.int .i64 U.1,.int .i64 U.2]) h) h da n c h4:=by
  intro h4 u4 hU4
  refine ldC (hxb.ext u4) ⟨_,_,_,(hxb.ext u4).fld 7 rfl,useX (c169 (v:=v) (d.ext (eb.trans u4)) hmx h1 h2 (r.f.ext (eb.trans u4)) ok.fair (by have:=ok.n;have:=hl.f;omega)) fun h5 u5=>⟨_,_,rfl,fun he=>?_,fun he=>?_⟩⟩
  ·refine p4 _ (u4.trans u5) ?_
   rw [<- hU4]
   exact (firstE_zero he).symm
  ·have:=firstE_stop (z:=firstE (fun x=>usL C.mx B [x.b,x.c]) C.ands 0 (0,0)) he
   rw [<- hU4,this]
   exact ⟨rfl,(eb.trans u4).trans u5⟩
 have p2:∀ h4,Ext h3 h4->(firstE (usL C.mx B) C.just 0 <| firstE (us1 C.mx B) C.fair 0 <| firstE (fun x=>usL C.mx B [x.b,x.c]) C.ands 0 (0,0))=U->J133_2 Tryz.prog (Xt (.tuple #[.int .i64 U.1,.int .i64 U.2]) h) h da n c h4:=by
  intro h4 u4 hU4
  refine LoopT.to (n:=v.j.n) (by have:=ok.n;have:=hl.j;omega) (fun i h'=>Ext h3 h'/\(firstE (usL C.mx B) (C.just.drop i) i <| firstE (us1 C.mx B) C.fair 0 <| firstE (fun x=>usL C.mx B [x.b,x.c]) C.ands 0 (0,0))=U) ⟨u4,hU4⟩ ?_
  rintro i h' K hi ⟨u',hU⟩ hK
  refine ⟨_,_,_,(hxb.ext u').fld 6 rfl,fun hlt=>?_,fun hlt=>?_⟩
  ·have hij:i<C.just.length:=by have:=hl.j;omega
   have hok:=ok.just _ (List.getElem_mem hij)
   refine ldC (hxb.ext u') ⟨_,_,_,(hxb.ext u').fld 6 rfl,by omega,hlt,(r.j.ext (eb.trans u')).get (by omega) fun ad hl1 s hc hs _ hsl hsn=>⟨_,_,_,hc,?_⟩⟩
   have hsl':s.l=C.just[i]:=hsl
   have hsn':s.n=C.just[i].length:=hsn
   rw [hsl'] at hs
   refine useX (c169 (v:=v) (d.ext (eb.trans u')) hmx h1 h2 hs hok.1 (by omega)) fun h5 u5=>⟨_,_,rfl,?_⟩
   rw [firstE_cons hij] at hU
   refine ⟨fun he=>?_,fun he=>?_⟩
   ·rw [if_pos (by exact he)] at hU
    exact hK _ (by omega) ⟨u'.trans u5,hU⟩
   ·rw [if_neg (by exact he)] at hU
    rw [<- hU]
    exact ⟨rfl,(eb.trans u').trans u5⟩
  ·rw [firstE_end (by have:=hl.j;omega)] at hU
   exact p3 _ u' hU
 have hU0:(firstE (fun x=>us1 C.mx B x.b) C.lats 0 <| firstE (us1 C.mx B) C.outs 0 <| firstE (us1 C.mx B) C.bads 0 <| firstE (us1 C.mx B) C.cons 0 <| firstE (usL C.mx B) C.just 0 <| firstE (us1 C.mx B) C.fair 0 <| firstE (fun x=>usL C.mx B [x.b,x.c]) C.ands 0 (0,0))=U:=hUU▸rfl
 obtain ⟨Z,hZ⟩:∃ Z,Z=(firstE (usL C.mx B) C.just 0 <| firstE (us1 C.mx B) C.fair 0 <| firstE (fun x=>usL C.mx B [x.b,x.c]) C.ands 0 (0,0)):=⟨_,rfl⟩
 rw [<- hZ] at hU0 p2
 refine LoopT.to (n:=v.l.n) (by have:=ok.n;have:=hl.l;omega) (fun i h'=>Ext h3 h'/\(firstE (fun x=>us1 C.mx B x.b) (C.lats.drop i) i <| threeE C.mx B [C.outs,C.bads,C.cons] Z)=U) ⟨.refl _,hU0⟩ ?_
 rintro i h' K hi ⟨u',hU⟩ hK
 refine ⟨_,_,_,(hxb.ext u').fld 2 rfl,fun hlt=>?_,fun hlt=>?_⟩
 ·have hil:i<C.lats.length:=by have:=hl.l;omega
  refine ldC (hxb.ext u') ⟨_,_,_,(hxb.ext u').fld 2 rfl,by omega,hlt,(r.l.ext (eb.trans u')).elem L3.csl (by omega) (i:=i) (by omega) fun ad hl1 re=>⟨_,re.fld 1 rfl,useX (c168 (v:=v) (d.ext (eb.trans u')) hmx h1 h2 (ok.lats _ (List.getElem_mem hil)).2.1) fun h5 u5=>⟨_,rfl,?_⟩⟩⟩
  rw [firstE_cons hil] at hU
  refine ⟨fun he=>?_,fun he=>?_⟩
  ·rw [if_pos (by exact he)] at hU
   exact hK _ (by omega) ⟨u'.trans u5,hU⟩
  ·rw [if_neg (by exact he)] at hU
   rw [<- hU]
   exact ⟨rfl,(eb.trans u').trans u5⟩
 ·rw [firstE_end (by have:=hl.l;omega)] at hU
  have hxu:=hxb.ext u'
  refine ⟨_,_,_,hxu.fld 3 rfl,_,_,_,hxu.fld 4 rfl,_,_,_,hxu.fld 5 rfl,?_⟩
  let ss:List Rw:=[⟨v.o.a,v.o.n,v.o.c,C.outs⟩,⟨v.b.a,v.b.n,v.b.c,C.bads⟩,⟨v.c.a,v.c.n,v.c.c,C.cons⟩]
  have hbig:∀ s∈ss,Rd h s.a s.n (ints s.l)/\(∀ x∈s.l,W64 x)/\s.n≤17592186044416:=by
   have hn:=ok.n
   intro s hs
   simp only [ss,List.mem_cons,List.not_mem_nil,or_false] at hs
   rcases hs with rfl | rfl | rfl
   ·exact ⟨r.o,ok.outs,by have:=hl.o;simp only;omega⟩
   ·exact ⟨r.b,ok.bads,by have:=hl.b;simp only;omega⟩
   ·exact ⟨r.c,ok.cons,by have:=hl.c;simp only;omega⟩
  intro h5
  refine boxN (zs:=[.slice none 0 0,.slice none 0 0,.slice none 0 0]) (ws:=ss.map Rw.v) rfl Rw.one fun h6 u6 r6=>?_
  refine LoopT.to (n:=3) (by omega) (fun j h7=>Ext h6 h7/\threeE C.mx B ((ss.map Rw.l).drop j) Z=U) ⟨.refl _,hU⟩ ?_
  rintro j h7 K2 hj ⟨u7,hU7⟩ hK2
  have u37:=(u'.trans u6).trans u7
  refine ⟨fun hlt2=>?_,fun hlt2=>?_⟩
  ·have hj3:j<ss.length:=by show j<3;omega
   have hs:=hbig _ (List.getElem_mem hj3)
   refine ldC (hxb.ext u37) ⟨by omega,by omega,ss[j].a,ss[j].n,ss[j].c,?_,?_⟩
   ·exact (r6.ext u7).getN (f:=Rw.v) (i:=j) (List.getElem?_eq_getElem hj3)
   have e6:threeE C.mx B ((ss.map Rw.l).drop j) Z=firstE (us1 C.mx B) ss[j].l 0 (threeE C.mx B ((ss.map Rw.l).drop (j+1)) Z):=by
    rw [List.drop_eq_getElem_cons (show j<(ss.map Rw.l).length by simpa using hj3)]
    simp [threeE]
   rw [e6] at hU7
   refine useX (c169 (v:=v) (d.ext (eb.trans u37)) hmx h1 h2 (hs.1.ext (eb.trans u37)) hs.2.1 hs.2.2) fun h8 u8=>⟨_,_,rfl,fun he=>?_,fun he=>?_⟩
   ·refine hK2 _ (by omega) ⟨u7.trans u8,?_⟩
    rw [<- hU7]
    exact (firstE_zero he).symm
   ·rw [<- hU7,firstE_stop he]
    exact ⟨rfl,(eb.trans u37).trans u8⟩
  ·have:j=3:=by omega
   subst this
   exact p2 _ u37 (by rw [<- hU7];rfl)
end
end Go.Proofs.YtdpbdjdgdmheiaaGreat
namespace Go.Proofs.YtdpbdjdgdmheiaaGreat
open Go.Hx
theorem defG_at {α:Type} {mx k:Int} {f g:α->Int} (P:Nat->List Mk->Prop) (K:List Mk->DR) (D:DR) (hok:D.2.1=0) (l:List α) (hs:∀ (n:Nat) (hn:n<l.length) (B:List Mk),P n B->mk1 mx B (f l[n])=0->P (n+1) (put1 B (f l[n]) k n)) :
  ∀ (m n:Nat) (B:List Mk),m=l.length-n->n≤l.length->defG mx k f g (l.drop n) n B K=D->P n B->∃ B',K B'=D/\P l.length B':=by
 intro m
 induction m with
 | zero=>
  intro n B hm hn hD hP
  have:n=l.length:=by omega
  subst this
  rw [defG_end (Nat.le_refl _)] at hD
  exact ⟨B,hD,hP⟩
 | succ m ih=>
  intro n B hm hn hD hP
  have hlt:n<l.length:=by omega
  rw [defG_cons hlt] at hD
  split at hD
  ·rename_i h1
   split at hD
   ·exact ih (n+1) _ (by omega) (by omega) hD (hs n hlt B hP h1)
   ·rename_i h2;subst hD;exact absurd hok h2
  ·rename_i h1;subst hD;exact absurd hok h1
def pos (x:L3):Nat:=(x.a / 2).toNat
structure GD (C:Circ) (n:Nat) (B:List Mk):Prop where
 len:B.length=(C.mx+1).toNat
 at_:∀ (j:Nat) (hj:j<C.ands.length),j<n->(2≤C.ands[j].a/\C.ands[j].a≤2*C.mx/\C.ands[j].a % 2=0)/\B[pos C.ands[j]]?=some (3,(j:Int))
 of:∀ (v:Nat) (p:Mk),B[v]?=some p->p.1=3->∃ j:Nat,∃ hj:j<C.ands.length,j<n/\p.2=((j:Nat):Int)/\pos C.ands[j]=v
theorem mk1_zero {mx:Int} {B:List Mk} {l:Int} (h:mk1 mx B l=0):2≤l/\l % 2=0/\l≤2*mx/\(B.getD (l / 2).toNat (0,0)).1=0:=by
 unfold mk1 at h
 split at h
 ·omega
 ·split at h
  ·rename_i h1 h2;omega
  ·omega
theorem gd_of {C:Circ} (h0:0≤C.mx) (h:(defs C).2.1=0):GD C C.ands.length (defs C).2.2:=by
 have hl:∀ (B:List Mk) (l k i:Int),(put1 B l k i).length=B.length:=put1_len
 obtain ⟨B1,h1,p1,q1⟩:=defG_inv (fun _ B=>B.length=(C.mx+1).toNat/\∀ p∈B,p.1≠3) _ _ h C.ins 0 _ rfl ⟨by simp,fun p hp=>by rw [(List.mem_replicate.1 hp).2];simp⟩ fun x i B hB _=>⟨by rw [hl];exact hB.1,fun p hp=>by
  rcases put1_mem hp with hp | rfl
  ·exact hB.2 p hp
  ·simp⟩
 obtain ⟨B2,h2,p2,q2⟩:=defG_inv (fun _ B=>B.length=(C.mx+1).toNat/\∀ p∈B,p.1≠3) _ _ h C.lats 0 _ h1 ⟨p1,q1⟩ fun x i B hB _=>⟨by rw [hl];exact hB.1,fun p hp=>by
  rcases put1_mem hp with hp | rfl
  ·exact hB.2 p hp
  ·simp⟩
 obtain ⟨B3,h3,g3⟩:=defG_at (mx:=C.mx) (k:=3) (f:=L3.a) (g:=fun _=>0) (GD C) (fun B=>(0,0,B)) (defs C) h C.ands (fun n hn B hP hk=>by
  obtain ⟨k1,k2,k3,k4⟩:=mk1_zero hk
  have hlen:=hP.len
  have hi:(C.ands[n].a / 2).toNat<B.length:=by omega
  rw [getD_at hi] at k4
  refine ⟨by rw [hl];exact hlen,fun j hj hjn=>?_,fun v p hv hp=>?_⟩
  ·by_cases hjn2:j=n
   ·subst hjn2
    exact ⟨⟨k1,k3,k2⟩,by unfold put1 pos;rw [List.getElem?_set_self hi]⟩
   ·obtain ⟨a1,a2⟩:=hP.at_ j hj (by omega)
    refine ⟨a1,?_⟩
    unfold put1
    rw [List.getElem?_set_ne ?_]
    ·exact a2
    ·intro e
     rw [<- e,List.getElem?_eq_getElem hi] at a2
     have:=Option.some.inj a2
     rw [this] at k4
     simp at k4
  ·unfold put1 at hv
   rw [getElem?_set_eq] at hv
   split at hv
   ·rename_i hh
    obtain rfl:=Option.some.inj hv
    exact ⟨n,hn,by omega,rfl,hh.1⟩
   ·obtain ⟨j,hj,hjn,e1,e2⟩:=hP.of v p hv hp
    exact ⟨j,hj,by omega,e1,e2⟩) (C.ands.length-0) 0 B2 rfl (Nat.zero_le _) h2 ⟨p2,fun j hj hjn=>by omega,fun v p hv hp=>absurd hp (q2 p (List.mem_of_getElem? hv))⟩
 have e:(defs C).2.2=B3:=by rw [<- h3]
 rw [e];exact g3
def gL (B:List Mk):List Int:=B.map fun p=>if p.1=3 then p.2 else -1
theorem gL_len (B:List Mk):(gL B).length=B.length:=by simp [gL]
theorem gL_at {B:List Mk} {i:Nat} (h:i<(gL B).length):(gL B)[i]=if (B[i]'(by rwa [gL_len] at h)).1=3 then (B[i]'(by rwa [gL_len] at h)).2 else -1:=by simp [gL]
theorem gate_case {C:Circ} {B:List Mk} (g:GOk C B) {l:Int} (h0:0≤l) (h1:l≤2*C.mx+1):∃ t,(gL B)[(l / 2).toNat]?=some t/\((t = -1/\gateOf B l=[])∨∃ y:Nat,y<C.ands.length/\t=(y:Nat)/\gateOf B l=[y]):=by
 have hlen:=g.blen
 have:=g.mx0
 have hi:(l / 2).toNat<B.length:=by omega
 have hi2:(l / 2).toNat<(gL B).length:=by rw [gL_len];exact hi
 refine ⟨_,List.getElem?_eq_getElem hi2,?_⟩
 rw [gL_at]
 unfold gateOf
 rw [getD_at hi]
 by_cases h3:B[(l / 2).toNat].1=3
 ·have hg:=g.gates _ (List.getElem_mem hi) h3
  exact .inr ⟨B[(l / 2).toNat].2.toNat,by omega,by rw [if_pos h3];omega,by rw [if_pos h3]⟩
 ·exact .inl ⟨by rw [if_neg h3],by rw [if_neg h3]⟩
section
variable {h:Heap} {v:CV} {C:Circ}
theorem c134 (r:CIs h v C) (ok:C.Ok) (h1:0≤C.mx) (h2:C.mx≤16384) {B:List Mk} (g:GD C C.ands.length B):CallsH Tryz.prog 134 #[v.v] h fun w h'=>∃ a n c,w=.slice a n c/\Fr h 1 h' a n c (ints (gL B)):=by
 have hl:=r.len
 have hmx:=r.mx
 have hw:IntKind.wrap .i64 (v.mx+1)=v.mx+1:=w64 (by omega) (by omega)
 refine run134 v _ h ?_
 unfold VC134
 intro h3
 have eb:Ext h h3:=Ext.box h _
 have hxb:Rd h3 (some ⟨h.size,0,none⟩) 11 v.cs:=boxC v 29
 refine ⟨v.mx,hxb.fld 0 rfl,?_⟩
 rw [hw]
 refine ⟨by omega,by omega,by omega,?_⟩
 intro h4
 obtain ⟨n,hn⟩:∃ n,n=(v.mx+1).toNat:=⟨_,rfl⟩
 have f4:Fr h3 1 h4 (some ⟨h3.size,0,none⟩) n n (ints (List.replicate n 0)):=by
  have:=Fr.zeros (h:=h3) (.int .i64 0) 3 n
  rw [show ints (List.replicate n 0)=List.replicate n (.int .i64 0) by simp [ints]]
  rw [hn] at this ⊢;exact this
 refine LoopT.to (n:=n) (by omega) (fun i h'=>∃ G:List Int,G.length=n/\(∀ j,j<i->G[j]?=some (-1))/\Fr h3 1 h' (some ⟨h3.size,0,none⟩) n n (ints G)) ⟨List.replicate n 0,by simp,fun j hj=>by omega,f4⟩ ?_
 rintro i h5 K hi ⟨G,hG,hG1,f5⟩ hK
 refine ⟨v.mx,(hxb.ext f5.ext).fld 0 rfl,fun hlt=>?_,fun hlt=>?_⟩
 ·rw [hw]
  refine ⟨by omega,by omega,f5.at1 (by omega) (by omega) rfl fun h6 u6 f6=>hK _ (by omega) ⟨G.set i (-1),by simpa using hG,fun j hj=>?_,?_⟩⟩
  ·by_cases hji:j=i
   ·subst hji;rw [List.getElem?_set_self (by omega)]
   ·rw [List.getElem?_set_ne (Ne.symm hji)];exact hG1 j (by omega)
  ·rw [hn];rw [hn] at f6
   have:(ints G).set (Int.toNat (i:Nat)) (.int .i64 (-1))=ints (G.set i (-1)):=by rw [ints,ints,List.map_set];rfl
   rw [this] at f6;exact f6
 have hall:∀ j,j<n->G[j]?=some (-1):=fun j hj=>hG1 j (by omega)
 unfold J134_0
 refine LoopT.to (n:=v.g.n) (by have:=ok.n;have:=hl.g;omega) (fun i h'=>∃ G:List Int,G.length=n/\(∀ (j:Nat) (hj:j<C.ands.length),j<i->G[pos C.ands[j]]?=some ((j:Nat):Int))/\(∀ (w:Nat) (x:Int),G[w]?=some x->x ≠ -1->∃ j:Nat,∃ hj:j<C.ands.length,x=((j:Nat):Int)/\pos C.ands[j]=w)/\Fr h3 1 h' (some ⟨h3.size,0,none⟩) n n (ints G))
  ⟨G,hG,fun j _ hj=>by omega,fun w x hw hx=>by
   have hwn:w<n:=by rw [<- hG];exact (List.getElem?_eq_some_iff.1 hw).1
   rw [hall w hwn] at hw
   exact absurd (Option.some.inj hw).symm hx,f5⟩ ?_
 rintro i h6 K hi ⟨G,hG,hG1,hG2,f6⟩ hK
 refine ⟨_,_,_,(hxb.ext f6.ext).fld 8 rfl,fun hlt=>?_,fun hlt=>?_⟩
 ·have hig:i<C.ands.length:=by have:=hl.g;omega
  obtain ⟨⟨a1,a2,a3⟩,a4⟩:=g.at_ i hig hig
  refine ⟨_,_,_,(hxb.ext f6.ext).fld 8 rfl,by omega,hlt,(r.g.ext (eb.trans f6.ext)).elem L3.csl (by omega) (i:=i) (by omega) fun ad hl1 re=>⟨_,re.fld 0 rfl,?_⟩⟩
  rw [hw]
  show 0≤IntKind.wrap .i64 (Int.tdiv C.ands[i].a 2)/\_
  rw [tdiv2 (by omega) (by omega)]
  refine ⟨by omega,by omega,f6.at1 (by omega) (by omega) rfl fun h7 u7 f7=>hK _ (by omega) ⟨G.set (pos C.ands[i]) i,by simpa using hG,fun j hj hji=>?_,fun w x hw hx=>?_,?_⟩⟩
  ·by_cases hji2:j=i
   ·subst hji2;rw [List.getElem?_set_self (by rw [hG];unfold pos;omega)]
   ·rw [List.getElem?_set_ne ?_]
    ·exact hG1 j hj (by omega)
    ·intro e
     have b4:=(g.at_ j hj hj).2
     rw [<- e,a4] at b4
     have:=congrArg Prod.snd (Option.some.inj b4)
     simp only at this
     omega
  ·rw [getElem?_set_eq] at hw
   split at hw
   ·rename_i hh
    exact ⟨i,hig,(Option.some.inj hw).symm,hh.1⟩
   ·exact hG2 w x hw hx
  ·have:(ints G).set (Int.toNat (C.ands[i].a / 2)) (.int .i64 (i:Nat))=ints (G.set (pos C.ands[i]) i):=by rw [ints,ints,List.map_set];rfl
   rw [hn];rw [hn] at f7
   have f7':=f7
   rw [show (ints G).set (Int.toNat (C.ands[i].a / 2)) (.int .i64 ((i:Nat):Int))=ints (G.set (pos C.ands[i]) i) from this] at f7'
   exact f7'
 ·unfold J134_1
  rw [hw]
  refine ⟨_,_,_,rfl,?_⟩
  have:G=gL B:=by
   have hBl:=g.len
   apply List.ext_getElem (by rw [gL_len,hG,hBl,hn,hmx]) fun w hw1 hw2=>?_
   rw [gL_at]
   have hwB:w<B.length:=by rwa [gL_len] at hw2
   by_cases h3:B[w].1=3
   ·rw [if_pos h3]
    obtain ⟨j,hj,hjn,e1,e2⟩:=g.of w B[w] (List.getElem?_eq_getElem hwB) h3
    have:=hG1 j hj (by have:=hl.g;omega)
    rw [e2,List.getElem?_eq_getElem hw1] at this
    rw [Option.some.inj this,e1]
   ·rw [if_neg h3]
    by_cases hx:G[w] = -1
    ·exact hx
    ·obtain ⟨j,hj,e1,e2⟩:=hG2 w _ (List.getElem?_eq_getElem hw1) hx
     have:=(g.at_ j hj hj).2
     rw [e2,List.getElem?_eq_getElem hwB] at this
     rw [Option.some.inj this] at h3
     exact absurd rfl h3
  subst this
  rw [hn] at f6
  exact f6.base eb
end
end Go.Proofs.YtdpbdjdgdmheiaaGreat
namespace Go.Proofs.YtdpbdjdgdmheiaaGreat
open Go.Hx
structure TO (n:Nat) (bl:Nat->List Nat) (out:List Nat):Prop where
 nd:out.Nodup
 lt:∀ i∈out,i<n
 topo:∀ k (hk:k<out.length),∀ y∈bl out[k],y∈out.take k
theorem TO.add {n:Nat} {bl:Nat->List Nat} {out:List Nat} (t:TO n bl out) {i:Nat} (hi:i<n) (hn:i∉out) (hb:∀ y∈bl i,y∈out):TO n bl (out++[i]):=by
 refine ⟨?_,fun j hj=>?_,fun k hk y hy=>?_⟩
 ·rw [List.nodup_append]
  exact ⟨t.nd,by simp,fun a ha b hb e=>by simp at hb;subst hb;subst e;exact hn ha⟩
 ·rcases List.mem_append.1 hj with h | h
  ·exact t.lt j h
  ·simp at h;omega
 ·rcases Nat.lt_or_ge k out.length with h | h
  ·rw [List.getElem_append_left h] at hy
   rw [List.take_append_of_le_length (by omega)]
   exact t.topo k h y hy
  ·have hk2:k=out.length:=by simp at hk;omega
   subst hk2
   rw [List.take_left]
   rw [List.getElem_append_right (by omega)] at hy
   simp at hy
   exact hb y hy
theorem TO.len {n:Nat} {bl:Nat->List Nat} {out:List Nat} (t:TO n bl out):out.length≤n:=nodup_len n out t.nd t.lt
theorem TO.len1 {n:Nat} {bl:Nat->List Nat} {out:List Nat} (t:TO n bl out) {i:Nat} (hi:i<n) (hn:i∉out):out.length+1≤n:=by
 have:=nodup_len n (i::out) (List.nodup_cons.2 ⟨hn,t.nd⟩) fun x hx=>by
  rcases List.mem_cons.1 hx with rfl | hx
  ·exact hi
  ·exact t.lt x hx
 simpa using this
def doneL (n:Nat) (out:List Nat):List Bool:=(List.range n).map fun j=>decide (j∈out)
theorem doneL_len (n:Nat) (out:List Nat):(doneL n out).length=n:=by simp [doneL]
theorem doneL_at {n:Nat} {out:List Nat} {j:Nat} (h:j<n):(doneL n out)[j]?=some (decide (j∈out)):=by simp [doneL,h]
theorem doneL_add {n:Nat} {out:List Nat} {i:Nat} (h:i<n):doneL n (out++[i])=(doneL n out).set i true:=by
 apply List.ext_getElem? fun j=>?_
 rw [getElem?_set_eq,doneL_len]
 by_cases hj:j<n
 ·rw [doneL_at hj]
  split
  ·rename_i hh;rw [<- hh.1];simp
  ·rename_i hh
   rw [doneL_at hj]
   have:j≠i:=fun e=>hh ⟨e.symm,h⟩
   simp [this]
 ·rw [List.getElem?_eq_none (by rw [doneL_len];omega),if_neg (by omega),List.getElem?_eq_none (by rw [doneL_len];omega)]
section
variable {h:Heap} {v:CV} {C:Circ} {B:List Mk}
theorem bel_at {i:Nat} (hi:i<C.ands.length):bel C B i=gateOf B C.ands[i].b++gateOf B C.ands[i].c:=by unfold bel;rw [List.getElem?_eq_getElem hi]
theorem c128 (r:CIs h v C) (ok:C.Ok) (gd:GD C C.ands.length B) (g:GOk C B):CallsH Tryz.prog 128 #[v.v] h (OPost C B h):=by
 have hl:=r.len
 have hmx:=r.mx
 have hgn:=g.n
 have hlg:=hl.g
 refine run128 v _ h ?_
 unfold VC128
 intro h1
 have eb:Ext h h1:=Ext.box h _
 have hxb:Rd h1 (some ⟨h.size,0,none⟩) 11 v.cs:=boxC v 29
 refine ldC hxb ((c134 (r.ext eb) ok g.mx0 g.mx1 gd).mono ?_)
 rintro _ h2 ⟨ga,gn,gc,rfl,fg⟩
 have hgl:=fg.rd.ilen
 refine ⟨_,_,_,rfl,_,_,_,(hxb.ext fg.ext).fld 8 rfl,by omega,by omega,by omega,?_⟩
 obtain ⟨n,hn⟩:∃ n,n=C.ands.length:=⟨_,rfl⟩
 have hnv:v.g.n=n:=by omega
 rw [hnv]
 intro h3
 have f3:Fr h2 1 h3 (some ⟨h2.size,0,none⟩) n n (bools (doneL n [])):=by
  have:=Fr.zeros (h:=h2) (.bool false) 4 n
  have e:bools (doneL n [])=List.replicate n (.bool false):=by
   unfold doneL bools
   apply List.ext_getElem? fun j=>?_
   by_cases hj:j<n <;> simp [hj]
  rw [e];exact this
 have m3:Mem h2 h3 [⟨1,none,0,0,[]⟩,⟨1,some ⟨h2.size,0,none⟩,n,n,bools (doneL n [])⟩]:=by
  have a:=(Mem.nil (.refl h2)).add (t:=⟨1,some ⟨h2.size,0,none⟩,n,n,bools (doneL n [])⟩) f3
  exact a.add (t:=⟨1,none,0,0,[]⟩) (.nil (.refl h3))
 have e2:=eb.trans fg.ext
 refine ⟨fun st h' m=>∃ out,st.1.2.1=out.length/\TO n (bel C B) out/\Mem h2 h' [⟨1,st.1.1,out.length,st.1.2.2,ints (nI out)⟩,⟨1,some ⟨h2.size,0,none⟩,n,n,bools (doneL n out)⟩]/\(st.2=false->∀ i,i<n->(∀ y∈bel C B i,y∈out)->i∈out)/\m=2*(n-out.length)+(if st.2=true then 1 else 0),
  ⟨_,[],rfl,⟨by simp,by simp,fun k hk=>by simp at hk⟩,m3,(fun h=>by cases h),rfl⟩,?_⟩
 rintro ⟨⟨oa,on,oc⟩,again⟩ h4 _ ⟨out,hon,t,m4,hfull,rfl⟩
 dsimp only at hon m4 hfull ⊢
 subst hon
 cases again with
 | false=>
  refine BIf.f ⟨out,oa,oc,?_,rfl,?_⟩
  ·rw [<- hn];exact ⟨t.nd,t.lt,t.topo,hfull rfl⟩
  ·exact (m4.get 0 rfl).base e2
 | true=>
 refine BIf.t ?_
 have htl:=t.len
 refine ⟨fun st h' m=>∃ i:Nat,st=((oa,out.length,oc),false,(i:Int))/\i≤n/\m=n-i/\Mem h2 h' [⟨1,oa,out.length,oc,ints (nI out)⟩,⟨1,some ⟨h2.size,0,none⟩,n,n,bools (doneL n out)⟩]/\∀ j,j<i->j∈out∨∃ y∈bel C B j,y∉out,⟨n,0,rfl,Nat.zero_le _,rfl,m4,fun j hj=>by omega⟩,?_⟩
 rintro _ h5 _ ⟨i,rfl,hi,rfl,m5,hno⟩
 dsimp only
 have u5:=m5.ext
 have hx5:=(hxb.ext fg.ext).ext u5
 have hg5:=fg.rd.ext u5
 have hiw:i<n->IntKind.wrap .i64 ((i:Int)+1)=((i+1:Nat):Int):=fun h=>by rw [w64 (by omega) (by omega)];rfl
 refine ⟨_,_,_,hx5.fld 8 rfl,fun hlt=>?_,fun hlt=>?_⟩
 ·rw [hnv] at hlt
  have hin:i<n:=by omega
  have hig:i<C.ands.length:=by omega
  have hds:Rd h5 (some ⟨h2.size,0,none⟩) n (bools (doneL n out)):=(m5.get 1 rfl).rd
  have nxt:(i∈out∨∃ y∈bel C B i,y∉out)->∃ m',m'<n-i/\∃ i':Nat,((oa,out.length,oc),false,IntKind.wrap .i64 ((i:Int)+1))=((oa,out.length,oc),false,(i':Int))/\i'≤n/\m'=n-i'/\Mem h2 h5 [⟨1,oa,out.length,oc,ints (nI out)⟩,⟨1,some ⟨h2.size,0,none⟩,n,n,bools (doneL n out)⟩]/\∀ j,j<i'->j∈out∨∃ y∈bel C B j,y∉out:=fun hh=>
   ⟨n-(i+1),by omega,i+1,by rw [hiw hin],by omega,rfl,m5,fun j hj=>by
    by_cases hji:j=i
    ·subst hji;exact hh
    ·exact hno j (by omega)⟩
  refine ⟨by omega,by show ((i:Nat):Int)<((Int.toNat ((n:Nat):Int):Nat):Int);omega,_,hds.getN (doneL_at hin),?_⟩
  by_cases hio:i∈out
  ·rw [show decide (Int.toNat ((i:Nat):Int)∈out)=true from decide_eq_true (by exact hio)]
   exact BIf.t (nxt (.inl hio))
  rw [show decide (Int.toNat ((i:Nat):Int)∈out)=false from decide_eq_false (by exact hio)]
  refine BIf.f ?_
  obtain ⟨⟨b0,b1⟩,c0,c1⟩:=g.lits _ (List.getElem_mem hig)
  have hm0:=g.mx0
  have hm1:=g.mx1
  have hbel:=bel_at (B:=B) hig
  have found:(∀ y∈bel C B i,y∈out)->0≤((i:Nat):Int)/\((i:Nat):Int)<((Int.toNat ((n:Nat):Int)):Nat)/\StoreH h5 (Addr.add (Addr.mk h2.size 0 none) (Int.toNat (i:Nat)*1)) [.bool true] fun h_8=>let h_9:Heap:=(h_8).push (.cells #[.int .i64 (i:Nat)] 3);∃ ys:List Value,ReadL h_9 (some (Addr.mk (h_8).size 0 none)) ys/\ys.length=1*1/\AppS h_9 oa out.length oc 3 8 1 #[.int .i64 0] ys 1 fun apA apN apC h_10=>
    ∃ m',m'<2*(n-out.length)+1/\∃ out',apN=out'.length/\TO n (bel C B) out'/\Mem h2 h_10 [⟨1,apA,out'.length,apC,ints (nI out')⟩,⟨1,some ⟨h2.size,0,none⟩,n,n,bools (doneL n out')⟩]/\(true=false->∀ i,i<n->(∀ y∈bel C B i,y∈out')->i∈out')/\m'=2*(n-out'.length)+(if true=true then 1 else 0):=by
   intro hb
   refine ⟨by omega,by show ((i:Nat):Int)<((n:Nat):Int);omega,(m5.get 1 rfl).at1 (j:=(i:Nat)) (by omega) (by omega) rfl fun h6 u6 f6=>?_⟩
   have m6:=m5.setAt 1 (t':=⟨1,some ⟨h2.size,0,none⟩,n,n,_⟩) rfl f6 u6 (.inl rfl)
   have ed:(bools (doneL n out)).set (Int.toNat (i:Nat)) (.bool true)=bools (doneL n (out++[i])):=by rw [doneL_add hin,bools,bools,List.map_set];rfl
   rw [ed] at m6
   intro h7
   have e7:Ext h6 h7:=Ext.push _ _
   have r7:=(Fr.lit (.refl h6) [Value.int .i64 (i:Nat)] 3 1 rfl).rd
   have m7:=m6.ext' e7
   have hl1:=t.len1 hin hio
   refine ⟨_,r7.read,rfl,(m7.get 0 rfl).app rfl (by simp [Value.oneCell']) (by omega) fun a' c' h8 f8 u8 hor=>?_⟩
   have m8:=m7.setAt 0 (t':=⟨1,a',out.length+1,c',ints (nI out)++[.int .i64 (i:Nat)]⟩) rfl f8 u8 hor
   have eo:ints (nI out)++[.int .i64 (i:Nat)]=ints (nI (out++[i])):=by simp [nI,ints]
   rw [eo] at m8
   refine ⟨2*(n-(out.length+1))+1,by omega,out++[i],by simp,t.add hin hio hb,?_,(fun e=>by cases e),by simp⟩
   have:(out++[i]).length=out.length+1:=by simp
   rw [this];exact m8
  obtain ⟨tb,hib,cb⟩:=gate_case g b0 b1
  obtain ⟨tc,hic,cc⟩:=gate_case g c0 c1
  have rg:=(r.g.ext e2).ext u5
  rw [hnv] at rg
  unfold J128_3
  refine ⟨_,_,_,hx5.fld 8 rfl,by omega,by omega,rg.elem L3.csl (by omega) (i:=i) (by omega) fun ad hl1 re=>⟨_,re.fld 1 rfl,?_⟩⟩
  show 0≤IntKind.wrap .i64 (Int.tdiv C.ands[i].b 2)/\_
  rw [tdiv2 b0 (by omega)]
  refine ⟨by omega,hg5.getq (j:=C.ands[i].b / 2) (by omega) hib fun ad1 hc1=>⟨_,hc1,_,_,_,hx5.fld 8 rfl,by omega,by omega,rg.elem L3.csl (by omega) (i:=i) (by omega) fun ad2 hl2 re2=>⟨_,re2.fld 2 rfl,?_⟩⟩⟩
  show 0≤IntKind.wrap .i64 (Int.tdiv C.ands[i].c 2)/\_
  rw [tdiv2 c0 (by omega)]
  refine ⟨by omega,hg5.getq (j:=C.ands[i].c / 2) (by omega) hic fun ad3 hc3=>⟨_,hc3,?_⟩⟩
  rcases cb with ⟨eb1,eb2⟩ | ⟨y,hy,eb1,eb2⟩
  ·rw [eb1]
   refine ⟨fun _=>?_,fun hh=>by omega⟩
   rcases cc with ⟨ec1,ec2⟩ | ⟨z,hz,ec1,ec2⟩
   ·rw [ec1]
    exact ⟨fun _=>found (by rw [hbel,eb2,ec2];simp),fun hh=>by omega⟩
   ·rw [ec1]
    refine ⟨fun hh=>by omega,fun _=>⟨by omega,by show ((z:Nat):Int)<((n:Nat):Int);omega,_,hds.getN (doneL_at (by omega)),?_⟩⟩
    by_cases hzo:z∈out
    ·rw [show decide (Int.toNat ((z:Nat):Int)∈out)=true from decide_eq_true (by exact hzo)];exact BIf.t (found (by rw [hbel,eb2,ec2];simpa using hzo))
    ·rw [show decide (Int.toNat ((z:Nat):Int)∈out)=false from decide_eq_false (by exact hzo)];exact BIf.f (nxt (.inr ⟨z,by rw [hbel,ec2];simp,hzo⟩))
  ·rw [eb1]
   refine ⟨fun hh=>by omega,fun _=>⟨by omega,by show ((y:Nat):Int)<((n:Nat):Int);omega,_,hds.getN (doneL_at (by omega)),?_⟩⟩
   by_cases hyo:y∈out
   ·rw [show decide (Int.toNat ((y:Nat):Int)∈out)=true from decide_eq_true (by exact hyo)]
    refine BIf.t ?_
    rcases cc with ⟨ec1,ec2⟩ | ⟨z,hz,ec1,ec2⟩
    ·rw [ec1]
     exact ⟨fun _=>found (by rw [hbel,eb2,ec2];simpa using hyo),fun hh=>by omega⟩
    ·rw [ec1]
     refine ⟨fun hh=>by omega,fun _=>⟨by omega,by show ((z:Nat):Int)<((n:Nat):Int);omega,_,hds.getN (doneL_at (by omega)),?_⟩⟩
     by_cases hzo:z∈out
     ·rw [show decide (Int.toNat ((z:Nat):Int)∈out)=true from decide_eq_true (by exact hzo)];exact BIf.t (found (by rw [hbel,eb2,ec2];simp;exact ⟨hyo,hzo⟩))
     ·rw [show decide (Int.toNat ((z:Nat):Int)∈out)=false from decide_eq_false (by exact hzo)];exact BIf.f (nxt (.inr ⟨z,by rw [hbel,ec2];simp,hzo⟩))
   ·rw [show decide (Int.toNat ((y:Nat):Int)∈out)=false from decide_eq_false (by exact hyo)];exact BIf.f (nxt (.inr ⟨y,by rw [hbel,eb2];simp,hyo⟩))
 ·rw [hnv] at hlt
  refine ⟨2*(n-out.length),by show 2*(n-out.length)<2*(n-out.length)+1;omega,out,rfl,t,m5,fun _ j hj hb=>?_,by simp⟩
  rcases hno j (by omega) with h1 | ⟨y,hy,hyo⟩
  ·exact h1
  ·exact absurd (hb y hy) hyo
end
end Go.Proofs.YtdpbdjdgdmheiaaGreat
namespace Go.Proofs.YtdpbdjdgdmheiaaGreat
open Go.Hx
structure BF (n:Nat) (bl:Nat->List Nat) (s:Nat) (T:List Nat) (seen:List Bool):Prop where
 lt:∀ x∈T,x<n
 nd:T.Nodup
 len:seen.length=n
 seen:∀ y,y<n->seen[y]?=some (decide (y∈T))
 reach:∀ x∈T,Relation.TransGen (fun a b=>b∈bl a) s x
theorem BF.le {n:Nat} {bl:Nat->List Nat} {s:Nat} {T:List Nat} {seen:List Bool} (b:BF n bl s T seen):T.length≤n:=nodup_len n T b.nd b.lt
theorem BF.start (n:Nat) (bl:Nat->List Nat) (s:Nat):BF n bl s [] (List.replicate n false):=⟨fun x hx=>(by cases hx),by simp,by simp,fun y hy=>by simp [hy],fun x hx=>(by cases hx)⟩
theorem BF.add {n:Nat} {bl:Nat->List Nat} {s:Nat} {T:List Nat} {seen:List Bool} (b:BF n bl s T seen) {y:Nat} (hy:y<n) (hn:y∉T) {x:Nat} (hx:x=s∨x∈T) (hxy:y∈bl x):BF n bl s (T++[y]) (seen.set y true):=by
 refine ⟨fun z hz=>?_,?_,by rw [List.length_set];exact b.len,fun z hz=>?_,fun z hz=>?_⟩
 ·rcases List.mem_append.1 hz with h | h
  ·exact b.lt z h
  ·simp at h;omega
 ·rw [List.nodup_append]
  exact ⟨b.nd,by simp,fun a ha c hc e=>by simp at hc;subst hc;subst e;exact hn ha⟩
 ·rw [getElem?_set_eq,b.len]
  split
  ·rename_i hh;rw [<- hh.1];simp
  ·rename_i hh
   rw [b.seen z hz]
   have:z≠y:=fun e=>hh ⟨e.symm,hy⟩
   simp [this]
 ·rcases List.mem_append.1 hz with h | h
  ·exact b.reach z h
  ·simp at h
   subst h
   rcases hx with rfl | hx
   ·exact .single hxy
   ·exact .tail (b.reach x hx) hxy
theorem BF.done {n:Nat} {bl:Nat->List Nat} {s:Nat} {T:List Nat} {seen:List Bool} (b:BF n bl s T seen) (hp:∀ x∈s::T,∀ y∈bl x,y≠s/\y∈T):¬ Relation.TransGen (fun a b=>b∈bl a) s s:=by
 have key:∀ y,Relation.TransGen (fun a b=>b∈bl a) s y->y≠s/\y∈T:=by
  intro y hy
  induction hy with
  | single h=>exact hp s (List.mem_cons_self ..) _ h
  | tail _ h ih=>exact hp _ (List.mem_cons_of_mem _ ih.2) _ h
 exact fun h=>(key s h).1 rfl
section
variable {h:Heap} {v:CV} {C:Circ} {B:List Mk}
theorem two_case (g:GOk C B) {x:Nat} (hx:x<C.ands.length):∃ (t:List Int),t.length=2/\(gL B)[(C.ands[x].b / 2).toNat]?=t[0]?/\(gL B)[(C.ands[x].c / 2).toNat]?=t[1]?/\(∀ k (hk:k<t.length),t[k] = -1∨∃ y:Nat,y<C.ands.length/\t[k]=(y:Nat)/\y∈bel C B x) /\
  ∀ y∈bel C B x,∃ k,∃ hk:k<t.length,t[k]=(y:Nat):=by
 obtain ⟨⟨b0,b1⟩,c0,c1⟩:=g.lits _ (List.getElem_mem hx)
 obtain ⟨tb,hib,cb⟩:=gate_case g b0 b1
 obtain ⟨tc,hic,cc⟩:=gate_case g c0 c1
 have hbel:=bel_at (B:=B) hx
 refine ⟨[tb,tc],rfl,hib,hic,fun k hk=>?_,fun y hy=>?_⟩
 ·match k,hk with
  | 0,_=>
   rcases cb with ⟨e1,e2⟩ | ⟨y,hy,e1,e2⟩
   ·exact .inl e1
   ·exact .inr ⟨y,hy,e1,by rw [hbel,e2];simp⟩
  | 1,_=>
   rcases cc with ⟨e1,e2⟩ | ⟨y,hy,e1,e2⟩
   ·exact .inl e1
   ·exact .inr ⟨y,hy,e1,by rw [hbel,e2];simp⟩
 ·rw [hbel] at hy
  rcases List.mem_append.1 hy with h | h
  ·rcases cb with ⟨e1,e2⟩ | ⟨z,hz,e1,e2⟩
   ·rw [e2] at h;cases h
   ·rw [e2] at h;simp at h;subst h;exact ⟨0,by simp,e1⟩
  ·rcases cc with ⟨e1,e2⟩ | ⟨z,hz,e1,e2⟩
   ·rw [e2] at h;cases h
   ·rw [e2] at h;simp at h;subst h;exact ⟨1,by simp,e1⟩
theorem c135 (r:CIs h v C) (g:GOk C B) {ga:Option Addr} {gn gc:Nat} (rg:Rd h ga gn (ints (gL B))) {s:Nat} (hs:s<C.ands.length) :
  CallsH Tryz.prog 135 #[v.v,.slice ga gn gc,.int .i64 (s:Nat)] h fun w h'=>Ext h h'/\((w=.bool true/\Rnd C B s)∨(w=.bool false/\¬ Rnd C B s)):=by
 have hl:=r.len
 have hgn:=g.n
 have hlg:=hl.g
 have hm0:=g.mx0
 have hm1:=g.mx1
 have hgl:=rg.ilen
 refine run135 v ga gn gc s _ h ?_
 unfold VC135
 intro h1
 have eb:Ext h h1:=Ext.box h _
 have hxb:Rd h1 (some ⟨h.size,0,none⟩) 11 v.cs:=boxC v 29
 refine ⟨_,_,_,hxb.fld 8 rfl,by omega,by omega,by omega,?_⟩
 obtain ⟨n,hn⟩:∃ n,n=C.ands.length:=⟨_,rfl⟩
 have hnv:v.g.n=n:=by omega
 rw [hnv]
 intro h2
 have f2:Fr h1 1 h2 (some ⟨h1.size,0,none⟩) n n (bools (List.replicate n false)):=by
  have:=Fr.zeros (h:=h1) (.bool false) 4 n
  rw [show bools (List.replicate n false)=List.replicate n (.bool false) by simp [bools]]
  exact this
 intro h3
 have f3:Fr h2 1 h3 (some ⟨h2.size,0,none⟩) 1 1 [.int .i64 (s:Nat)]:=Fr.lit (.refl h2) _ 3 1 rfl
 have m3:Mem h1 h3 [⟨1,some ⟨h2.size,0,none⟩,1,1,[.int .i64 (s:Nat)]⟩,⟨1,some ⟨h1.size,0,none⟩,n,n,bools (List.replicate n false)⟩]:=
  ((Mem.nil (.refl h1)).add (t:=⟨1,some ⟨h1.size,0,none⟩,n,n,bools (List.replicate n false)⟩) f2).add (t:=⟨1,some ⟨h2.size,0,none⟩,1,1,[.int .i64 (s:Nat)]⟩) f3
 refine ⟨fun st h' m=>∃ (T:List Nat) (seen:List Bool) (i:Nat),st.1.2.1=T.length+1/\st.2=(i:Int)/\i≤T.length+1/\BF n (bel C B) s T seen/\(∀ j (hj:j<(s::T).length),j<i->∀ y∈bel C B (s::T)[j],y≠s/\y∈T) /\
   Mem h1 h' [⟨1,st.1.1,T.length+1,st.1.2.2,ints (nI (s::T))⟩,⟨1,some ⟨h1.size,0,none⟩,n,n,bools seen⟩]/\m=n+1-i,⟨_,[],List.replicate n false,0,rfl,rfl,by omega,BF.start n _ s,fun j _ hj=>by omega,m3,rfl⟩,?_⟩
 rintro ⟨⟨la,ln,lc⟩,i_⟩ h4 _ ⟨T,seen,i,hln,hi_,hi,bf,hp,m4,rfl⟩
 dsimp only at hln hi_ m4 ⊢
 subst hln;subst hi_
 have hTn:=bf.le
 have u4:=m4.ext
 have hx4:=hxb.ext u4
 refine ⟨fun hlt=>?_,fun hlt=>?_⟩
 ·have hiL:i<(s::T).length:=by simp;omega
  obtain ⟨x,hx⟩:∃ x,x=(s::T)[i]:=⟨_,rfl⟩
  have hxT:x=s∨x∈T:=by have:=List.getElem_mem hiL;rw [<- hx] at this;simpa using this
  have hxn:x<C.ands.length:=by rcases hxT with rfl | h;exact hs;rw [<- hn];exact bf.lt x h
  have hRx:∀ y∈bel C B x,Relation.TransGen (fun a b=>b∈bel C B a) s y:=fun y hy=>by
   rcases hxT with rfl | h
   ·exact .single hy
   ·exact .tail (bf.reach x h) hy
  have hxat:(nI (s::T))[Int.toNat ((i:Nat):Int)]?=some ((x:Nat):Int):=by
   rw [Int.toNat_natCast];simp only [nI];rw [List.getElem?_map,List.getElem?_eq_getElem hiL,<- hx];rfl
  have hlist:Rd h4 la (T.length+1) (ints (nI (s::T))):=(m4.get 0 rfl).rd
  have hbl:∀ {h':Heap} {a:Addr} {w:Value},cellH h' a=some w->a.block<h'.size:=fun h=>cellH_lt h
  have rgd:=(r.g.ext eb).ext u4
  obtain ⟨t,ht2,htb,htc,htk,hty⟩:=two_case g hxn
  obtain ⟨⟨b0,b1⟩,c0,c1⟩:=g.lits _ (List.getElem_mem hxn)
  unfold J135_1
  refine ⟨hbl (hx4.fld 8 rfl),_,_,_,hx4.fld 8 rfl,by omega,hlt,(hlist.getq (j:=(i:Nat)) (by omega) hxat fun ad hc=>⟨hbl hc,_,hc,by omega,by omega,rgd.elem L3.csl (by omega) (i:=x) (by omega) fun ad1 hl1 re=>⟨?_,_,_,_,re.cells,?_⟩⟩).2⟩
  ·have:=hbl (re.fld 0 rfl);rwa [add_block] at this
  intro h5
  have e5:Ext h4 h5:=Ext.push _ _
  refine ⟨fun b hb=>e5.2 b hb fun x=>x,box3 C.ands[x] fun h6 e6 b6=>?_⟩
  have u6:=u4.trans e6
  have hg6:=(rg.ext eb).ext u6
  refine ⟨hbl (b6.fld 1 rfl),_,b6.fld 1 rfl,?_⟩
  rw [tdiv2 b0 (by omega)]
  have h20:t[0]?=some t[0]:=List.getElem?_eq_getElem (by omega)
  have h21:t[1]?=some t[1]:=List.getElem?_eq_getElem (by omega)
  have hglB:(gL B).length=(C.mx+1).toNat:=by rw [gL_len];exact g.blen
  refine ⟨by omega,(hg6.getq (j:=C.ands[x].b / 2) (by omega) (htb.trans h20) fun ad2 hc2=>⟨hbl hc2,_,hc2,hbl (b6.fld 2 rfl),_,b6.fld 2 rfl,?_⟩)⟩
  rw [tdiv2 c0 (by omega)]
  refine ⟨by omega,(hg6.getq (j:=C.ands[x].c / 2) (by omega) (htc.trans h21) fun ad3 hc3=>⟨hbl hc3,_,hc3,?_⟩)⟩
  have et:[Value.int .i64 t[0],Value.int .i64 t[1]]=ints t:=by
   match t,ht2 with
   | [a,b],_=>rfl
  rw [et]
  intro h7
  have e7:Ext h6 h7:=Ext.push _ _
  have f7:Fr h6 1 h7 (some ⟨h6.size,0,none⟩) 2 2 [.int .i64 0,.int .i64 0]:=Fr.lit (.refl h6) _ 219 2 rfl
  refine ⟨fun b hb=>e7.2 b hb fun x=>x,f7.put (ws:=ints t) (by simp [ht2]) ints_one fun h8 f8 u8=>?_⟩
  have m8:Mem h1 h8 [⟨1,some ⟨h6.size,0,none⟩,2,2,ints t⟩,⟨1,la,T.length+1,lc,ints (nI (s::T))⟩,⟨1,some ⟨h1.size,0,none⟩,n,n,bools seen⟩]:=(m4.ext' e6).add (t:=⟨1,some ⟨h6.size,0,none⟩,2,2,ints t⟩) f8
  have hiw:IntKind.wrap .i64 ((i:Int)+1)=((i+1:Nat):Int):=by rw [w64 (by omega) (by omega)];rfl
  refine LoopT.to2 (n:=2) (by omega) (fun k st h'=>∃ (T':List Nat) (seen':List Bool),st.2.1=T'.length+1/\(∃ X,T'=T++X)/\BF n (bel C B) s T' seen'/\(∀ k' (hk:k'<t.length),k'<k->∀ y:Nat,t[k']=(y:Nat)->y≠s/\y∈T') /\
   Mem h1 h' [⟨1,some ⟨h6.size,0,none⟩,2,2,ints t⟩,⟨1,st.1,T'.length+1,st.2.2,ints (nI (s::T'))⟩,⟨1,some ⟨h1.size,0,none⟩,n,n,bools seen'⟩]) ⟨T,seen,rfl,⟨[],by simp⟩,bf,fun k' _ hk=>by omega,m8⟩ ?_
  rintro k ⟨la',ln',lc'⟩ h9 K hk ⟨T',seen',hln',⟨X,hX⟩,bf',hp',m9⟩ hK
  dsimp only at hln' m9 ⊢
  subst hln'
  have hT'n:=bf'.le
  have u9:=m9.ext
  refine ⟨fun hlt2=>?_,fun hlt2=>?_⟩
  ·have hk2:k<t.length:=by omega
   have hb9:Rd h9 (some ⟨h6.size,0,none⟩) 2 (ints t):=(m9.get 0 rfl).rd
   have hcell:∀ {h':Heap},Rd h' (some ⟨h6.size,0,none⟩) 2 (ints t)->cellH h' (Addr.add ⟨h6.size,0,none⟩ (Int.toNat (k:Nat)*1))=some (.int .i64 t[k]):=fun r=>r.getN (List.getElem?_eq_getElem hk2)
   have next:∀ y:Nat,t[k]=(y:Nat)->y≠s->y∈T'->K ((la',T'.length+1,lc'),IntKind.wrap .i64 ((k:Int)+1)) h9:=fun y hy hys hyT=>hK _ _ (by omega) ⟨T',seen',rfl,⟨X,hX⟩,bf',fun k' hk' hkk y' hy'=>by
    by_cases hkk2:k'=k
    ·subst hkk2
     have:y'=y:=by omega
     subst this;exact ⟨hys,hyT⟩
    ·exact hp' k' hk' (by omega) y' hy',m9⟩
   refine ⟨by omega,by omega,_,hcell hb9,fun hat=>?_,fun hat=>?_⟩
   ·rcases htk k hk2 with h | ⟨y,hy,e1,e2⟩
    ·omega
    ·have:y=s:=by omega
     subst this
     exact ⟨eb.trans u9,.inl ⟨rfl,hRx _ e2⟩⟩
   ·refine ⟨by omega,by omega,_,hcell hb9,fun hge=>?_,fun hge=>?_⟩
    ·rcases htk k hk2 with h | ⟨y,hy,e1,e2⟩
     ·omega
     have hyn:y<n:=by omega
     have hys:y≠s:=by omega
     rw [e1] at hcell
     refine ⟨by omega,by omega,_,hcell hb9,by omega,by show ((y:Nat):Int)<((n:Nat):Int);omega,_,((m9.get 2 rfl).rd).getN (bf'.seen y hyn),?_⟩
     by_cases hyT:y∈T'
     ·rw [decide_eq_true hyT]
      exact BIf.f (next y e1 hys hyT)
     ·rw [decide_eq_false hyT]
      refine BIf.t ⟨by omega,by omega,_,hcell hb9,by omega,by show ((y:Nat):Int)<((n:Nat):Int);omega,?_⟩
      refine (m9.get 2 rfl).at1 (j:=(y:Nat)) (by omega) (by omega) rfl fun h10 u10 f10=>?_
      have m10:=m9.setAt 2 (t':=⟨1,some ⟨h1.size,0,none⟩,n,n,_⟩) rfl f10 u10 (.inl rfl)
      have es:(bools seen').set (Int.toNat (y:Nat)) (.bool true)=bools (seen'.set y true):=by rw [bools,bools,List.map_set];rfl
      rw [es] at m10
      refine ⟨by omega,by omega,_,hcell (m10.get 0 rfl).rd,?_⟩
      intro h11
      have e11:Ext h10 h11:=Ext.push _ _
      have r11:=(Fr.lit (.refl h10) [Value.int .i64 (y:Nat)] 3 1 rfl).rd
      have m11:=m10.ext' e11
      have bf2:=bf'.add hyn hyT (x:=x) (by rcases hxT with h | h;exact .inl h;exact .inr (by rw [hX];exact List.mem_append_left _ h)) e2
      have hlen2:=bf2.le
      simp only [List.length_append,List.length_singleton] at hlen2
      refine ⟨_,r11.read,rfl,(m11.get 1 rfl).app rfl (by simp [Value.oneCell']) (by omega) fun a' c' h12 f12 u12 hor=>?_⟩
      have m12:=m11.setAt 1 (t':=⟨1,a',T'.length+1+1,c',ints (nI (s::T'))++[.int .i64 (y:Nat)]⟩) rfl f12 u12 hor
      have eo:ints (nI (s::T'))++[Value.int .i64 (y:Nat)]=ints (nI (s::(T'++[y]))):=by simp [nI,ints]
      rw [eo] at m12
      refine hK _ _ (by omega) ⟨T'++[y],seen'.set y true,by simp,⟨X++[y],by rw [hX,List.append_assoc]⟩,bf2,fun k' hk' hkk y' hy'=>?_,?_⟩
      ·by_cases hkk2:k'=k
       ·subst hkk2
        have:y'=y:=by omega
        subst this;exact ⟨hys,by simp⟩
       ·have:=hp' k' hk' (by omega) y' hy'
        exact ⟨this.1,List.mem_append_left _ this.2⟩
      ·have:(T'++[y]).length+1=T'.length+1+1:=by simp
       rw [this];exact m12
    ·refine hK _ _ (by omega) ⟨T',seen',rfl,⟨X,hX⟩,bf',fun k' hk' hkk y' hy'=>?_,m9⟩
     by_cases hkk2:k'=k
     ·subst hkk2;omega
     ·exact hp' k' hk' (by omega) y' hy'
  ·have hk2:k=2:=by omega
   subst hk2
   refine ⟨n+1-(i+1),by omega,T',seen',i+1,rfl,hiw,by rw [hX];simp at hiL ⊢;omega,bf',fun j hj hji y hy=>?_,m9.sub (List.sublist_cons_self ..),rfl⟩
   have hT:(s::T')=(s::T)++X:=by rw [hX];rfl
   have hjT:j<(s::T).length:=by omega
   have e:(s::T')[j]=(s::T)[j]:=by simp only [hT];exact List.getElem_append_left hjT
   rw [e] at hy
   by_cases hji2:j=i
   ·subst hji2
    rw [<- hx] at hy
    obtain ⟨k,hk,ek⟩:=hty y hy
    exact hp' k hk (by omega) y ek
   ·have:=hp j hjT (by omega) y hy
    exact ⟨this.1,by rw [hX];exact List.mem_append_left _ this.2⟩
 ·refine ⟨eb.trans u4,.inr ⟨rfl,bf.done fun x hx y hy=>?_⟩⟩
  obtain ⟨j,hj,rfl⟩:=List.getElem_of_mem hx
  exact hp j hj (by simp at hj;omega) y hy
end
end Go.Proofs.YtdpbdjdgdmheiaaGreat
namespace Go.Proofs.YtdpbdjdgdmheiaaGreat
open Go.Hx
noncomputable def syR (C:Circ):Int×Int:=match syF C with | some i=>((i:Nat),35) | none=>(0,0)
section
variable {h:Heap} {v:CV} {C:Circ}
theorem c136 (r:CIs h v C) (ok:C.Ok):CallsH Tryz.prog 136 #[v.v] h (Xt (.tuple #[.int .i64 (syR C).1,.int .i64 (syR C).2]) h):=by
 obtain ⟨q1,q2,q3,q4,q5,q6,q7,q8,q9,q10⟩:=r.len
 have hnb:=ok.nb
 refine run136 v _ h ?_
 unfold VC136
 intro h1
 have eb:Ext h h1:=Ext.box h _
 have hxb:Rd h1 (some ⟨h.size,0,none⟩) 11 v.cs:=boxC v 29
 refine LoopT.to (n:=v.s.n) (by omega) (fun i h'=>Ext h1 h'/\symF C (C.syms.take i) (C.syms.drop i) i=syF C) ⟨.refl _,rfl⟩ ?_
 rintro i h2 K hi ⟨u2,hF⟩ hK
 refine ⟨_,_,_,(hxb.ext u2).fld 9 rfl,fun hlt=>?_,fun hlt=>?_⟩
 ·have his:i<C.syms.length:=by omega
  rw [symF_cons his] at hF
  obtain ⟨s,hs⟩:∃ s,s=C.syms[i]:=⟨_,rfl⟩
  rw [<- hs] at hF
  have hsok:=ok.syms _ (List.getElem_mem his)
  rw [<- hs] at hsok
  refine ⟨_,_,_,(hxb.ext u2).fld 9 rfl,by omega,hlt,(r.s.ext (eb.trans u2)).elem Sy.csl (by omega) (i:=i) (by omega) fun ad hl1 re=>?_⟩
  have hs':(C.syms[(Int.toNat (i:Nat))]'hl1)=s:=hs.symm
  refine ⟨_,_,_,re.cells,?_⟩
  show (let h_3:Heap:=(h2).push (.cells #[(.int .u8 0),.int .i64 0,(.string (ByteArray.mk #[]))] 123);StoreH h_3 (Addr.mk (h2).size 0 none) (Sy.cs C.syms[i]) _)
  rw [<- hs]
  refine box3s s fun h4 e4 b4=>?_
  have u4:=u2.trans e4
  have hx4:=hxb.ext u4
  have bad:SymBad C (C.syms.take i) s->∀ h',Ext h4 h'->Xt (.tuple #[.int .i64 (syR C).1,.int .i64 (syR C).2]) h (.tuple #[.int .i64 (i:Nat),.int .i64 35]) h':=fun hb h' e'=>by
   rw [if_pos hb] at hF
   refine ⟨by unfold syR;rw [<- hF],(eb.trans u4).trans e'⟩
  have good:¬ SymBad C (C.syms.take i) s->∀ h',Ext h4 h'->K (IntKind.wrap .i64 ((i:Int)+1)) h':=fun hb h' e'=>by
   rw [if_neg hb] at hF
   exact hK _ (by omega) ⟨u4.trans e',hF⟩
  have key:∀ m,m=many C s.k->J136_3 (Xt (.tuple #[.int .i64 (syR C).1,.int .i64 (syR C).2]) h) h i K h2 m h4:=by
   intro m hm
   refine ⟨s.i,b4.fld 1 rfl,fun h5=>⟨s.i,b4.fld 1 rfl,fun h6=>⟨s.s,b4.fld 2 rfl,fun h7=>⟨s.s,b4.fld 2 rfl,fun h8=>?_,fun h8=>?_⟩,fun h7=>?_⟩,fun h6=>?_⟩,fun h5=>?_⟩
   ·
    have hsz:s.s.size≤64:=by omega
    have hbl:(B s.s).length=s.s.size:=rfl
    refine ⟨fun st h' m=>∃ k:Nat,st.2=(k:Int)/\k≤s.s.size/\Ext h4 h'/\m=s.s.size+1-k/\(if st.1=true then ∀ j (hj:j<(B s.s).length),j<k->32≤((B s.s)[j]).toNat else ∃ b∈B s.s,b.toNat<32),⟨_,0,rfl,Nat.zero_le _,.refl _,rfl,by simp⟩,?_⟩
    rintro ⟨okb,k_⟩ h9 _ ⟨k,hk_,hk,e9,rfl,hI⟩
    dsimp only at hk_ hI ⊢
    subst hk_
    have fin:(okb=true->k=s.s.size)->J136_4 (Xt (.tuple #[.int .i64 (syR C).1,.int .i64 (syR C).2]) h) h i K h2 okb h9:=by
     intro hfin
     refine ⟨fun st h' m=>∃ k:Nat,st.2=(k:Int)/\k≤i/\Ext h4 h'/\m=i+1-k/\(if st.1=true then (¬ ∃ b∈B s.s,b.toNat<32)/\∀ j (hj:j<C.syms.length),j<k->¬ (C.syms[j].k=s.k/\C.syms[j].i=s.i) else SymBad C (C.syms.take i) s),⟨_,0,rfl,Nat.zero_le _,e9,rfl,?_⟩,?_⟩
     ·dsimp only
      cases okb with
      | true=>
       rw [if_pos rfl] at hI ⊢
       refine ⟨fun ⟨b,hb,hb2⟩=>?_,fun j _ hj=>by omega⟩
       obtain ⟨j,hj,rfl⟩:=List.getElem_of_mem hb
       have:=hI j hj (by rw [hfin rfl];exact hj)
       omega
      | false=>
       rw [if_neg (by simp)] at hI ⊢
       exact .inr (.inr (.inr (.inr (.inr hI))))
     ·rintro ⟨okc,k1_⟩ h10 _ ⟨k1,hk1_,hk1,e10,rfl,hI2⟩
      dsimp only at hk1_ hI2 ⊢
      subst hk1_
      have hx10:=hx4.ext e10
      have b10:=b4.ext e10
      have fin2:(okc=true->k1=i)->J136_6 (Xt (.tuple #[.int .i64 (syR C).1,.int .i64 (syR C).2]) h) i K okc h10:=by
       intro hf2
       cases okc with
       | false=>
        rw [if_neg (by simp)] at hI2
        exact BIf.t (bad hI2 _ e10)
       | true=>
        rw [if_pos rfl] at hI2
        refine BIf.f (good ?_ _ e10)
        rintro (hh | hh | hh | hh | ⟨p,hp,hh⟩ | hh)
        ·omega
        ·omega
        ·omega
        ·omega
        ·obtain ⟨j,hj,rfl⟩:=List.getElem_of_mem hp
         rw [List.length_take] at hj
         rw [List.getElem_take] at hh
         exact hI2.2 j (by omega) (by rw [hf2 rfl];omega) hh
        ·exact hI2.1 hh
      cases okc with
      | false=>exact BIf.f (fin2 fun e=>by cases e)
      | true=>
       rw [if_pos rfl] at hI2
       refine BIf.t ⟨fun hlt3=>?_,fun hlt3=>fin2 fun _=>by omega⟩
       have hk1s:k1<C.syms.length:=by omega
       have hkw:IntKind.wrap .i64 ((k1:Int)+1)=((k1+1:Nat):Int):=by rw [w64 (by omega) (by omega)];rfl
       have step:¬ (C.syms[k1].k=s.k/\C.syms[k1].i=s.i)->∃ m',m'<i+1-k1/\∃ k:Nat,IntKind.wrap .i64 ((k1:Int)+1)=(k:Int)/\k≤i/\Ext h4 h10/\m'=i+1-k/\(if true=true then (¬ ∃ b∈B s.s,b.toNat<32)/\∀ j (hj:j<C.syms.length),j<k->¬ (C.syms[j].k=s.k/\C.syms[j].i=s.i) else SymBad C (C.syms.take i) s):=fun hne=>
        ⟨i+1-(k1+1),by omega,k1+1,hkw,by omega,e10,rfl,by
         rw [if_pos rfl]
         refine ⟨hI2.1,fun j hj hjk=>?_⟩
         by_cases hjk2:j=k1
         ·subst hjk2;exact hne
         ·exact hI2.2 j hj (by omega)⟩
       have rs:=r.s.ext ((eb.trans u4).trans e10)
       refine ⟨_,_,_,hx10.fld 9 rfl,by omega,by omega,rs.elem Sy.csl (by omega) (i:=k1) (by omega) fun ad1 hl1 re1=>⟨_,re1.fld 0 rfl,s.k,b10.fld 0 rfl,fun hk2=>?_,fun hk2=>step fun hh=>hk2 hh.1⟩⟩
       refine ⟨_,_,_,hx10.fld 9 rfl,by omega,by omega,rs.elem Sy.csl (by omega) (i:=k1) (by omega) fun ad2 hl2 re2=>⟨_,re2.fld 1 rfl,s.i,b10.fld 1 rfl,fun hi2=>?_,fun hi2=>step fun hh=>hi2 hh.2⟩⟩
       refine ⟨i+1-(k1+1),by omega,k1+1,hkw,by omega,e10,rfl,?_⟩
       rw [if_neg (by simp)]
       refine .inr (.inr (.inr (.inr (.inl ⟨C.syms[k1],?_,hk2,hi2⟩))))
       rw [List.mem_take_iff_getElem]
       exact ⟨k1,by omega,rfl⟩
    cases okb with
    | false=>exact BIf.f (fin fun e=>by cases e)
    | true=>
     have b9:=b4.ext e9
     refine BIf.t ⟨s.s,b9.fld 2 rfl,fun hlt3=>?_,fun hlt3=>fin fun _=>by omega⟩
     rw [if_pos rfl] at hI
     have hkw:IntKind.wrap .i64 ((k:Int)+1)=((k+1:Nat):Int):=by rw [w64 (by omega) (by omega)];rfl
     have hkb:k<(B s.s).length:=by omega
     have hbe:=byteAt_eq s.s (k:Nat) (by omega) (by rw [Int.toNat_natCast];exact hkb)
     refine ⟨s.s,b9.fld 2 rfl,by omega,hlt3,fun hge=>⟨s.s.size+1-(k+1),by omega,k+1,hkw,by omega,e9,rfl,?_⟩,fun hge=>⟨s.s.size+1-(k+1),by omega,k+1,hkw,by omega,e9,rfl,?_⟩⟩
     ·rw [if_pos rfl]
      intro j hj hjk
      by_cases hjk2:j=k
      ·subst hjk2
       rw [hbe] at hge
       simp only [Int.toNat_natCast] at hge
       omega
      ·exact hI j hj (by omega)
     ·rw [if_neg (by simp)]
      refine ⟨(B s.s)[k],List.getElem_mem hkb,?_⟩
      rw [hbe] at hge
      simp only [Int.toNat_natCast] at hge
      omega
   ·exact LoopT.once fun _=>BIf.f (LoopT.once fun _=>BIf.f (BIf.t (bad (.inr (.inr (.inr (.inl (by omega))))) _ (.refl _))))
   ·exact LoopT.once fun _=>BIf.f (LoopT.once fun _=>BIf.f (BIf.t (bad (.inr (.inr (.inl (by omega)))) _ (.refl _))))
   ·exact LoopT.once fun _=>BIf.f (LoopT.once fun _=>BIf.f (BIf.t (bad (.inr (.inl (by omega))) _ (.refl _))))
   ·exact LoopT.once fun _=>BIf.f (LoopT.once fun _=>BIf.f (BIf.t (bad (.inl (by omega)) _ (.refl _))))
  refine ⟨s.k,b4.fld 0 rfl,fun c1=>⟨_,_,_,hx4.fld 1 rfl,key _ (by unfold many;rw [if_pos c1,q1])⟩,fun c1=>⟨fun c2=>⟨_,_,_,hx4.fld 2 rfl,key _ (by unfold many;rw [if_neg c1,if_pos c2,q2])⟩,fun c2=>⟨fun c10003=>⟨_,_,_,hx4.fld 3 rfl,key _ (by unfold many;rw [if_neg c1,if_neg c2,if_pos c10003,q3])⟩,fun c10003=>
   ⟨fun c10004=>⟨_,_,_,hx4.fld 4 rfl,key _ (by unfold many;rw [if_neg c1,if_neg c2,if_neg c10003,if_pos c10004,q4])⟩,fun c10004=>⟨fun c10005=>⟨_,_,_,hx4.fld 5 rfl,key _ (by unfold many;rw [if_neg c1,if_neg c2,if_neg c10003,if_neg c10004,if_pos c10005,q5])⟩,fun c10005=>
   ⟨fun c10006=>⟨_,_,_,hx4.fld 6 rfl,key _ (by unfold many;rw [if_neg c1,if_neg c2,if_neg c10003,if_neg c10004,if_neg c10005,if_pos c10006,q6])⟩,fun c10006=>⟨fun c10007=>⟨_,_,_,hx4.fld 7 rfl,key _ (by unfold many;rw [if_neg c1,if_neg c2,if_neg c10003,if_neg c10004,if_neg c10005,if_neg c10006,if_pos c10007,q7])⟩,fun c10007=>
    key _ (by unfold many;rw [if_neg c1,if_neg c2,if_neg c10003,if_neg c10004,if_neg c10005,if_neg c10006,if_neg c10007])⟩⟩⟩⟩⟩⟩⟩
 ·rw [List.drop_of_length_le (by omega)] at hF
  refine ⟨?_,eb.trans u2⟩
  unfold syR
  rw [<- hF]
  rfl
end
end Go.Proofs.YtdpbdjdgdmheiaaGreat
namespace Go.Proofs.YtdpbdjdgdmheiaaGreat
open Go.Hx
section
variable {h:Heap} {v:CV} {C:Circ}
theorem c93 (r:CIs h v C) (ok:C.Ok):CallsH Tryz.prog 93 #[v.v] h (Xt (.tuple #[.int .i64 (chk C).1,.int .i64 (chk C).2]) h):=by
 obtain ⟨q1,q2,q3,q4,q5,q6,q7,q8,q9,q10⟩:=r.len
 have hmx:=r.mx
 have hnb:=ok.nb
 refine run93 v _ h ?_
 unfold VC93
 intro h1
 have eb:Ext h h1:=Ext.box h _
 have hxb:Rd h1 (some ⟨h.size,0,none⟩) 11 v.cs:=boxC v 29
 obtain ⟨X,hX⟩:∃ X,X=chk C:=⟨_,rfl⟩
 rw [<- hX]
 have bad:∀ {a e:Int} {h':Heap},chk C=(a,e)->Ext h1 h'->Xt (.tuple #[.int .i64 X.1,.int .i64 X.2]) h (.tuple #[.int .i64 a,.int .i64 e]) h':=fun hc e'=>⟨by rw [hX,hc],eb.trans e'⟩
 refine ldC hxb (useX (c131 (r.ext eb) ok) fun h2 e2=>⟨_,rfl,fun hs0=>?_,fun hs0=>bad (by unfold chk;rw [if_pos hs0]) e2⟩)
 obtain ⟨⟨m0,m1⟩,hbig⟩:=sizeE_zero hs0
 have hx2:=hxb.ext e2
 have r2:=r.ext (eb.trans e2)
 refine ldC hx2 ((c132 m0 m1 r2 ok).mono ?_)
 intro w h3 hw
 unfold RPost at hw
 by_cases hd:(defs C).2.1=0
 case neg=>
  rw [if_neg hd] at hw
  obtain ⟨rfl,e3⟩:=hw
  exact ⟨_,_,_,_,_,rfl,fun he=>absurd he hd,fun _=>bad (by unfold chk;rw [if_neg (by rw [hs0];simp),if_pos hd]) (e2.trans e3)⟩
 rw [if_pos hd] at hw
 obtain ⟨da,n,rfl,fd,hBn,hnn⟩:=hw
 refine ⟨_,_,_,_,_,rfl,fun _=>?_,fun he=>absurd rfl he⟩
 have e3:=e2.trans fd.ext
 have hx3:=hxb.ext e3
 have r3:=r.ext (eb.trans e3)
 have drow:DRow h3 C (defs C).2.2 (some da) n:=⟨fd.rd,hBn,hnn⟩
 refine ldC hx3 (useX (c133 (c:=n) drow m0 m1 r3 ok) fun h4 e4'=>⟨_,_,rfl,fun hus=>?_,fun hus=>bad (by unfold chk;rw [if_neg (by rw [hs0];simp),if_neg (by rw [hd];simp),if_pos hus]) (e3.trans e4')⟩)
 have e4:=e3.trans e4'
 have g:=gok_of hs0 hd hus
 have gd:=gd_of m0 hd
 have hchk:chk C=match cyc C (defs C).2.2 with | some i=>((i:Nat),34) | none=>match syF C with | some i=>((i:Nat),35) | none=>match comF C with | some i=>((i:Nat),36) | none=>(0,0):=by
  unfold chk;rw [if_neg (by rw [hs0];simp),if_neg (by rw [hd];simp),if_neg (by rw [hus];simp)]
  rfl
 have hgn:=g.n
 have p3:cyc C (defs C).2.2=none->∀ h5,Ext h1 h5->J93_3 Tryz.prog (Xt (.tuple #[.int .i64 X.1,.int .i64 X.2]) h) h h5:=by
  intro hcy h5 e5
  rw [hcy] at hchk
  simp only at hchk
  refine ldC (hxb.ext e5) (useX (c136 (r.ext (eb.trans e5)) ok) fun h6 e6'=>⟨_,_,rfl,fun hs=>?_,fun hs=>?_⟩)
  ·have e6:=e5.trans e6'
   have hsy:syF C=none:=by
    cases hsy:syF C with
    | none=>rfl
    | some i=>unfold syR at hs;rw [hsy] at hs;simp at hs
   rw [hsy] at hchk
   simp only at hchk
   refine LoopT.to (n:=v.m.n) (by omega) (fun i h'=>Ext h1 h'/\∀ j (hj:j<C.coms.length),j<i->(B C.coms[j]).contains 10=false) ⟨e6,fun j _ hj=>by omega⟩ ?_
   rintro i h7 K hi ⟨e7,hno⟩ hK
   refine ⟨_,_,_,(hxb.ext e7).fld 10 rfl,fun hlt=>?_,fun hlt=>?_⟩
   ·have him:i<C.coms.length:=by omega
    have hsz:=ok.coms _ (List.getElem_mem him)
    have hbl:(B C.coms[i]).length=C.coms[i].size:=rfl
    refine LoopT.to (n:=C.coms[i].size) (by omega) (fun k h'=>Ext h1 h'/\∀ j (hj:j<(B C.coms[i]).length),j<k->(B C.coms[i])[j]≠10) ⟨e7,fun j _ hj=>by omega⟩ ?_
    rintro k h8 K2 hk ⟨e8,hno2⟩ hK2
    have hx8:=hxb.ext e8
    have rm:=r.m.ext (eb.trans e8)
    refine ⟨_,_,_,hx8.fld 10 rfl,by omega,hlt,rm.getn (by omega) fun ad hl1 hc=>⟨_,hc,fun hlt2=>?_,fun hlt2=>?_⟩⟩
    ·have hkb:k<(B C.coms[i]).length:=by have:((k:Nat):Int)<(C.coms[i].size:Nat):=hlt2;omega
     have hbe:=byteAt_eq C.coms[i] (k:Nat) (by omega) (by rw [Int.toNat_natCast];exact hkb)
     refine ⟨_,_,_,hx8.fld 10 rfl,by omega,hlt,rm.getn (by omega) fun ad hl1 hc=>⟨_,hc,by omega,hlt2,fun h10=>?_,fun h10=>?_⟩⟩
     ·have h10':byteAt C.coms[i] (k:Nat)=10:=h10
      rw [hbe] at h10'
      simp only [Int.toNat_natCast] at h10'
      refine bad ?_ e8
      rw [hchk,comF_at him ?_ hno]
      rw [List.contains_iff_exists_mem_beq]
      refine ⟨(B C.coms[i])[k],List.getElem_mem hkb,?_⟩
      rw [beq_iff_eq]
      exact (UInt8.toNat_inj.1 (by show 10=_;omega))
     ·refine hK2 _ (by omega) ⟨e8,fun j hj hjk=>?_⟩
      by_cases hjk2:j=k
      ·subst hjk2
       intro e
       have h10':¬ byteAt C.coms[i] (j:Nat)=10:=h10
       rw [hbe] at h10'
       simp only [Int.toNat_natCast] at h10'
       exact h10' (by rw [e] <;> rfl)
      ·exact hno2 j hj (by omega)
    ·have hlt2':¬ ((k:Nat):Int)<(C.coms[i].size:Nat):=hlt2
     refine hK _ (by omega) ⟨e8,fun j hj hji=>?_⟩
     by_cases hji2:j=i
     ·subst hji2
      cases hcn:(B C.coms[j]).contains 10 with
      | false=>rfl
      | true=>
       rw [List.contains_iff_exists_mem_beq] at hcn
       obtain ⟨b,hb,he⟩:=hcn
       rw [beq_iff_eq] at he
       subst he
       obtain ⟨q,hq,hq2⟩:=List.getElem_of_mem hb
       exact absurd hq2 (hno2 q hq (by omega))
     ·exact hno j hj (by omega)
   ·have hcn:=comF_none fun j hj=>hno j hj (by omega)
    rw [hcn] at hchk
    exact bad hchk e7
  ·have e6:=e5.trans e6'
   cases hsy:syF C with
   | none=>unfold syR at hs;rw [hsy] at hs;simp at hs
   | some i=>
    rw [hsy] at hchk
    have:syR C=(((i:Nat):Int),(35:Int)):=by unfold syR;rw [hsy]
    rw [this]
    exact bad hchk e6
 have hx4:=hxb.ext e4
 have r4:=r.ext (eb.trans e4)
 have hbl:∀ k,(Addr.add ⟨h.size,0,none⟩ k).block<h4.size:=fun k=>cellH_lt (by
  have:=hx4.fld 0 (v:=.int .i64 v.mx) rfl
  rw [cellH_congr (a:=Addr.add ⟨h.size,0,none⟩ 0) rfl] at this
  exact this) |> fun h=>by rw [add_block] at h ⊢;exact h
 refine ⟨by have:=hbl 0;rwa [add_block] at this,ldC hx4 ((c128 r4 ok gd g).mono ?_)⟩
 rintro _ h5 ⟨out,oa,oc,t,rfl,fo⟩
 refine ⟨_,_,_,rfl,fun b hb=>fo.ext.2 b hb fun x=>x,hbl 8,_,_,_,(hx4.ext fo.ext).fld 8 rfl,fun hlt=>?_,fun hlt=>?_⟩
 ·have hx5:=hx4.ext fo.ext
  have r5:=r4.ext fo.ext
  refine ldC hx5 ((c134 r5 ok m0 m1 gd).mono ?_)
  rintro _ h6 ⟨ga,gn,gc,rfl,fg⟩
  have e6:=(e4.trans fo.ext).trans fg.ext
  refine ⟨_,_,_,rfl,LoopT.to (n:=v.g.n) (by omega) (fun i h'=>Ext h6 h'/\∀ j,j<i->¬ Rnd C (defs C).2.2 j) ⟨.refl _,fun j hj=>by omega⟩ ?_⟩
  rintro i h7 K hi ⟨e7,hno⟩ hK
  have e17:=e6.trans e7
  refine ⟨_,_,_,(hxb.ext e17).fld 8 rfl,fun hlt2=>?_,fun hlt2=>?_⟩
  ·have hig:i<C.ands.length:=by omega
   refine ldC (hxb.ext e17) ((c135 (gc:=gc) (r.ext (eb.trans e17)) g (fg.rd.ext e7) hig).mono ?_)
   rintro _ h8 ⟨e8,⟨rfl,hr⟩ | ⟨rfl,hr⟩⟩
   ·refine ⟨true,rfl,BIf.t (bad ?_ (e17.trans e8))⟩
    rw [hchk,cyc_some hig hr hno]
   ·refine ⟨false,rfl,BIf.f (hK _ (by omega) ⟨e7.trans e8,fun j hj=>?_⟩)⟩
    by_cases hji:j=i
    ·subst hji;exact hr
    ·exact hno j (by omega)
  ·exact p3 (cyc_none fun j hj=>hno j (by omega)) _ e17
 ·have hlen:out.length=C.ands.length:=by
   have:=nodup_len _ out t.nd t.lt
   omega
  exact p3 (cyc_none fun j hj=>t.none hlen hj) _ (e4.trans fo.ext)
end
end Go.Proofs.YtdpbdjdgdmheiaaGreat
