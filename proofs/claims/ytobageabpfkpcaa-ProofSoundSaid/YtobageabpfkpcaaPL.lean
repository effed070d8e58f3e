/- Words and facts that the claim's proof leans on. No condition. -/
import Derived.Test.YtobageabpfkpcaaPG
import Derived.Test.YtobageabpfkpcaaCAp
import Derived.Test.YtobageabpfkpcaaFI
import Derived.Test.YtobageabpfkpcaaGK
import Derived.Test.YtobageabpfkpcaaCAq
import Derived.Test.YtobageabpfkpcaaHxV
import Derived.Test.YtobageabpfkpcaaHxK
import Derived.Test.YtobageabpfkpcaaRows
set_option linter.unusedVariables false
set_option linter.unusedSimpArgs false
set_option maxRecDepth 100000
namespace Go.Hx
open Go.Proofs.Ytobageabpfkpcaa
def exF:Fm:=⟨2,[[1,2],[1,-2],[-1,2],[-1,-2]]⟩
def exG:Fm:=⟨2,[[1,2],[1,-2],[-1,2],[-1,-2],[1]]⟩
theorem ex_1:folR exF []=0:=by kernel_rfl
theorem ex_2:folR exF [1]=1:=by kernel_rfl
theorem ex_3:folR exG []=1:=by kernel_rfl
theorem ex_chk:(chkF exF).2=0:=by kernel_rfl
theorem stp0 {L:List (Bool×List Int)} {F F1:Fm} (s:Stp L 0 F F1):F1=F:=by cases s;rfl
theorem ex_w1 {d:Bool} {a e:Int} (w:WalkR exF [(false,[])] d a e):a=0/\e=180:=by
 unfold WalkR at w
 rw [if_neg (by simp [ex_chk]),if_neg (by simp;kernel_rfl)] at w
 rcases w with ⟨i,F1,F2,x,e',hx,hs,hd,ho⟩ | ⟨F1,hs,_⟩
 ·cases i with
  | succ i=>simp at hx
  | zero=>
   obtain rfl:=stp0 hs
   simp only [List.getElem?_cons_zero,Option.some.injEq] at hx
   subst hx
   obtain ⟨rfl,_⟩:=(hd.2 rfl).1 ex_1
   rcases ho with ⟨_,_,h1,h2⟩ | ⟨h,_⟩
   ·exact ⟨h1,h2⟩
   ·cases h
 ·cases hs with
  | snoc hs hx hd hne=>
   simp only [List.length_nil,List.getElem?_cons_zero,Option.some.injEq] at hx
   exact absurd hx.symm hne
theorem ex_w2 {d:Bool} {a e:Int} (w:WalkR exF [(false,[1]),(false,[])] d a e):d=true/\a=1/\e=0:=by
 unfold WalkR at w
 rw [if_neg (by simp [ex_chk]),if_neg (by simp;kernel_rfl)] at w
 have h2:¬ folR exF [1]=0:=by rw [ex_2];decide
 rcases w with ⟨i,F1,F2,x,e',hx,hs,hd,ho⟩ | ⟨F1,hs,_⟩
 ·match i,hx,hs with
  | 0,hx,hs=>
   obtain rfl:=stp0 hs
   simp only [List.getElem?_cons_zero,Option.some.injEq] at hx
   subst hx
   obtain ⟨rfl,_⟩:=(hd.2 rfl).2 h2
   rcases ho with ⟨h,_⟩ | ⟨_,h,_⟩
   ·exact absurd rfl h
   ·cases h
  | 1,hx,hs=>
   simp only [List.getElem?_cons_succ,List.getElem?_cons_zero,Option.some.injEq] at hx
   subst hx
   cases hs with
   | snoc hs hx0 hd0 hne=>
    obtain rfl:=stp0 hs
    simp only [List.getElem?_cons_zero,Option.some.injEq] at hx0
    subst hx0
    obtain ⟨_,rfl⟩:=(hd0.2 rfl).2 h2
    have h3:¬ folR ⟨gr exF.vars [1],exF.cls++[[1]]⟩ []=0:=by
     have:(⟨gr exF.vars [1],exF.cls++[[1]]⟩:Fm)=exG:=by kernel_rfl
     rw [this,ex_3];decide
    obtain ⟨rfl,_⟩:=(hd.2 rfl).2 h3
    rcases ho with ⟨h,_⟩ | ⟨_,_,g1,g2,g3⟩
    ·exact absurd rfl h
    ·exact ⟨g1,g2,g3⟩
  | i+2,hx,_=>simp at hx
 ·cases hs with
  | snoc hs hx hd hne=>
   simp at hx
   exact absurd hx.symm hne
end Go.Hx
namespace Go.Proofs.Ytobageabpfkpcaa
open Go.Hx Go.RowKit
theorem c14 {h:Heap} {v:FV} {F:Fm} (r:FIs h v F) (ok:F.Ok) {la:Option Addr} {ln lc:Nat} {L:List (Bool×List Int)} (rl:RdLs h la ln L) (hln:ln<9223372036854775807) (hLl:∀ x∈L,x.2.length<9223372036854775807) :
  CallsH Try.prog 14 #[v.v,.slice la ln lc] h fun o h'=>∃ (done:Bool) (at' e:Int),o=.tuple #[.bool done,.int .i64 at',.int .i64 e]/\WalkR F L done at' e/\Ext h h':=by
 refine run14 v.n v.s.a v.s.n v.s.c la ln lc _ h ?_
 unfold VC14
 intro h1
 have e1:Ext h h1:=Ext.box h _
 have hb:Rd h1 (some ⟨h.size,0,none⟩) 2 v.cs:=boxF v 24
 refine ldF hb ((c27 (v:=v) (r.ext e1) ok (rl.ext e1) hln hLl).mono ?_)
 rintro _ h2 ⟨sp,done,at',e,rfl,hw,e2⟩
 exact ⟨sp,done,at',e,rfl,done,at',e,rfl,hw,e1.trans e2⟩
theorem lit1 {h0 h:Heap} (u:Ext h0 h) (l:List Int) (n:Nat) (hn:l.length=n):Fr h0 1 (h.push (.cells (ints l).toArray 3)) (some ⟨h.size,0,none⟩) n n (ints l):=Fr.lit u (ints l) 3 n (by simp [ints,hn])
theorem c12 {h:Heap}:CallsH Try.prog 12 #[] h (Xt (.bool true) h):=by
 refine run12 _ h ?_
 unfold VC12
 intro h1 h2 h3 h4 h5 h6
 have m1:=(Mem.nil (h0:=h) (.refl h)).add (t:=⟨1,some ⟨h.size,0,none⟩,2,2,ints [1,2]⟩) (lit1 (.refl h) [1,2] 2 rfl)
 have m2:=m1.add (t:=⟨1,some ⟨h1.size,0,none⟩,2,2,ints [1,-2]⟩) (lit1 (.refl h1) [1,-2] 2 rfl)
 have m3:=m2.add (t:=⟨1,some ⟨h2.size,0,none⟩,2,2,ints [-1,2]⟩) (lit1 (.refl h2) [-1,2] 2 rfl)
 have m4:=m3.add (t:=⟨1,some ⟨h3.size,0,none⟩,2,2,ints [-1,-2]⟩) (lit1 (.refl h3) [-1,-2] 2 rfl)
 let R:List Rw:=[⟨some ⟨h.size,0,none⟩,2,2,[1,2]⟩,⟨some ⟨h1.size,0,none⟩,2,2,[1,-2]⟩,⟨some ⟨h2.size,0,none⟩,2,2,[-1,2]⟩,⟨some ⟨h3.size,0,none⟩,2,2,[-1,-2]⟩]
 have m5:=m4.add (t:=⟨1,some ⟨h4.size,0,none⟩,4,4,R.map Rw.v⟩) (Fr.lit (.refl h4) (R.map Rw.v) 26 4 rfl)
 have m6:=m5.add (t:=⟨1,some ⟨h5.size,0,none⟩,2,2,[.int .i64 0,.slice none 0 0]⟩) (Fr.lit (.refl h5) [.int .i64 0,.slice none 0 0] 24 2 rfl)
 let v:FV:=⟨2,⟨some ⟨h4.size,0,none⟩,4,4⟩⟩
 refine (m6.get 0 rfl).put (ws:=v.cs) rfl (by simp [v,FV.cs,Value.oneCell']) fun h7 f7 u7=>?_
 have m7:=m6.setAt 0 (t':=⟨1,some ⟨h5.size,0,none⟩,2,2,v.cs⟩) rfl f7 u7 (.inl rfl)
 have fis:FIs h7 v exF:=⟨rfl,⟨R,(m7.get 1 rfl).rd,fun s hs=>by
  simp only [R,List.mem_cons,List.not_mem_nil,or_false] at hs
  rcases hs with rfl | rfl | rfl | rfl
  ·exact ⟨(m7.get 5 rfl).rd,Nat.le_refl _⟩
  ·exact ⟨(m7.get 4 rfl).rd,Nat.le_refl _⟩
  ·exact ⟨(m7.get 3 rfl).rd,Nat.le_refl _⟩
  ·exact ⟨(m7.get 2 rfl).rd,Nat.le_refl _⟩,rfl⟩⟩
 have ok:exF.Ok:=⟨by decide,by decide,by decide,by decide,by decide⟩
 refine ldF (v:=v) f7.rd ?_
 intro h8
 have e78:Ext h7 h8:=Ext.push h7 _
 have l8:RdLs h8 (some ⟨h7.size,0,none⟩) 1 [(false,[])]:=⟨[⟨false,⟨none,0,0,[]⟩⟩],(Fr.lit (.refl h7) [.bool false,.slice none 0 0] 39 2 rfl).rd,by
  intro s hs;rw [List.mem_singleton] at hs;subst hs;exact ⟨Rd.nil,Nat.le_refl _⟩,rfl⟩
 refine (c14 (v:=v) (fis.ext e78) ok l8 (by decide) (by decide)).mono ?_
 rintro _ h9 ⟨d1,a1,x1,rfl,w1,e89⟩
 obtain ⟨rfl,rfl⟩:=ex_w1 w1
 refine ⟨d1,_,_,rfl,ldF (v:=v) (f7.rd.ext (e78.trans e89)) ?_⟩
 intro h10 h11
 have e10:Ext h9 h10:=Ext.push h9 _
 have e11:Ext h10 h11:=Ext.push h10 _
 have l11:RdLs h11 (some ⟨h10.size,0,none⟩) 2 [(false,[1]),(false,[])]:=⟨[⟨false,⟨some ⟨h9.size,0,none⟩,1,1,[1]⟩⟩,⟨false,⟨none,0,0,[]⟩⟩],(Fr.lit (.refl h10) [.bool false,.slice (some ⟨h9.size,0,none⟩) 1 1,.bool false,.slice none 0 0] 39 4 rfl).rd,by
  intro s hs
  simp only [List.mem_cons,List.not_mem_nil,or_false] at hs
  rcases hs with rfl | rfl
  ·exact ⟨(lit1 (.refl h9) [1] 1 rfl).rd.ext e11,Nat.le_refl _⟩
  ·exact ⟨Rd.nil,Nat.le_refl _⟩,rfl⟩
 refine (c14 (v:=v) (fis.ext (e78.trans (e89.trans (e10.trans e11)))) ok l11 (by decide) (by decide)).mono ?_
 rintro _ h12 ⟨d2,a2,x2,rfl,w2,e12⟩
 obtain ⟨rfl,rfl,rfl⟩:=ex_w2 w2
 have e:Ext h h12:=m7.ext.trans (e78.trans (e89.trans (e10.trans (e11.trans e12))))
 exact ⟨true,_,_,rfl,fun _=>⟨fun _=>BIf.t ⟨fun _=>⟨fun _=>⟨rfl,e⟩,fun hn=>absurd rfl hn⟩,fun hn=>absurd rfl hn⟩,fun hn=>absurd rfl hn⟩,fun hn=>absurd rfl hn⟩
end Go.Proofs.Ytobageabpfkpcaa
set_option maxRecDepth 100000
namespace Go.Hx
def satF (m:List Bool) (F:Fm):Prop:=∀ D∈F.cls,clsB m D=true
structure Ok2 (F:Fm):Prop where
 v0:0≤F.vars
 v1:F.vars≤262144
 l:∀ D∈F.cls,D.length≤16384/\∀ x∈D,x≠0 /\-F.vars≤x/\x≤F.vars
theorem ok2_of {F:Fm} (h:(chkF F).2=0):Ok2 F/\F.cls.length≤524288:=by
 obtain ⟨a,b,c,d⟩:=chkF_ok h
 exact ⟨⟨a,b,d⟩,c⟩
def OkC (c:List Int):Prop:=∀ x∈c,x≠0 /\-262144≤x/\x≤262144
theorem okC_of {c:List Int} (h:litE 262144 c=0):c.length≤16384/\OkC c:=by
 obtain ⟨a,b⟩:=litE_0 h
 exact ⟨a,b⟩
theorem gr_in {F:Fm} {c:List Int} (ok:Ok2 F) (hc:OkC c):0≤gr F.vars c/\gr F.vars c≤262144/\F.vars≤gr F.vars c/\∀ x∈c,-gr F.vars c≤x/\x≤gr F.vars c:=by
 obtain ⟨h1,h2⟩:=gr_ge c F.vars
 have h3:gr F.vars c≤262144:=gr_le c F.vars 262144 ok.v1 fun x hx=>by have:=hc x hx;omega
 have:=ok.v0
 exact ⟨by omega,h3,h1,fun x hx=>by have:=h2 x hx;omega⟩
theorem mem_negs {c:List Int} {y:Int} (h:y∈negs c):∃ x∈c,y = -x:=by
 obtain ⟨x,hx,rfl⟩:=List.mem_map.1 h
 exact ⟨x,hx,rfl⟩
theorem mem_singles {c D:List Int} (h:D∈singles c):∃ x∈c,D=[x]:=by
 obtain ⟨x,hx,rfl⟩:=List.mem_map.1 h
 exact ⟨x,hx,rfl⟩
theorem prop_sound {F:Fm} {c:List Int} (ok:Ok2 F) (hc:OkC c) (hn:F.cls.length+c.length≤524288) (hp:propB F c=true) {m:List Bool} (hm:satF m F):clsB m c=true:=by
 cases hcl:clsB m c with
 | true=>rfl
 | false=>
  exfalso
  obtain ⟨g0,g1,g2,g3⟩:=gr_in ok hc
  have hneg:∀ y∈negs c,y≠0/\litB m y=true:=fun y hy=>by
   obtain ⟨x,hx,rfl⟩:=mem_negs hy
   refine ⟨by have:=(hc x hx).1;omega,?_⟩
   rw [litB_neg (hc x hx).1]
   have:litB m x=false:=by
    cases h:litB m x with
    | false=>rfl
    | true=>
     have:clsB m c=true:=List.any_eq_true.2 ⟨x,hx,h⟩
     rw [hcl] at this;cases this
   rw [this];rfl
  have hgn:∀ y∈negs c,y≠0 /\-gr F.vars c≤y/\y≤gr F.vars c:=fun y hy=>by
   obtain ⟨x,hx,rfl⟩:=mem_negs hy
   have:=g3 x hx
   have:=(hc x hx).1
   omega
  have hcls:∀ D∈F.cls,D.length≤16384/\∀ x∈D,x≠0 /\-gr F.vars c≤x/\x≤gr F.vars c:=fun D hD=>⟨(ok.l D hD).1,fun x hx=>by have:=(ok.l D hD).2 x hx;omega⟩
  have hfr:frcB ⟨gr F.vars c,F.cls⟩ (negs c)=true:=by
   unfold frcB
   by_cases hl:(negs c).length≤16384
   ·rw [if_pos hl]
    obtain ⟨T,hT,_⟩:=forceT_true (m:=m) (F:=⟨gr F.vars c,F.cls⟩) (lits:=negs c) (fun D hD=>⟨hm D hD,fun y hy=>((ok.l D hD).2 y hy).1⟩) hneg
    have he:frcE ⟨gr F.vars c,F.cls⟩ (negs c)=0:=by
     unfold frcE
     rw [chkF_of (F:=⟨gr F.vars c,F.cls⟩) g0 g1 (by show F.cls.length≤_;omega) hcls]
     rw [if_neg (by simp)]
     exact litE_of hl hgn
    unfold frcR
    rw [if_neg (by simp [he]),hT]
   ·rw [if_neg hl]
    let G:Fm:=⟨gr F.vars c,F.cls++singles (negs c)⟩
    have hG:∀ D∈G.cls,(D.length≤16384/\∀ x∈D,x≠0 /\-gr F.vars c≤x/\x≤gr F.vars c)/\clsB m D=true:=fun D hD=>by
     rcases List.mem_append.1 hD with hD | hD
     ·exact ⟨hcls D hD,hm D hD⟩
     ·obtain ⟨y,hy,rfl⟩:=mem_singles hD
      refine ⟨⟨by simp,fun x hx=>?_⟩,List.any_eq_true.2 ⟨y,by simp,(hneg y hy).2⟩⟩
      rw [List.mem_singleton] at hx;subst hx;exact hgn _ hy
    obtain ⟨T,hT,_⟩:=forceT_true (m:=m) (F:=G) (lits:=[]) (fun D hD=>⟨(hG D hD).2,fun y hy=>((hG D hD).1.2 y hy).1⟩) (by simp)
    have he:frcE G []=0:=by
     unfold frcE
     rw [chkF_of (F:=G) g0 g1 (by show (F.cls++singles (negs c)).length≤_;simp [singles,negs];omega) (fun D hD=>(hG D hD).1)]
     rw [if_neg (by simp)]
     exact litE_of (by simp) (by simp)
    show (frcR G []).2.1=true
    unfold frcR
    rw [if_neg (by simp [he]),hT]
  unfold propB at hp
  rw [hfr] at hp
  cases hp
def flip (m:List Bool) (x:Int):List Bool:=(m++List.replicate x.natAbs false).set (x.natAbs-1) (decide (0<x))
theorem flip_x {m:List Bool} {x:Int} (h:x≠0):litB (flip m x) x=true:=by
 unfold litB flip
 rw [List.getD_eq_getElem?_getD,List.getElem?_set_self (by simp;omega)]
 simp
theorem flip_other {m:List Bool} {x y:Int} (h:x≠0) (hy:y≠0) (h1:y≠x) (h2:y ≠ -x):litB (flip m x) y=litB m y:=by
 unfold litB flip
 congr 1
 rw [List.getD_eq_getElem?_getD,List.getD_eq_getElem?_getD,List.getElem?_set_ne (by omega)]
 by_cases hl:y.natAbs-1<m.length
 ·rw [List.getElem?_append_left hl]
 ·rw [List.getElem?_append_right (by omega),List.getElem?_eq_none (by omega:m.length≤y.natAbs-1),List.getElem?_replicate]
  split <;> rfl
theorem first_sound {F:Fm} {c:List Int} (ok:Ok2 F) (hc:OkC c) (hl:c.length≤16384) (hn:F.cls.length≤400000) (hp:firB F c=true) {m:List Bool} (hm:satF m F):∃ m',satF m' F/\clsB m' c=true:=by
 cases hcl:clsB m c with
 | true=>exact ⟨m,hm,hcl⟩
 | false=>
  cases c with
  | nil=>unfold firB at hp;cases hp
  | cons x r=>
   have hx:=(hc x (by simp)).1
   have hnot:∀ y∈x::r,litB m y=false:=fun y hy=>by
    cases h:litB m y with
    | false=>rfl
    | true=>
     have:clsB m (x::r)=true:=List.any_eq_true.2 ⟨y,hy,h⟩
     rw [hcl] at this;cases this
   refine ⟨flip m x,fun D hD=>?_,List.any_eq_true.2 ⟨x,by simp,flip_x hx⟩⟩
   have key:∀ y∈D,y ≠ -x->litB m y=true->clsB (flip m x) D=true:=fun y hy hne hyt=>by
    refine List.any_eq_true.2 ⟨y,hy,?_⟩
    by_cases hyx:y=x
    ·subst hyx;exact flip_x hx
    ·rw [flip_other hx ((ok.l D hD).2 y hy).1 hyx hne];exact hyt
   obtain ⟨y,hy,hyt⟩:=List.any_eq_true.1 (hm D hD)
   by_cases hne:y = -x
   ·subst hne
    have hq:=List.all_eq_true.1 hp D hD
    rw [decide_eq_true hy] at hq
    simp only [Bool.not_true,Bool.false_or] at hq
    have hfl:=List.length_filter_le (fun y=>!decide (y = -x)) D
    have hDl:=(ok.l D hD).1
    have hb:=prop_sound ok (c:=(x::r)++D.filter fun y=>!decide (y = -x)) (fun z hz=>by
     rcases List.mem_append.1 hz with hz | hz
     ·exact hc z hz
     ·have:=(ok.l D hD).2 z (List.mem_filter.1 hz).1
      have:=ok.v1
      omega) (by rw [List.length_append];omega) hq hm
    obtain ⟨z,hz,hzt⟩:=List.any_eq_true.1 hb
    rcases List.mem_append.1 hz with hz | hz
    ·rw [hnot z hz] at hzt;cases hzt
    ·obtain ⟨hzD,hzn⟩:=List.mem_filter.1 hz
     exact key z hzD (by simpa using hzn) hzt
   ·exact key y hy hne hyt
theorem fol_sound {F:Fm} {c:List Int} (ok:Ok2 F) (hc:OkC c) (hl:c.length≤16384) (hn:F.cls.length≤400000) (hp:folR F c≠0) {m:List Bool} (hm:satF m F):∃ m',satF m' F/\clsB m' c=true:=by
 unfold folR at hp
 by_cases h1:propB F c=true
 ·exact ⟨m,hm,prop_sound ok hc (by omega) h1 hm⟩
 ·rw [if_neg h1] at hp
  by_cases h2:firB F c=true
  ·exact first_sound ok hc hl hn h2 hm
  ·rw [if_neg h2] at hp;exact absurd rfl hp
theorem do_ok2 {F F':Fm} {x:Bool×List Int} (ok:Ok2 F) (hx:litE 262144 x.2=0) (d:DoR F x 0 F'):Ok2 F'/\F'.cls.length≤F.cls.length+1:=by
 obtain ⟨x1,x2⟩:=okC_of hx
 cases hg:x.1 with
 | true=>
  rcases d.1 hg with ⟨_,hv,i,hi⟩ | ⟨h,_⟩
  ·refine ⟨⟨by rw [hv];exact ok.v0,by rw [hv];exact ok.v1,fun D hD=>?_⟩,by rw [hi];have:=List.length_eraseIdx_le (l:=F.cls) (i:=i);omega⟩
   rw [hi] at hD
   rw [hv]
   exact ok.l D (List.mem_of_mem_eraseIdx hD)
  ·exact absurd rfl h
 | false=>
  obtain ⟨d1,d2⟩:=d.2 hg
  by_cases h0:folR F x.2=0
  ·obtain ⟨h,_⟩:=d1 h0;cases h
  ·obtain ⟨_,rfl⟩:=d2 h0
   obtain ⟨g0,g1,g2,g3⟩:=gr_in ok x2
   refine ⟨⟨g0,g1,fun D hD=>?_⟩,by simp⟩
   rcases List.mem_append.1 hD with hD | hD
   ·exact ⟨(ok.l D hD).1,fun y hy=>by have:=(ok.l D hD).2 y hy;show _ /\-gr F.vars x.2≤y/\y≤gr F.vars x.2;omega⟩
   ·rw [List.mem_singleton] at hD;subst hD
    exact ⟨x1,fun y hy=>⟨(x2 y hy).1,g3 y hy⟩⟩
theorem do_sound {F F':Fm} {x:Bool×List Int} (ok:Ok2 F) (hx:litE 262144 x.2=0) (hn:F.cls.length≤400000) (d:DoR F x 0 F') (hs:∃ m,satF m F):∃ m,satF m F':=by
 obtain ⟨m,hm⟩:=hs
 obtain ⟨x1,x2⟩:=okC_of hx
 cases hg:x.1 with
 | true=>
  rcases d.1 hg with ⟨_,hv,i,hi⟩ | ⟨h,_⟩
  ·exact ⟨m,fun D hD=>hm D (by rw [hi] at hD;exact List.mem_of_mem_eraseIdx hD)⟩
  ·exact absurd rfl h
 | false=>
  obtain ⟨d1,d2⟩:=d.2 hg
  by_cases h0:folR F x.2=0
  ·obtain ⟨h,_⟩:=d1 h0;cases h
  ·obtain ⟨_,rfl⟩:=d2 h0
   obtain ⟨m',h1,h2⟩:=fol_sound ok x2 x1 hn h0 hm
   refine ⟨m',fun D hD=>?_⟩
   rcases List.mem_append.1 hD with hD | hD
   ·exact h1 D hD
   ·rw [List.mem_singleton] at hD;subst hD;exact h2
end Go.Hx
namespace Go.Proofs.Ytobageabpfkpcaa
open Go.Hx
theorem stp_sound {L:List (Bool×List Int)} {F F1:Fm} (hL:∀ x∈L,litE 262144 x.2=0) (ok:Ok2 F) (hn:F.cls.length≤300000):∀ {k:Nat},Stp L k F F1->k≤100000->Ok2 F1/\F1.cls.length≤F.cls.length+k/\((∃ m,satF m F)->∃ m,satF m F1):=by
 intro k s
 induction s with
 | nil F=>exact fun _=>⟨ok,by omega,fun h=>h⟩
 | snoc s hx hd hne ih=>
  intro hk
  obtain ⟨a,b,c⟩:=ih ok hn (by omega)
  have hl:=hL _ (List.mem_of_getElem? hx)
  obtain ⟨d,e⟩:=do_ok2 a hl hd
  exact ⟨d,by omega,fun h=>do_sound a hl (by omega) hd (c h)⟩
theorem walk_sound {L:List (Bool×List Int)} {F:Fm} {at' e:Int} (w:WalkR F L true at' e) (hn:F.cls.length≤300000):¬ ∃ m,satF m F:=by
 unfold WalkR at w
 by_cases hz:(chkF F).2≠0
 ·rw [if_pos hz] at w;cases w.1
 rw [if_neg hz] at w
 by_cases hz2:lnsE L≠0
 ·rw [if_pos hz2] at w;cases w.1
 rw [if_neg hz2] at w
 have hz':(chkF F).2=0:=by omega
 have hz2':lnsE L=0:=by omega
 have hL1:L.length≤16384:=by unfold lnsE at hz2';split at hz2' <;> omega
 have hL2:lnsF L=0:=by unfold lnsE at hz2';rw [if_neg (by omega)] at hz2';exact hz2'
 rcases w with ⟨i,F1,F2,x,e',hx,hs,hd,⟨_,h,_⟩ | ⟨rfl,rfl,_⟩⟩ | ⟨_,_,h,_⟩
 ·cases h
 ·intro hsat
  have hi:=(List.getElem?_eq_some_iff.1 hx).1
  obtain ⟨a,b,c⟩:=stp_sound (fun x hx=>lnsF_ok hL2 x hx) (ok2_of hz').1 hn hs (by omega)
  obtain ⟨m,hm⟩:=c hsat
  obtain ⟨d1,d2⟩:=hd.2 rfl
  by_cases h0:folR F1 []=0
  ·obtain ⟨h,_⟩:=d1 h0;cases h
  ·obtain ⟨m',_,h2⟩:=fol_sound a (c:=[]) (by intro x hx;cases hx) (by simp) (by omega) h0 hm
   cases h2
 ·cases h
end Go.Proofs.Ytobageabpfkpcaa
set_option maxRecDepth 100000
namespace Go.Hx
def folE (F:Fm) (c:List Int):Int×Int:=if (chkF F).2≠0 then (0,(chkF F).2) else if litE 262144 c≠0 then (0,litE 262144 c) else (folR F c,0)
theorem goodM_iff {F:Fm} {n:Nat}:goodM F n=true↔satF (modB F.vars.toNat n) F:=by
 unfold goodM
 rw [decide_eq_true_eq]
 exact firL_neg (by omega)
theorem many_eq {F G:Fm} (hv:F.vars=G.vars) (h:∀ m,satF m F↔satF m G) (k:Nat):manyM F k=manyM G k:=by
 unfold manyM
 have:goodM F=goodM G:=by
  funext n
  have h1:=goodM_iff (F:=F) (n:=n)
  have h2:=goodM_iff (F:=G) (n:=n)
  rw [hv] at h1
  have h3:=h (modB G.vars.toNat n)
  cases h4:goodM F n <;> cases h5:goodM G n <;> simp_all
 rw [this]
theorem litB_pad {m:List Bool} {k:Nat} (x:Int):litB (m++List.replicate k false) x=litB m x:=by
 unfold litB
 congr 1
 rw [List.getD_eq_getElem?_getD,List.getD_eq_getElem?_getD]
 by_cases hl:x.natAbs-1<m.length
 ·rw [List.getElem?_append_left hl]
 ·rw [List.getElem?_append_right (by omega),List.getElem?_eq_none (by omega:m.length≤x.natAbs-1),List.getElem?_replicate]
  split <;> rfl
theorem clsB_pad {m:List Bool} {k:Nat} (c:List Int):clsB (m++List.replicate k false) c=clsB m c:=by
 unfold clsB
 induction c with
 | nil=>rfl
 | cons x r ih=>rw [List.any_cons,List.any_cons,litB_pad,ih]
theorem many_pos {F:Fm} (ok:Ok2 F):0<manyM F (2 ^ F.vars.toNat)↔∃ m,satF m F:=by
 unfold manyM
 rw [List.countP_pos_iff]
 constructor
 ·rintro ⟨n,_,hn⟩
  exact ⟨_,goodM_iff.1 hn⟩
 ·rintro ⟨m,hm⟩
  have hv:=ok.v0
  let m':=(m++List.replicate F.vars.toNat false).take F.vars.toNat
  have hl:m'.length=F.vars.toNat:=by simp only [m',List.length_take,List.length_append,List.length_replicate];omega
  obtain ⟨n,hn,he⟩:=modB_all m'
  rw [hl] at hn he
  refine ⟨n,List.mem_range.2 hn,goodM_iff.2 ?_⟩
  rw [he]
  intro D hD
  have:clsB m' D=clsB (m++List.replicate F.vars.toNat false) D:=clsB_take fun x hx=>by have:=(ok.l D hD).2 x hx;omega
  rw [this,clsB_pad]
  exact hm D hD
end Go.Hx
namespace Go.Proofs.Ytobageabpfkpcaa
open Go.Hx Go.RowKit
section
variable {h:Heap} {v:FV} {F:Fm} {a:Option Addr} {n c':Nat} {c:List Int}
theorem c8 (r:FIs h v F) (ok:F.Ok) (rl:Rd h a n (ints c)) (hn:n<9223372036854775807):CallsH Try.prog 8 #[v.v,.slice a n c'] h (Xt (.tuple #[.int .i64 (folE F c).1,.int .i64 (folE F c).2]) h):=by
 have hcl:=rl.ilen
 refine run8 v.n v.s.a v.s.n v.s.c a n c' _ h ?_
 unfold VC8
 intro h1
 have e1:Ext h h1:=Ext.box h _
 have hb:Rd h1 (some ⟨h.size,0,none⟩) 2 v.cs:=boxF v 24
 refine ldF hb (useX (c17 (r.ext e1) ok) fun h2 e2=>⟨_,_,rfl,fun hz=>?_,fun hz=>?_⟩)
 ·unfold J8_0
  have e12:=e1.trans e2
  refine use (c18 (rl.ext e12) hn) ⟨_,rfl,fun hl=>?_,fun hl=>?_⟩
  ·unfold J8_1
   refine ldF (hb.ext e2) ?_
   intro h3
   have e3:Ext h2 h3:=Ext.push h2 _
   have hs:Rd h3 (some ⟨h2.size,0,none⟩) 2 v.cs:=boxF v 49
   obtain ⟨p0,p1,p2,p3⟩:=chkF_ok hz
   obtain ⟨q0,q1⟩:=litE_0 hl
   have e13:=e12.trans e3
   refine useX (c19 hs (r.ext e13) ok (by omega) (by omega) (fun D hD=>⟨by have:=(p3 D hD).1;omega,fun x hx=>by have:=(p3 D hD).2 x hx;omega⟩) (rl.ext e13) (by omega) (fun x hx=>by have:=q1 x hx;omega)) fun h4 e4=>⟨_,rfl,?_,e13.trans e4⟩
   unfold folE
   rw [if_neg (by simp [hz]),if_neg (by simp [hl])]
  ·refine ⟨?_,e12⟩
   unfold folE
   rw [if_neg (by simp [hz]),if_pos hl]
 ·refine ⟨?_,e1.trans e2⟩
  unfold folE
  rw [if_pos hz]
end
end Go.Proofs.Ytobageabpfkpcaa
set_option maxRecDepth 100000
namespace Go.Hx
theorem gr_step {n:Int} {c:List Int} {i:Nat} (hi:i<c.length):gr n (c.take (i+1))=max (max (gr n (c.take i)) c[i]) (-c[i]):=by
 rw [List.take_succ_eq_append_getElem hi,gr_app];rfl
theorem folR_cases (F:Fm) (c:List Int):(folR F c=1/\propB F c=true)∨(folR F c=2/\firB F c=true)∨folR F c=0:=by
 unfold folR
 by_cases h1:propB F c=true
 ·rw [if_pos h1];exact .inl ⟨rfl,h1⟩
 ·rw [if_neg h1]
  by_cases h2:firB F c=true
  ·rw [if_pos h2];exact .inr (.inl ⟨rfl,h2⟩)
  ·rw [if_neg h2];exact .inr (.inr rfl)
def withC (F:Fm) (c:List Int):Fm:=⟨gr F.vars c,F.cls++[c]⟩
def wideF (F:Fm) (c:List Int):Fm:=⟨gr F.vars c,F.cls⟩
theorem sat_with {m:List Bool} {F:Fm} {c:List Int}:satF m (withC F c)↔satF m (wideF F c)/\clsB m c=true:=by
 unfold satF withC wideF
 constructor
 ·intro h;exact ⟨fun D hD=>h D (List.mem_append.2 (.inl hD)),h c (by simp)⟩
 ·rintro ⟨h1,h2⟩ D hD
  rcases List.mem_append.1 hD with hD | hD
  ·exact h1 D hD
  ·rw [List.mem_singleton] at hD;subst hD;exact h2
theorem ok2_wide {F:Fm} {c:List Int} (ok:Ok2 F) (hc:OkC c):Ok2 (wideF F c):=by
 obtain ⟨g0,g1,g2,g3⟩:=gr_in ok hc
 exact ⟨g0,g1,fun D hD=>⟨(ok.l D hD).1,fun x hx=>by have:=(ok.l D hD).2 x hx;show _ /\-gr F.vars c≤x/\x≤gr F.vars c;omega⟩⟩
theorem ok2_with {F:Fm} {c:List Int} (ok:Ok2 F) (hc:OkC c) (hl:c.length≤16384):Ok2 (withC F c):=by
 obtain ⟨g0,g1,g2,g3⟩:=gr_in ok hc
 refine ⟨g0,g1,fun D hD=>?_⟩
 rcases List.mem_append.1 hD with hD | hD
 ·exact (ok2_wide ok hc).l D hD
 ·rw [List.mem_singleton] at hD;subst hD
  exact ⟨hl,fun x hx=>⟨(hc x hx).1,g3 x hx⟩⟩
theorem sound_1 {F:Fm} {c:List Int} (ok:Ok2 F) (hc:OkC c) (hl:c.length≤16384) (hn:F.cls.length≤400000) (hp:propB F c=true) (k:Nat):manyM (wideF F c) k=manyM (withC F c) k:=
 many_eq (F:=wideF F c) (G:=withC F c) rfl (fun m=>⟨fun h=>sat_with.2 ⟨h,prop_sound ok hc (by omega) hp h⟩,fun h=>(sat_with.1 h).1⟩) k
theorem sound_2 {F:Fm} {c:List Int} (ok:Ok2 F) (hc:OkC c) (hl:c.length≤16384) (hn:F.cls.length≤400000) (hp:firB F c=true):0<manyM (wideF F c) (2 ^ (gr F.vars c).toNat)↔0<manyM (withC F c) (2 ^ (gr F.vars c).toNat):=by
 have h1:=many_pos (ok2_wide ok hc)
 have h2:=many_pos (ok2_with ok hc hl)
 refine h1.trans (Iff.trans ?_ h2.symm)
 constructor
 ·rintro ⟨m,hm⟩
  obtain ⟨m',a,b⟩:=first_sound ok hc hl hn hp hm
  exact ⟨m',sat_with.2 ⟨a,b⟩⟩
 ·rintro ⟨m,hm⟩
  exact ⟨m,(sat_with.1 hm).1⟩
end Go.Hx
namespace Go.Proofs.Ytobageabpfkpcaa
open Go.Hx Go.RowKit
set_option maxHeartbeats 2000000 in
theorem c5 {h:Heap} {v:FV} {F:Fm} (r:FIs h v F) (ok:F.Ok) {la ca:Option Addr} {ln lc cn cc:Nat} {L:List (Bool×List Int)} {c:List Int} (rl:RdLs h la ln L) (hln:ln<9223372036854775807) (hLl:∀ x∈L,x.2.length<9223372036854775807) (rc:Rd h ca cn (ints c)) (hcn:cn<9223372036854775807) (hcap:cn≤cc) :
  CallsH Try.prog 5 #[v.v,.slice la ln lc,.slice ca cn cc] h (Xt (.bool true) h):=by
 have hcl:=rc.ilen
 have hlen:=r.r.len
 have rn:=r.n
 refine run5 v.n v.s.a v.s.n v.s.c la ln lc ca cn cc _ h ?_
 unfold VC5
 intro h1
 have e1:Ext h h1:=Ext.box h _
 have hb:Rd h1 (some ⟨h.size,0,none⟩) 2 v.cs:=boxF v 24
 refine useX (c12) fun h2 e2=>⟨true,rfl,BIf.f ?_⟩
 unfold J5_0
 have e12:=e1.trans e2
 have hb2:=hb.ext e2
 refine ⟨_,hb2.fld 0 rfl,fun _=>⟨rfl,e12⟩,fun hv=>⟨_,_,_,hb2.fld 1 rfl,fun _=>⟨rfl,e12⟩,fun hN=>?_⟩⟩
 unfold J5_1
 refine ldF hb2 ((c14 (r.ext e12) ok (rl.ext e12) hln hLl).mono ?_)
 rintro _ h3 ⟨done,at',e,rfl,hw,e3⟩
 have e13:=e12.trans e3
 have hb3:=hb2.ext e3
 refine ⟨done,at',e,rfl,ldF hb3 (useX (c13 (r.ext e13) ok) fun h4 e4=>⟨_,_,rfl,fun h8=>?_,fun h8=>?_⟩)⟩
 ·have e14:=e13.trans e4
  have hb4:=hb3.ext e4
  have hz:(chkF F).2=0:=by
   unfold modR at h8
   by_cases hz:(chkF F).2≠0
   ·rw [if_pos hz] at h8;exact absurd h8 hz
   ·omega
  obtain ⟨ok2,h52⟩:=ok2_of hz
  have hm1:(modR F).1=(manyM F (2 ^ F.vars.toNat):Nat):=by
   unfold modR
   rw [if_neg (by simp [hz]),if_neg (by omega)]
  have next:J5_3 Try.prog (Xt (.bool true) h) h ca cn cc h4:=by
   unfold J5_3
   refine ldF hb4 (useX (c8 (r.ext e14) ok (rc.ext e14) hcn) fun h5 e5=>⟨_,_,rfl,fun h11=>⟨fun h10=>⟨fun _=>⟨rfl,e14.trans e5⟩,fun hne=>absurd h10 hne⟩,fun h10=>?_⟩,fun h11=>⟨fun _=>⟨rfl,e14.trans e5⟩,fun h10=>?_⟩⟩)
   ·have e15:=e14.trans e5
    have hb5:=hb4.ext e5
    have hl0:litE 262144 c=0:=by
     unfold folE at h11
     rw [if_neg (by simp [hz])] at h11
     by_cases hl:litE 262144 c≠0
     ·rw [if_pos hl] at h11;exact absurd h11 hl
     ·omega
    have hf1:(folE F c).1=folR F c:=by
     unfold folE
     rw [if_neg (by simp [hz]),if_neg (by simp [hl0])]
    rw [hf1] at h10 ⊢
    obtain ⟨hcl2,hoc⟩:=okC_of hl0
    obtain ⟨g0,g1,g2,g3⟩:=gr_in ok2 hoc
    unfold J5_4
    refine ⟨_,hb5.fld 0 rfl,LoopT.to2 (n:=cn) hcn (fun i (x:Int) h'=>h5=h'/\x=gr F.vars (c.take i)) ⟨rfl,by rw [rn];rfl⟩ ?_⟩
    rintro i x _ K hi ⟨rfl,hx⟩ hK
    refine ⟨fun hlt=>?_,fun hlt=>?_⟩
    ·have hlt':(i:Int)<(cn:Nat):=hlt
     have hil:i<c.length:=by omega
     have hb:=hoc _ (List.getElem_mem hil)
     unfold J5_6
     refine ⟨by simp only;omega,hlt',(rc.ext e15).getn (i:=i) (by omega) fun ad hl1 hc=>⟨_,hc,?_⟩⟩
     rw [w64 (x:=0-c[i]) (by omega) (by omega)]
     refine hK _ h5 (by omega) ⟨rfl,?_⟩
     rw [gr_step hil,hx,Int.zero_sub]
    ·have hlt':¬ (i:Int)<(cn:Nat):=hlt
     rw [List.take_of_length_le (by omega)] at hx
     subst hx
     unfold J5_5
     refine ⟨fun _=>⟨rfl,e15⟩,fun h12=>?_⟩
     unfold J5_8
     refine ⟨_,_,_,hb5.fld 1 rfl,?_⟩
     intro h6
     have f6:Fr h5 1 h6 (some ⟨h5.size,0,none⟩) 2 2 [.int .i64 0,.slice none 0 0]:=Fr.lit (.refl h5) [.int .i64 0,.slice none 0 0] 24 2 rfl
     let u:FV:=⟨gr F.vars c,v.s⟩
     refine f6.put (ws:=u.cs) rfl (by simp [u,FV.cs,Value.oneCell']) fun h7 f7 u7=>?_
     have e7:Ext h5 h7:=f7.ext
     refine ldF (v:=u) f7.rd ?_
     intro h8'
     have e8:Ext h7 h8':=Ext.push h7 _
     have e18:Ext h h8':=e15.trans (e7.trans e8)
     let w:FV:=⟨gr F.vars c,⟨some ⟨h7.size,0,none⟩,1,1⟩⟩
     have fu:FIs h8' u (wideF F c):=⟨rfl,(r.ext e18).r⟩
     have fw:FIs h8' w ⟨gr F.vars c,[c]⟩:=⟨rfl,[⟨ca,cn,cc,c⟩],(Fr.lit (.refl h7) [.slice ca cn cc] 26 1 rfl).rd,fun s hs=>by
      rw [List.mem_singleton] at hs;subst hs;exact ⟨rc.ext e18,hcap⟩,rfl⟩
     have okw:(wideF F c).Ok:=⟨by show _≤gr F.vars c;omega,by show gr F.vars c≤_;omega,ok.n,ok.l,ok.x⟩
     have okc:Fm.Ok ⟨gr F.vars c,[c]⟩:=⟨by show _≤gr F.vars c;omega,by show gr F.vars c≤_;omega,by simp,fun D hD=>by rw [List.mem_singleton] at hD;subst hD;omega,fun D hD x hx=>by rw [List.mem_singleton] at hD;subst hD;have:=hoc x hx;omega⟩
     have z1:(chkF (wideF F c)).2=0:=by rw [chkF_of (ok2_wide ok2 hoc).v0 (ok2_wide ok2 hoc).v1 h52 (ok2_wide ok2 hoc).l]
     have z2:(chkF ⟨gr F.vars c,[c]⟩).2=0:=by rw [chkF_of g0 g1 (by simp) (fun D hD=>by rw [List.mem_singleton] at hD;subst hD;exact ⟨hcl2,fun x hx=>⟨(hoc x hx).1,g3 x hx⟩⟩)]
     have hNn:F.cls.length≤1000:=by omega
     have hj:joiR (wideF F c) ⟨gr F.vars c,[c]⟩=(withC F c,0):=by
      rw [joiR_4 z1 z2 (by show ¬ 524288<F.cls.length+1;omega)]
      show ((⟨max (gr F.vars c) (gr F.vars c),F.cls++[c]⟩:Fm),(0:Int))=_
      rw [Int.max_self];rfl
     refine (c15 (v:=u) (w:=w) fu fw okw okc).mono ?_
     rintro _ h9 ⟨u2,rfl,fn⟩
     rw [hj] at fn ⊢
     have fis2:FIs h9 u2 (withC F c):=fn.fis
     have e9:Ext h8' h9:=fn.heap
     refine ⟨_,_,_,_,_,rfl,?_⟩
     intro h10'
     have f10:Fr h9 1 h10' (some ⟨h9.size,0,none⟩) 2 2 [.int .i64 0,.slice none 0 0]:=Fr.lit (.refl h9) [.int .i64 0,.slice none 0 0] 24 2 rfl
     refine f10.put (ws:=u2.cs) rfl (by simp [FV.cs,Value.oneCell']) fun h11' f11 u11=>?_
     have e11:Ext h9 h11':=f11.ext
     have e8_11:=e9.trans e11
     have oks:(withC F c).Ok:=⟨by show _≤gr F.vars c;omega,by show gr F.vars c≤_;omega,by show (F.cls++[c]).length≤_;simp;omega,fun D hD=>by have:=((ok2_with ok2 hoc hcl2).l D hD).1;omega,fun D hD x hx=>by have:=((ok2_with ok2 hoc hcl2).l D hD).2 x hx;have:=(ok2_with ok2 hoc hcl2).v1;omega⟩
     refine ldF (v:=u) (f7.rd.ext (e8.trans e8_11)) (useX (c13 (v:=u) (fu.ext e8_11) okw) fun h12' e12'=>⟨_,_,rfl,ldF (v:=u2) (f11.rd.ext e12') (useX (c13 (v:=u2) (fis2.ext (e11.trans e12')) oks) fun h13 e13'=>⟨_,_,rfl,?_⟩)⟩)
     have eE:Ext h h13:=e18.trans (e8_11.trans (e12'.trans e13'))
     have z3:(chkF (withC F c)).2=0:=by rw [chkF_of (ok2_with ok2 hoc hcl2).v0 (ok2_with ok2 hoc hcl2).v1 (by show (F.cls++[c]).length≤_;simp;omega) (ok2_with ok2 hoc hcl2).l]
     have m1:modR (wideF F c)=(((manyM (wideF F c) (2 ^ (gr F.vars c).toNat):Nat):Int),0):=by
      unfold modR
      rw [if_neg (by simp [z1]),if_neg (by show ¬ 16<gr F.vars c;omega)]
      rfl
     have m2:modR (withC F c)=(((manyM (withC F c) (2 ^ (gr F.vars c).toNat):Nat):Int),0):=by
      unfold modR
      rw [if_neg (by simp [z3]),if_neg (by show ¬ 16<gr F.vars c;omega)]
      rfl
     rw [m1,m2]
     refine ⟨fun _=>⟨fun _=>⟨fun _=>?_,fun hn=>absurd rfl hn⟩,fun hn=>absurd rfl hn⟩,fun hn=>absurd rfl hn⟩
     unfold J5_9
     rcases folR_cases F c with ⟨hk,hp⟩ | ⟨hk,hp⟩ | hk
     ·rw [hk]
      have:=sound_1 ok2 hoc hcl2 (by omega) hp (2 ^ (gr F.vars c).toNat)
      exact ⟨fun _=>⟨fun _=>⟨rfl,eE⟩,fun hne=>absurd (by rw [this]) hne⟩,fun hne=>absurd rfl hne⟩
     ·rw [hk]
      have:=sound_2 ok2 hoc hcl2 (by omega) hp
      refine ⟨fun hne=>absurd hne (by decide),fun _=>⟨fun _=>⟨fun hp1=>⟨fun hp2=>⟨fun _=>⟨rfl,eE⟩,fun hn=>absurd rfl hn⟩,fun hp2=>?_⟩,fun hp1=>⟨fun hp2=>?_,fun hp2=>⟨fun _=>⟨rfl,eE⟩,fun hn=>absurd rfl hn⟩⟩⟩,fun hne=>absurd rfl hne⟩⟩
      ·exfalso
       have a:0<manyM (wideF F c) (2 ^ (gr F.vars c).toNat):=by omega
       have:=this.1 a
       omega
      ·exfalso
       have a:0<manyM (withC F c) (2 ^ (gr F.vars c).toNat):=by omega
       have:=this.2 a
       omega
     ·exact absurd hk h10
   ·exfalso
    apply h10
    unfold folE at h11 ⊢
    rw [if_neg (by simp [hz])] at h11 ⊢
    by_cases hl:litE 262144 c≠0
    ·rw [if_pos hl]
    ·rw [if_neg hl] at h11;exact absurd rfl h11
  unfold J5_2
  refine ⟨fun h5=>?_,fun _=>next⟩
  cases done with
  | false=>exact BIf.f next
  | true=>
   refine BIf.t ⟨fun hp=>?_,fun _=>next⟩
   exfalso
   rw [hm1] at hp
   exact walk_sound hw (by omega) ((many_pos ok2).1 (by omega))
 ·have hz:(chkF F).2≠0:=fun hz=>h8 (by
   unfold modR
   rw [if_neg (by simp [hz]),if_neg (by omega)])
  unfold WalkR at hw
  rw [if_pos hz] at hw
  obtain ⟨rfl,rfl,rfl⟩:=hw
  exact ⟨fun h0=>absurd h0 hz,fun _=>⟨rfl,e13.trans e4⟩⟩
end Go.Proofs.Ytobageabpfkpcaa
set_option maxRecDepth 100000
namespace Go.Proofs.Ytobageabpfkpcaa
open Go.Hx Go.ChangeShapes Go.WideShapes Go.RowKit Go.Deep
section
variable {H:Type} {enc:TypeId×Value->H} {W:World} {base:Nat} {held:Bool}
theorem open_cnf:Opens enc Try.prog W base held 24 (fun p:FV×Fm=>p.1.cs) (fun p=>FIs W.heap p.1 p.2/\p.2.Ok/\p.1.s.n≤p.1.s.c):=by
 intro fuel cs x h hw
 obtain ⟨hl,hf⟩:=struct_cells (P:=Try.prog) (t:=24) Try.underlying24 (by kernel_rfl) h hw
 rw [show Try.prog.cellsOf 24=2 by kernel_rfl] at hl
 have o6:Opens enc Try.prog W base held 22 _ _:=Opens.rows (t:=22) (e:=26) (q:=3) Try.underlying22 Try.underlying26 Try.underlying3 (by kernel_rfl) (by kernel_rfl) (by kernel_rfl) (by kernel_rfl)
 obtain ⟨mx,_,h0,e0,k0⟩:=hf 0 _ rfl (by omega) (Opens.int Try.underlying3)
 obtain ⟨j,_,h1,e1,k1,c1,n1,w1⟩:=hf 1 _ rfl (by omega) o6
 simp only [List.cons.injEq,and_true] at e0 e1
 subst e0 e1
 have hln:=k1.len
 have hwf:=wf_i64 k0
 refine ⟨(⟨mx,⟨j.a,j.n,j.c⟩⟩,⟨mx,j.l⟩),?_,⟨rfl,k1⟩,⟨hwf.1,hwf.2,by show j.l.length≤_;omega,fun c hc=>(w1 c hc).2,fun c hc=>(w1 c hc).1⟩,c1⟩
 match cs,hl,h0,h1 with
 | [a,b],_,h0,h1=>cases h0;cases h1;rfl
theorem open_line:Opens enc Try.prog W base held 39 Ln.cs (fun x=>Rd W.heap x.s.a x.s.n (ints x.s.l)/\x.s.n≤x.s.c/\x.s.l.length≤17592186043904):=by
 intro fuel cs x h hw
 obtain ⟨hl,hf⟩:=struct_cells (P:=Try.prog) (t:=39) Try.underlying39 (by kernel_rfl) h hw
 rw [show Try.prog.cellsOf 39=2 by kernel_rfl] at hl
 obtain ⟨g,_,h0,e0,_⟩:=hf 0 _ rfl (by omega) (Opens.bool Try.underlying4)
 obtain ⟨j,_,h1,e1,k1,c1,n1,w1⟩:=hf 1 _ rfl (by omega) (Opens.ints (t:=26) (e:=3) Try.underlying26 Try.underlying3 (by kernel_rfl) (by kernel_rfl))
 simp only [List.cons.injEq,and_true] at e0 e1
 subst e0 e1
 refine ⟨⟨g,⟨j.a,j.n,j.c,j.l⟩⟩,?_,k1,c1,by have:=k1.ilen;show j.l.length≤_;omega⟩
 match cs,hl,h0,h1 with
 | [a,b],_,h0,h1=>cases h0;cases h1;rfl
theorem open_lines:Opens enc Try.prog W base held 37 (SlL.cs (β:=Ln)) (fun s=>RdLs W.heap s.a s.n (s.l.map Ln.p)/\s.n≤s.c/\s.n≤140737488351232/\∀ x∈s.l.map Ln.p,x.2.length≤17592186043904):=
 (Opens.slice (t:=37) (e:=39) (g:=Ln.cs) (sz:=2) Try.underlying37 (by kernel_rfl) (by omega) (fun _=>rfl) open_line).mono fun s ⟨h1,h2,h3,h4,h5⟩=>by
  rw [show Try.prog.bytesOf 39=32 by kernel_rfl] at h4
  refine ⟨⟨s.l,h1,fun x hx=>⟨(h5 x hx).1,(h5 x hx).2.1⟩,rfl⟩,h3,by omega,fun x hx=>?_⟩
  obtain ⟨y,hy,rfl⟩:=List.mem_map.1 hx
  exact (h5 y hy).2.2
end
end Go.Proofs.Ytobageabpfkpcaa
