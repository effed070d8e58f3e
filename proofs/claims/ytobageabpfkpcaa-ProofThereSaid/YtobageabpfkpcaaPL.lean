/- Words and facts that the claim's proof leans on. No condition. -/
import Derived.Test.YtobageabpfkpcaaPG
import Derived.Test.YtobageabpfkpcaaCAp
import Derived.Test.YtobageabpfkpcaaFI
import Derived.Test.YtobageabpfkpcaaGK
import Derived.Test.YtobageabpfkpcaaCAq
import Derived.Test.YtobageabpfkpcaaHxV
import Derived.Test.YtobageabpfkpcaaHxK
import Derived.Test.YtobageabpfkpcaaRows
set_option linter.unusedVariables false
set_option linter.unusedSimpArgs false
set_option maxRecDepth 100000
namespace Go.Hx
open Go.Proofs.Ytobageabpfkpcaa
def exF:Fm:=⟨2,[[1,2],[1,-2],[-1,2],[-1,-2]]⟩
def exG:Fm:=⟨2,[[1,2],[1,-2],[-1,2],[-1,-2],[1]]⟩
theorem ex_1:folR exF []=0:=by kernel_rfl
theorem ex_2:folR exF [1]=1:=by kernel_rfl
theorem ex_3:folR exG []=1:=by kernel_rfl
theorem ex_chk:(chkF exF).2=0:=by kernel_rfl
theorem stp0 {L:List (Bool×List Int)} {F F1:Fm} (s:Stp L 0 F F1):F1=F:=by cases s;rfl
theorem ex_w1 {d:Bool} {a e:Int} (w:WalkR exF [(false,[])] d a e):a=0/\e=180:=by
 unfold WalkR at w
 rw [if_neg (by simp [ex_chk]),if_neg (by simp;kernel_rfl)] at w
 rcases w with ⟨i,F1,F2,x,e',hx,hs,hd,ho⟩ | ⟨F1,hs,_⟩
 ·cases i with
  | succ i=>simp at hx
  | zero=>
   obtain rfl:=stp0 hs
   simp only [List.getElem?_cons_zero,Option.some.injEq] at hx
   subst hx
   obtain ⟨rfl,_⟩:=(hd.2 rfl).1 ex_1
   rcases ho with ⟨_,_,h1,h2⟩ | ⟨h,_⟩
   ·exact ⟨h1,h2⟩
   ·cases h
 ·cases hs with
  | snoc hs hx hd hne=>
   simp only [List.length_nil,List.getElem?_cons_zero,Option.some.injEq] at hx
   exact absurd hx.symm hne
theorem ex_w2 {d:Bool} {a e:Int} (w:WalkR exF [(false,[1]),(false,[])] d a e):d=true/\a=1/\e=0:=by
 unfold WalkR at w
 rw [if_neg (by simp [ex_chk]),if_neg (by simp;kernel_rfl)] at w
 have h2:¬ folR exF [1]=0:=by rw [ex_2];decide
 rcases w with ⟨i,F1,F2,x,e',hx,hs,hd,ho⟩ | ⟨F1,hs,_⟩
 ·match i,hx,hs with
  | 0,hx,hs=>
   obtain rfl:=stp0 hs
   simp only [List.getElem?_cons_zero,Option.some.injEq] at hx
   subst hx
   obtain ⟨rfl,_⟩:=(hd.2 rfl).2 h2
   rcases ho with ⟨h,_⟩ | ⟨_,h,_⟩
   ·exact absurd rfl h
   ·cases h
  | 1,hx,hs=>
   simp only [List.getElem?_cons_succ,List.getElem?_cons_zero,Option.some.injEq] at hx
   subst hx
   cases hs with
   | snoc hs hx0 hd0 hne=>
    obtain rfl:=stp0 hs
    simp only [List.getElem?_cons_zero,Option.some.injEq] at hx0
    subst hx0
    obtain ⟨_,rfl⟩:=(hd0.2 rfl).2 h2
    have h3:¬ folR ⟨gr exF.vars [1],exF.cls++[[1]]⟩ []=0:=by
     have:(⟨gr exF.vars [1],exF.cls++[[1]]⟩:Fm)=exG:=by kernel_rfl
     rw [this,ex_3];decide
    obtain ⟨rfl,_⟩:=(hd.2 rfl).2 h3
    rcases ho with ⟨h,_⟩ | ⟨_,_,g1,g2,g3⟩
    ·exact absurd rfl h
    ·exact ⟨g1,g2,g3⟩
  | i+2,hx,_=>simp at hx
 ·cases hs with
  | snoc hs hx hd hne=>
   simp at hx
   exact absurd hx.symm hne
end Go.Hx
namespace Go.Proofs.Ytobageabpfkpcaa
open Go.Hx Go.RowKit
theorem c14 {h:Heap} {v:FV} {F:Fm} (r:FIs h v F) (ok:F.Ok) {la:Option Addr} {ln lc:Nat} {L:List (Bool×List Int)} (rl:RdLs h la ln L) (hln:ln<9223372036854775807) (hLl:∀ x∈L,x.2.length<9223372036854775807) :
  CallsH Try.prog 14 #[v.v,.slice la ln lc] h fun o h'=>∃ (done:Bool) (at' e:Int),o=.tuple #[.bool done,.int .i64 at',.int .i64 e]/\WalkR F L done at' e/\Ext h h':=by
 refine run14 v.n v.s.a v.s.n v.s.c la ln lc _ h ?_
 unfold VC14
 intro h1
 have e1:Ext h h1:=Ext.box h _
 have hb:Rd h1 (some ⟨h.size,0,none⟩) 2 v.cs:=boxF v 24
 refine ldF hb ((c27 (v:=v) (r.ext e1) ok (rl.ext e1) hln hLl).mono ?_)
 rintro _ h2 ⟨sp,done,at',e,rfl,hw,e2⟩
 exact ⟨sp,done,at',e,rfl,done,at',e,rfl,hw,e1.trans e2⟩
theorem lit1 {h0 h:Heap} (u:Ext h0 h) (l:List Int) (n:Nat) (hn:l.length=n):Fr h0 1 (h.push (.cells (ints l).toArray 3)) (some ⟨h.size,0,none⟩) n n (ints l):=Fr.lit u (ints l) 3 n (by simp [ints,hn])
theorem c12 {h:Heap}:CallsH Try.prog 12 #[] h (Xt (.bool true) h):=by
 refine run12 _ h ?_
 unfold VC12
 intro h1 h2 h3 h4 h5 h6
 have m1:=(Mem.nil (h0:=h) (.refl h)).add (t:=⟨1,some ⟨h.size,0,none⟩,2,2,ints [1,2]⟩) (lit1 (.refl h) [1,2] 2 rfl)
 have m2:=m1.add (t:=⟨1,some ⟨h1.size,0,none⟩,2,2,ints [1,-2]⟩) (lit1 (.refl h1) [1,-2] 2 rfl)
 have m3:=m2.add (t:=⟨1,some ⟨h2.size,0,none⟩,2,2,ints [-1,2]⟩) (lit1 (.refl h2) [-1,2] 2 rfl)
 have m4:=m3.add (t:=⟨1,some ⟨h3.size,0,none⟩,2,2,ints [-1,-2]⟩) (lit1 (.refl h3) [-1,-2] 2 rfl)
 let R:List Rw:=[⟨some ⟨h.size,0,none⟩,2,2,[1,2]⟩,⟨some ⟨h1.size,0,none⟩,2,2,[1,-2]⟩,⟨some ⟨h2.size,0,none⟩,2,2,[-1,2]⟩,⟨some ⟨h3.size,0,none⟩,2,2,[-1,-2]⟩]
 have m5:=m4.add (t:=⟨1,some ⟨h4.size,0,none⟩,4,4,R.map Rw.v⟩) (Fr.lit (.refl h4) (R.map Rw.v) 26 4 rfl)
 have m6:=m5.add (t:=⟨1,some ⟨h5.size,0,none⟩,2,2,[.int .i64 0,.slice none 0 0]⟩) (Fr.lit (.refl h5) [.int .i64 0,.slice none 0 0] 24 2 rfl)
 let v:FV:=⟨2,⟨some ⟨h4.size,0,none⟩,4,4⟩⟩
 refine (m6.get 0 rfl).put (ws:=v.cs) rfl (by simp [v,FV.cs,Value.oneCell']) fun h7 f7 u7=>?_
 have m7:=m6.setAt 0 (t':=⟨1,some ⟨h5.size,0,none⟩,2,2,v.cs⟩) rfl f7 u7 (.inl rfl)
 have fis:FIs h7 v exF:=⟨rfl,⟨R,(m7.get 1 rfl).rd,fun s hs=>by
  simp only [R,List.mem_cons,List.not_mem_nil,or_false] at hs
  rcases hs with rfl | rfl | rfl | rfl
  ·exact ⟨(m7.get 5 rfl).rd,Nat.le_refl _⟩
  ·exact ⟨(m7.get 4 rfl).rd,Nat.le_refl _⟩
  ·exact ⟨(m7.get 3 rfl).rd,Nat.le_refl _⟩
  ·exact ⟨(m7.get 2 rfl).rd,Nat.le_refl _⟩,rfl⟩⟩
 have ok:exF.Ok:=⟨by decide,by decide,by decide,by decide,by decide⟩
 refine ldF (v:=v) f7.rd ?_
 intro h8
 have e78:Ext h7 h8:=Ext.push h7 _
 have l8:RdLs h8 (some ⟨h7.size,0,none⟩) 1 [(false,[])]:=⟨[⟨false,⟨none,0,0,[]⟩⟩],(Fr.lit (.refl h7) [.bool false,.slice none 0 0] 39 2 rfl).rd,by
  intro s hs;rw [List.mem_singleton] at hs;subst hs;exact ⟨Rd.nil,Nat.le_refl _⟩,rfl⟩
 refine (c14 (v:=v) (fis.ext e78) ok l8 (by decide) (by decide)).mono ?_
 rintro _ h9 ⟨d1,a1,x1,rfl,w1,e89⟩
 obtain ⟨rfl,rfl⟩:=ex_w1 w1
 refine ⟨d1,_,_,rfl,ldF (v:=v) (f7.rd.ext (e78.trans e89)) ?_⟩
 intro h10 h11
 have e10:Ext h9 h10:=Ext.push h9 _
 have e11:Ext h10 h11:=Ext.push h10 _
 have l11:RdLs h11 (some ⟨h10.size,0,none⟩) 2 [(false,[1]),(false,[])]:=⟨[⟨false,⟨some ⟨h9.size,0,none⟩,1,1,[1]⟩⟩,⟨false,⟨none,0,0,[]⟩⟩],(Fr.lit (.refl h10) [.bool false,.slice (some ⟨h9.size,0,none⟩) 1 1,.bool false,.slice none 0 0] 39 4 rfl).rd,by
  intro s hs
  simp only [List.mem_cons,List.not_mem_nil,or_false] at hs
  rcases hs with rfl | rfl
  ·exact ⟨(lit1 (.refl h9) [1] 1 rfl).rd.ext e11,Nat.le_refl _⟩
  ·exact ⟨Rd.nil,Nat.le_refl _⟩,rfl⟩
 refine (c14 (v:=v) (fis.ext (e78.trans (e89.trans (e10.trans e11)))) ok l11 (by decide) (by decide)).mono ?_
 rintro _ h12 ⟨d2,a2,x2,rfl,w2,e12⟩
 obtain ⟨rfl,rfl,rfl⟩:=ex_w2 w2
 have e:Ext h h12:=m7.ext.trans (e78.trans (e89.trans (e10.trans (e11.trans e12))))
 exact ⟨true,_,_,rfl,fun _=>⟨fun _=>BIf.t ⟨fun _=>⟨fun _=>⟨rfl,e⟩,fun hn=>absurd rfl hn⟩,fun hn=>absurd rfl hn⟩,fun hn=>absurd rfl hn⟩,fun hn=>absurd rfl hn⟩
end Go.Proofs.Ytobageabpfkpcaa
set_option maxRecDepth 100000
namespace Go.Hx
def satF (m:List Bool) (F:Fm):Prop:=∀ D∈F.cls,clsB m D=true
structure Ok2 (F:Fm):Prop where
 v0:0≤F.vars
 v1:F.vars≤262144
 l:∀ D∈F.cls,D.length≤16384/\∀ x∈D,x≠0 /\-F.vars≤x/\x≤F.vars
theorem ok2_of {F:Fm} (h:(chkF F).2=0):Ok2 F/\F.cls.length≤524288:=by
 obtain ⟨a,b,c,d⟩:=chkF_ok h
 exact ⟨⟨a,b,d⟩,c⟩
theorem mem_negs {c:List Int} {y:Int} (h:y∈negs c):∃ x∈c,y = -x:=by
 obtain ⟨x,hx,rfl⟩:=List.mem_map.1 h
 exact ⟨x,hx,rfl⟩
end Go.Hx
namespace Go.Proofs.Ytobageabpfkpcaa
open Go.Hx
end Go.Proofs.Ytobageabpfkpcaa
set_option maxRecDepth 100000
namespace Go.Hx
theorem goodM_iff {F:Fm} {n:Nat}:goodM F n=true↔satF (modB F.vars.toNat n) F:=by
 unfold goodM
 rw [decide_eq_true_eq]
 exact firL_neg (by omega)
theorem litB_pad {m:List Bool} {k:Nat} (x:Int):litB (m++List.replicate k false) x=litB m x:=by
 unfold litB
 congr 1
 rw [List.getD_eq_getElem?_getD,List.getD_eq_getElem?_getD]
 by_cases hl:x.natAbs-1<m.length
 ·rw [List.getElem?_append_left hl]
 ·rw [List.getElem?_append_right (by omega),List.getElem?_eq_none (by omega:m.length≤x.natAbs-1),List.getElem?_replicate]
  split <;> rfl
theorem clsB_pad {m:List Bool} {k:Nat} (c:List Int):clsB (m++List.replicate k false) c=clsB m c:=by
 unfold clsB
 induction c with
 | nil=>rfl
 | cons x r ih=>rw [List.any_cons,List.any_cons,litB_pad,ih]
theorem many_pos {F:Fm} (ok:Ok2 F):0<manyM F (2 ^ F.vars.toNat)↔∃ m,satF m F:=by
 unfold manyM
 rw [List.countP_pos_iff]
 constructor
 ·rintro ⟨n,_,hn⟩
  exact ⟨_,goodM_iff.1 hn⟩
 ·rintro ⟨m,hm⟩
  have hv:=ok.v0
  let m':=(m++List.replicate F.vars.toNat false).take F.vars.toNat
  have hl:m'.length=F.vars.toNat:=by simp only [m',List.length_take,List.length_append,List.length_replicate];omega
  obtain ⟨n,hn,he⟩:=modB_all m'
  rw [hl] at hn he
  refine ⟨n,List.mem_range.2 hn,goodM_iff.2 ?_⟩
  rw [he]
  intro D hD
  have:clsB m' D=clsB (m++List.replicate F.vars.toNat false) D:=clsB_take fun x hx=>by have:=(ok.l D hD).2 x hx;omega
  rw [this,clsB_pad]
  exact hm D hD
end Go.Hx
namespace Go.Proofs.Ytobageabpfkpcaa
open Go.Hx Go.RowKit
section
variable {h:Heap} {v:FV} {F:Fm} {a:Option Addr} {n c':Nat} {c:List Int}
end
end Go.Proofs.Ytobageabpfkpcaa
set_option maxRecDepth 100000
namespace Go.Proofs.Ytobageabpfkpcaa
open Go.Hx Go.ChangeShapes Go.WideShapes Go.RowKit Go.Deep
section
variable {H:Type} {enc:TypeId×Value->H} {W:World} {base:Nat} {held:Bool}
theorem open_cnf:Opens enc Try.prog W base held 24 (fun p:FV×Fm=>p.1.cs) (fun p=>FIs W.heap p.1 p.2/\p.2.Ok/\p.1.s.n≤p.1.s.c):=by
 intro fuel cs x h hw
 obtain ⟨hl,hf⟩:=struct_cells (P:=Try.prog) (t:=24) Try.underlying24 (by kernel_rfl) h hw
 rw [show Try.prog.cellsOf 24=2 by kernel_rfl] at hl
 have o6:Opens enc Try.prog W base held 22 _ _:=Opens.rows (t:=22) (e:=26) (q:=3) Try.underlying22 Try.underlying26 Try.underlying3 (by kernel_rfl) (by kernel_rfl) (by kernel_rfl) (by kernel_rfl)
 obtain ⟨mx,_,h0,e0,k0⟩:=hf 0 _ rfl (by omega) (Opens.int Try.underlying3)
 obtain ⟨j,_,h1,e1,k1,c1,n1,w1⟩:=hf 1 _ rfl (by omega) o6
 simp only [List.cons.injEq,and_true] at e0 e1
 subst e0 e1
 have hln:=k1.len
 have hwf:=wf_i64 k0
 refine ⟨(⟨mx,⟨j.a,j.n,j.c⟩⟩,⟨mx,j.l⟩),?_,⟨rfl,k1⟩,⟨hwf.1,hwf.2,by show j.l.length≤_;omega,fun c hc=>(w1 c hc).2,fun c hc=>(w1 c hc).1⟩,c1⟩
 match cs,hl,h0,h1 with
 | [a,b],_,h0,h1=>cases h0;cases h1;rfl
end
end Go.Proofs.Ytobageabpfkpcaa
set_option maxRecDepth 100000
namespace Go.Hx
theorem litsL_sub:∀ {l T T':List Int},litsL l T=some T'->(∀ x∈T,x∈T')/\∀ x∈l,x∈T'
 | [],T,T',h=>by
  unfold litsL at h
  cases h
  exact ⟨fun x hx=>hx,by simp⟩
 | y::r,T,T',h=>by
  unfold litsL at h
  by_cases h1:-y∈T
  ·rw [if_pos h1] at h;cases h
  ·rw [if_neg h1] at h
   obtain ⟨a,b⟩:=litsL_sub h
   have hy:y∈(if y∈T then T else T++[y]):=by split <;> simp_all
   have hT:∀ x∈T,x∈(if y∈T then T else T++[y]):=fun x hx=>by split <;> simp_all
   refine ⟨fun x hx=>a x (hT x hx),fun x hx=>?_⟩
   rcases List.mem_cons.1 hx with rfl | hx
   ·exact a _ hy
   ·exact b x hx
theorem passL_sub:∀ {cs:List (List Int)} {T T':List Int} {b b':Bool},passL cs T b=some (T',b')->∀ x∈T,x∈T'
 | [],T,T',b,b',h,x,hx=>by unfold passL at h;cases h;exact hx
 | c::r,T,T',b,b',h,x,hx=>by
  unfold passL at h
  split at h
  ·exact passL_sub h x hx
  ·split at h
   ·cases h
   ·exact passL_sub h x (by simp [hx])
theorem seqP_sub {cs:List (List Int)} {T0:List Int}:∀ {k:Nat} {T:List Int} {b:Bool},seqP cs T0 k=some (T,b)->∀ x∈T0,x∈T
 | 0,T,b,h,x,hx=>by unfold seqP at h;cases h;exact hx
 | k+1,T,b,h,x,hx=>by
  unfold seqP at h
  split at h
  ·rename_i T1 h1
   exact passL_sub h x (seqP_sub h1 x hx)
  ·rename_i r h1
   exact seqP_sub h x hx
theorem force_has {F:Fm} {lits T:List Int} (hn:0≤F.vars) (hc:∀ c∈F.cls,∀ x∈c,x≠0 /\-F.vars≤x/\x≤F.vars) (hl:∀ x∈lits,x≠0 /\-F.vars≤x/\x≤F.vars) (h:forceT F lits=some T):GT F.vars T/\(∀ c∈F.cls,(unitL T c 0).2=false)/\∀ x∈lits,x∈T:=by
 obtain ⟨a,b,T0,h0,h1⟩:=forceT_good hn hc hl h
 exact ⟨a,b,fun x hx=>seqP_sub h1 x ((litsL_sub h0).2 x hx)⟩
theorem unit_neg {T:List Int} {l:Int} {r:List Int}:∀ {c:List Int},(∀ x∈c,x∉T /\-x∈T)->unitL T (c++r) l=unitL T r l
 | [],_=>rfl
 | x::c,h=>by
  obtain ⟨h1,h2⟩:=h x (by simp)
  rw [List.cons_append]
  unfold unitL
  rw [if_neg h1,if_pos (.inl h2)]
  have:=unit_neg (l:=l) (r:=r) (c:=c) fun y hy=>h y (by simp [hy])
  rw [this]
  cases r <;> rfl
theorem gt_negs {n:Int} {T c:List Int} (g:GT n T) (hs:∀ x∈negs c,x∈T):∀ x∈c,x∉T /\-x∈T:=fun x hx=>by
 have h:-x∈T:=hs _ (List.mem_map.2 ⟨x,hx,rfl⟩)
 exact ⟨fun hx'=>(g.ok x hx').2.2.2 h,h⟩
theorem child {n:Int} {T c:List Int} {y:Int} (g:GT n T) (hs:∀ x∈negs c,x∈T) (hu:(unitL T (c++[y]) 0).2=false):y∈T:=by
 rw [unit_neg (gt_negs g hs)] at hu
 unfold unitL at hu
 by_cases h:y∈T
 ·exact h
 ·rw [if_neg h] at hu
  by_cases h2:-y∈T∨y=0
  ·rw [if_pos h2] at hu;cases hu
  ·rw [if_neg h2,if_pos rfl] at hu;cases hu
theorem full {n:Int} {T:List Int} (hT:∀ x:Int,x≠0 ->-n≤x->x≤n->x∈T ∨-x∈T):∀ {c:List Int} {l:Int},(∀ x∈c,x≠0 /\-n≤x/\x≤n)->(unitL T c l).2=false->∃ x∈c,x∈T
 | [],l,_,h=>by unfold unitL at h;cases h
 | x::r,l,hc,h=>by
  by_cases hx:x∈T
  ·exact ⟨x,by simp,hx⟩
  ·unfold unitL at h
   obtain ⟨a,b,c⟩:=hc x (by simp)
   rw [if_neg hx,if_pos (.inl ((hT x a b c).resolve_left hx))] at h
   obtain ⟨y,hy,hyT⟩:=full hT (fun y hy=>hc y (by simp [hy])) h
   exact ⟨y,by simp [hy],hyT⟩
def glC (i k:Nat):List Int:=(List.range k).map fun v=>if i.testBit v=true then ((v:Int)+1) else -((v:Int)+1)
theorem glC_len (i k:Nat):(glC i k).length=k:=by simp [glC]
theorem glC_mem {i k:Nat} {x:Int} (h:x∈glC i k):x≠0 /\-(k:Int)≤x/\x≤k:=by
 obtain ⟨v,hv,rfl⟩:=List.mem_map.1 h
 have:=List.mem_range.1 hv
 split <;> omega
theorem glC_all {i k:Nat} {x:Int} (h0:x≠0) (h1:-(k:Int)≤x) (h2:x≤k):x∈glC i k ∨-x∈glC i k:=by
 have hv:x.natAbs-1<k:=by omega
 have hm:(if i.testBit (x.natAbs-1)=true then (((x.natAbs-1:Nat):Int)+1) else -(((x.natAbs-1:Nat):Int)+1))∈glC i k:=List.mem_map.2 ⟨x.natAbs-1,List.mem_range.2 hv,rfl⟩
 by_cases hp:0<x
 ·split at hm
  ·left;rw [show x=((x.natAbs-1:Nat):Int)+1 by omega];exact hm
  ·right;rw [show -x = -(((x.natAbs-1:Nat):Int)+1) by omega];exact hm
 ·split at hm
  ·right;rw [show -x=((x.natAbs-1:Nat):Int)+1 by omega];exact hm
  ·left;rw [show x = -(((x.natAbs-1:Nat):Int)+1) by omega];exact hm
theorem glC_succ {i k:Nat} (hi:i<2 ^ k):glC i (k+1)=glC i k++[-((k:Int)+1)]:=by
 unfold glC
 rw [List.range_succ,List.map_append]
 have:i.testBit k=false:=Nat.testBit_lt_two_pow hi
 simp [this]
theorem glC_succ2 {i k:Nat} (hi:i<2 ^ k):glC (i+2 ^ k) (k+1)=glC i k++[(k:Int)+1]:=by
 unfold glC
 rw [List.range_succ,List.map_append]
 have h1:(i+2 ^ k).testBit k=true:=by rw [Nat.add_comm,Nat.testBit_two_pow_add_eq,Nat.testBit_lt_two_pow hi];rfl
 have h2:(List.range k).map (fun v=>if (i+2 ^ k).testBit v=true then ((v:Int)+1) else -((v:Int)+1))=(List.range k).map (fun v=>if i.testBit v=true then ((v:Int)+1) else -((v:Int)+1)):=by
  apply List.map_congr_left
  intro v hv
  have:=List.mem_range.1 hv
  rw [Nat.add_comm i,Nat.testBit_two_pow_add_gt this]
 rw [h2]
 simp [h1]
end Go.Hx
set_option maxRecDepth 100000
namespace Go.Hx
def InV (S:Fm):Prop:=∀ D∈S.cls,∀ x∈D,x≠0 /\-S.vars≤x/\x≤S.vars
theorem gr_glC {n:Int} {i k:Nat} (h:(k:Int)≤n):gr n (glC i k)=n:=by
 have h1:=(gr_ge (glC i k) n).1
 have h2:=gr_le (glC i k) n n (Int.le_refl _) fun x hx=>by have:=glC_mem hx;omega
 omega
theorem prop_gl {S:Fm} {i k:Nat} (hv:S.vars≤6) (hk:(k:Int)≤S.vars) (hS:InV S) (hT:∀ T,GT S.vars T->(∀ D∈S.cls,(unitL T D 0).2=false)->(∀ x∈negs (glC i k),x∈T)->False):propB S (glC i k)=true:=by
 have hf:frcB ⟨gr S.vars (glC i k),S.cls⟩ (negs (glC i k))=false:=by
  rw [gr_glC hk]
  unfold frcB
  rw [if_pos (by have:=glC_len i k;simp only [negs,List.length_map];omega)]
  unfold frcR
  split
  ·rfl
  ·split
   ·rfl
   ·rename_i T hforce
    exfalso
    obtain ⟨a,b,c⟩:=force_has (F:=⟨S.vars,S.cls⟩) (by show 0≤S.vars;omega) hS (fun x hx=>by
     obtain ⟨y,hy,rfl⟩:=mem_negs hx
     have:=glC_mem hy
     show _ /\-S.vars ≤ -y /\-y≤S.vars
     omega) hforce
    exact hT T a b c
 unfold propB
 rw [hf];rfl
theorem prop_leaf {S:Fm} {i:Nat} (h0:0≤S.vars) (hv:S.vars≤6) (hS:InV S) (hno:¬ ∃ m,satF m S):propB S (glC i S.vars.toNat)=true:=by
 refine prop_gl hv (by omega) hS fun T g hf hs=>hno ?_
 have hT:∀ x:Int,x≠0 ->-S.vars≤x->x≤S.vars->x∈T ∨-x∈T:=fun x a b c=>by
  rcases glC_all (i:=i) (k:=S.vars.toNat) a (by omega) (by omega) with h | h
  ·exact .inr (hs _ (List.mem_map.2 ⟨x,h,rfl⟩))
  ·have:=hs _ (List.mem_map.2 ⟨-x,h,rfl⟩)
   rw [Int.neg_neg] at this
   exact .inl this
 refine ⟨(List.range S.vars.toNat).map fun (v:Nat)=>decide (((v:Int)+1)∈T),fun D hD=>?_⟩
 obtain ⟨x,hx,hxT⟩:=full hT (hS D hD) (hf D hD)
 refine List.any_eq_true.2 ⟨x,hx,?_⟩
 obtain ⟨a,b,c⟩:=hS D hD x hx
 unfold litB
 have hl:x.natAbs-1<S.vars.toNat:=by omega
 rw [List.getD_eq_getElem?_getD,List.getElem?_map,List.getElem?_range hl]
 simp only [Option.map_some,Option.getD_some]
 by_cases hp:0<x
 ·rw [decide_eq_true hp,decide_eq_true (by rw [show ((x.natAbs-1:Nat):Int)+1=x by omega];exact hxT)];rfl
 ·have hne:((x.natAbs-1:Nat):Int)+1 = -x:=by omega
  rw [decide_eq_false hp,hne,decide_eq_false (g.ok x hxT).2.2.2];rfl
theorem prop_node {S:Fm} {i k:Nat} (hv:S.vars≤6) (hk:(k:Int)≤S.vars) (hi:i<2 ^ k) (hS:InV S) (h1:glC i (k+1)∈S.cls) (h2:glC (i+2 ^ k) (k+1)∈S.cls):propB S (glC i k)=true:=by
 refine prop_gl hv hk hS fun T g hf hs=>?_
 have a:=hf _ h1
 have b:=hf _ h2
 rw [glC_succ hi] at a
 rw [glC_succ2 hi] at b
 have y1:=child g hs a
 have y2:=child g hs b
 exact (g.ok _ y2).2.2.2 y1
def rowL (k:Nat):List (List Int):=(List.range (2 ^ k)).map fun i=>glC i k
def allL:Nat->List (List Int)
 | 0=>rowL 0
 | k+1=>rowL (k+1)++allL k
end Go.Hx
set_option maxRecDepth 100000
namespace Go.Hx
open Go.Proofs.Ytobageabpfkpcaa
theorem rowL_len (k:Nat):(rowL k).length=2 ^ k:=by simp [rowL]
theorem rowL_mem {i k:Nat} (h:i<2 ^ k):glC i k∈rowL k:=List.mem_map.2 ⟨i,List.mem_range.2 h,rfl⟩
theorem allL_at:∀ (N p:Nat) (D:List Int),(allL N)[p]?=some D->∃ i k,D=glC i k/\i<2 ^ k/\k≤N/\(k=N∨(k<N/\glC i (k+1)∈(allL N).take p/\glC (i+2 ^ k) (k+1)∈(allL N).take p))
 | 0,p,D,h=>by
  unfold allL rowL at h
  match p,h with
  | 0,h=>
   simp at h
   exact ⟨0,0,h.symm,by decide,by decide,.inl rfl⟩
  | p+1,h=>simp at h
 | N+1,p,D,h=>by
  unfold allL at h
  by_cases hp:p<2 ^ (N+1)
  ·rw [List.getElem?_append_left (by rw [rowL_len];exact hp)] at h
   unfold rowL at h
   rw [List.getElem?_map,List.getElem?_range hp] at h
   simp only [Option.map_some,Option.some.injEq] at h
   exact ⟨p,N+1,h.symm,hp,Nat.le_refl _,.inl rfl⟩
  ·rw [List.getElem?_append_right (by rw [rowL_len];omega),rowL_len] at h
   obtain ⟨i,k,rfl,hi,hk,ho⟩:=allL_at N _ D h
   have ht:(allL (N+1)).take p=rowL (N+1)++(allL N).take (p-2 ^ (N+1)):=by
    unfold allL
    rw [List.take_append,rowL_len,List.take_of_length_le (by rw [rowL_len];omega)]
    cases N <;> rfl
   refine ⟨i,k,rfl,hi,by omega,.inr ⟨by omega,?_,?_⟩⟩
   ·rw [ht]
    rcases ho with rfl | ⟨_,h1,h2⟩
    ·exact List.mem_append.2 (.inl (rowL_mem (by rw [Nat.pow_succ];omega)))
    ·exact List.mem_append.2 (.inr h1)
   ·rw [ht]
    rcases ho with rfl | ⟨_,h1,h2⟩
    ·exact List.mem_append.2 (.inl (rowL_mem (by rw [Nat.pow_succ];omega)))
    ·exact List.mem_append.2 (.inr h2)
theorem allL_in {N:Nat} {D:List Int} (h:D∈allL N):∃ i k,D=glC i k/\k≤N:=by
 obtain ⟨p,hp⟩:=List.getElem?_of_mem h
 obtain ⟨i,k,a,_,b,_⟩:=allL_at N p D hp
 exact ⟨i,k,a,b⟩
def linL (N:Nat):List (Bool×List Int):=(allL N).map fun c=>(false,c)
theorem there_fol {F:Fm} {p:Nat} {D:List Int} (h0:0≤F.vars) (hv:F.vars≤6) (hF:InV F) (hno:¬ ∃ m,satF m F) (hD:(allL F.vars.toNat)[p]?=some D):folR ⟨F.vars,F.cls++(allL F.vars.toNat).take p⟩ D≠0/\gr F.vars D=F.vars:=by
 obtain ⟨i,k,rfl,hi,hk,ho⟩:=allL_at _ p D hD
 have hS:InV ⟨F.vars,F.cls++(allL F.vars.toNat).take p⟩:=fun E hE x hx=>by
  rcases List.mem_append.1 hE with hE | hE
  ·exact hF E hE x hx
  ·obtain ⟨j,q,rfl,hq⟩:=allL_in (List.mem_of_mem_take hE)
   have:=glC_mem hx
   show _ /\-F.vars≤x/\x≤F.vars
   omega
 have hp:propB ⟨F.vars,F.cls++(allL F.vars.toNat).take p⟩ (glC i k)=true:=by
  rcases ho with rfl | ⟨hlt,h1,h2⟩
  ·exact prop_leaf (S:=⟨F.vars,F.cls++(allL F.vars.toNat).take p⟩) h0 hv hS fun ⟨m,hm⟩=>hno ⟨m,fun E hE=>hm E (List.mem_append.2 (.inl hE))⟩
  ·exact prop_node (S:=⟨F.vars,F.cls++(allL F.vars.toNat).take p⟩) hv (by show (k:Int)≤F.vars;omega) hi hS (List.mem_append.2 (.inr h1)) (List.mem_append.2 (.inr h2))
 refine ⟨?_,gr_glC (by omega)⟩
 unfold folR
 rw [if_pos hp]
 decide
theorem there_stp {L:List (Bool×List Int)} {F F1:Fm} {p:Nat} (s:Stp L p F F1):L=linL F.vars.toNat->0≤F.vars->F.vars≤6->InV F->(¬ ∃ m,satF m F)->F1=⟨F.vars,F.cls++(allL F.vars.toNat).take p⟩:=by
 induction s with
 | nil F=>intro _ _ _ _ _;rw [List.take_zero,List.append_nil]
 | @snoc k F F1 F2 x s hx hd hne ih=>
  intro hL h0 hv hF hno
  have:=ih hL h0 hv hF hno
  subst this
  subst hL
  unfold linL at hx
  rw [List.getElem?_map] at hx
  cases hD:(allL F.vars.toNat)[k]? with
  | none=>rw [hD] at hx;cases hx
  | some D=>
   rw [hD] at hx
   simp only [Option.map_some,Option.some.injEq] at hx
   subst hx
   obtain ⟨a,b⟩:=there_fol h0 hv hF hno hD
   obtain ⟨_,rfl⟩:=(hd.2 rfl).2 a
   have hk:=(List.getElem?_eq_some_iff.1 hD).1
   have he:(allL F.vars.toNat)[k]=D:=(List.getElem?_eq_some_iff.1 hD).2
   show (⟨gr F.vars D,F.cls++(allL F.vars.toNat).take k++[D]⟩:Fm)=_
   rw [b,List.take_succ_eq_append_getElem hk,he,List.append_assoc]
theorem allL_last:∀ N,∃ A,allL N=A++[[]]/\∀ D∈A,D≠[]
 | 0=>⟨[],rfl,by simp⟩
 | N+1=>by
  obtain ⟨A,hA,hne⟩:=allL_last N
  refine ⟨rowL (N+1)++A,by unfold allL;rw [hA,List.append_assoc],fun D hD=>?_⟩
  rcases List.mem_append.1 hD with hD | hD
  ·obtain ⟨i,_,rfl⟩:=List.mem_map.1 hD
   intro h
   have:=congrArg List.length h
   rw [glC_len] at this
   simp at this
  ·exact hne D hD
end Go.Hx
set_option maxRecDepth 100000
namespace Go.Hx
open Go.Proofs.Ytobageabpfkpcaa
theorem allL_len:∀ N,(allL N).length+1=2 ^ (N+1)
 | 0=>rfl
 | N+1=>by
  have:=allL_len N
  unfold allL
  rw [List.length_append,rowL_len,Nat.pow_succ 2 (N+1)]
  omega
theorem lnsF_zero:∀ {L:List (Bool×List Int)},(∀ x∈L,litE 262144 x.2=0)->lnsF L=0
 | [],_=>rfl
 | x::r,h=>by
  unfold lnsF
  rw [if_pos (h x (by simp))]
  exact lnsF_zero fun y hy=>h y (by simp [hy])
theorem linL_ok {N:Nat} (h:N≤6):lnsE (linL N)=0:=by
 have hl:=allL_len N
 have hp:2 ^ (N+1)≤2 ^ 7:=Nat.pow_le_pow_right (by decide) (by omega)
 unfold lnsE
 rw [if_neg (by simp only [linL,List.length_map];omega)]
 refine lnsF_zero fun x hx=>?_
 obtain ⟨c,hc,rfl⟩:=List.mem_map.1 hx
 obtain ⟨i,k,rfl,hk⟩:=allL_in hc
 exact litE_of (by rw [glC_len];omega) fun y hy=>by have:=glC_mem hy;omega
theorem there_walk {F:Fm} {done:Bool} {at' e:Int} (hz:(chkF F).2=0) (hv:F.vars≤6) (hno:¬ ∃ m,satF m F) (w:WalkR F (linL F.vars.toNat) done at' e):done=true/\at'=((linL F.vars.toNat).length:Int)-1/\e=0:=by
 obtain ⟨p0,p1,p2,p3⟩:=chkF_ok hz
 have hF:InV F:=fun D hD x hx=>(p3 D hD).2 x hx
 have hlen:(linL F.vars.toNat).length=(allL F.vars.toNat).length:=by simp [linL]
 obtain ⟨A,hA,hAne⟩:=allL_last F.vars.toNat
 unfold WalkR at w
 rw [if_neg (by simp [hz]),if_neg (by simp [linL_ok (show F.vars.toNat≤6 by omega)])] at w
 rcases w with ⟨i,F1,F2,x,e',hx,hs,hd,ho⟩ | ⟨F1,hs,_⟩
 ·have hst:=there_stp hs rfl p0 hv hF hno
  subst hst
  unfold linL at hx
  rw [List.getElem?_map] at hx
  cases hD:(allL F.vars.toNat)[i]? with
  | none=>rw [hD] at hx;cases hx
  | some D=>
   rw [hD] at hx
   simp only [Option.map_some,Option.some.injEq] at hx
   subst hx
   obtain ⟨a,b⟩:=there_fol p0 hv hF hno hD
   obtain ⟨rfl,_⟩:=(hd.2 rfl).2 a
   rcases ho with ⟨h,_⟩ | ⟨_,h1,h2,h3,h4⟩
   ·exact absurd rfl h
   ·refine ⟨h2,?_,h4⟩
    rw [h3,hlen]
    simp only [Prod.mk.injEq,true_and] at h1
    subst h1
    obtain ⟨j,k,hjk,_,_,ho⟩:=allL_at _ _ _ hD
    have hk0:k=0:=by have:=congrArg List.length hjk;rw [glC_len] at this;simpa using this.symm
    subst hk0
    have hi:=(List.getElem?_eq_some_iff.1 hD).1
    rw [hA] at hD hi ⊢
    simp only [List.length_append,List.length_cons,List.length_nil] at hi ⊢
    by_cases hlt:i<A.length
    ·exfalso
     rw [List.getElem?_append_left hlt] at hD
     exact hAne _ (List.mem_of_getElem? hD) rfl
    ·omega
 ·exfalso
  have hpos:0<(linL F.vars.toNat).length:=by rw [hlen,hA];simp
  cases hn:(linL F.vars.toNat).length with
  | zero=>omega
  | succ n=>
   rw [hn] at hs
   cases hs with
   | snoc hs hx hd hne=>
    apply hne
    have:(linL F.vars.toNat)[n]?=some (false,[]):=by
     unfold linL at hn ⊢
     rw [hA] at hn ⊢
     simp only [List.map_append,List.map_cons,List.map_nil,List.length_append,List.length_map,List.length_cons,List.length_nil] at hn ⊢
     rw [List.getElem?_append_right (by simp;omega)]
     have:n-(A.map fun c=>(false,c)).length=0:=by simp;omega
     rw [this];rfl
    rw [this] at hx
    exact (Option.some.inj hx).symm
end Go.Hx
set_option maxRecDepth 100000
namespace Go.Hx
structure LM (h0 h:Heap) (a:Option Addr) (n c:Nat) (L:List (Bool×List Int)):Prop where
 ex:∃ rows:List Ln,Mem h0 h (⟨2,a,n,c,rows.flatMap Ln.cs⟩::rows.map fun x=>x.s.it)/\(∀ x∈rows,x.s.n≤x.s.c)/\rows.map Ln.p=L
theorem LM.rd {h0 h:Heap} {a:Option Addr} {n c:Nat} {L:List (Bool×List Int)} (m:LM h0 h a n c L):RdLs h a n L:=by
 obtain ⟨rows,a1,a2,a3⟩:=m.ex
 refine ⟨rows,(a1.get 0 rfl).own.rd,fun x hx=>⟨?_,a2 x hx⟩,a3⟩
 have f:=a1.fr x.s.it (by simp only [List.mem_cons,List.mem_map];exact .inr ⟨x,hx,rfl⟩)
 exact f.rd
theorem LM.add {h0 h h1:Heap} {a:Option Addr} {n c:Nat} {L:List (Bool×List Int)} (m:LM h0 h a n c L) (x:Ln) (f:x.s.it.Fr h h1) (hn:n≤1000000) {e e':TypeId}
  {K:Option Addr->Nat->Nat->Heap->Prop} (hK:∀ a' c' h',LM h0 h' a' (n+1) c' (L++[x.p])->K a' (n+1) c' h') :
  ∃ ys:List Value,ReadL (h1.push (.cells #[.bool x.g,.slice x.s.a x.s.n x.s.c] e')) (some ⟨h1.size,0,none⟩) ys/\ys.length=1*2/\AppS (h1.push (.cells #[.bool x.g,.slice x.s.a x.s.n x.s.c] e')) a n c e 32 2 #[.bool false,.slice none 0 0] ys 1 K:=by
 obtain ⟨rows,a1,a2,a3⟩:=m.ex
 have m1:=((a1.add f).perm (.swap _ _ _)).ext' (Ext.push h1 (.cells #[.bool x.g,.slice x.s.a x.s.n x.s.c] e'))
 refine ⟨x.cs,(Fr.lit (.refl h1) x.cs e' 2 rfl).rd.read,rfl,?_⟩
 refine (m1.get 0 rfl).app rfl (by simp [Ln.cs,Value.oneCell']) (by omega) fun a' c' h' f' u hor=>hK a' c' h' ⟨rows++[x],?_,fun y hy=>?_,by rw [List.map_append,a3];rfl⟩
 ·have m2:=m1.setAt 0 (t':=⟨2,a',n+1,c',(rows++[x]).flatMap Ln.cs⟩) rfl (by rw [List.flatMap_append,List.flatMap_cons,List.flatMap_nil,List.append_nil];exact f') u hor
  refine m2.perm (.cons _ ?_)
  rw [List.map_append]
  exact (List.perm_append_singleton _ _).symm
 ·rcases List.mem_append.1 hy with hy | hy
  ·exact a2 y hy
  ·rw [List.mem_singleton] at hy;subst hy;exact f.own.cap
end Go.Hx
set_option maxRecDepth 100000
namespace Go.Hx
theorem glC_snoc (i v:Nat):glC i (v+1)=glC i v++[if i.testBit v=true then ((v:Int)+1) else -((v:Int)+1)]:=by
 unfold glC;rw [List.range_succ,List.map_append];rfl
theorem bit_test {i v:Nat} (hi:i<1000) (hv:v<64):(bop .and .i64 ((i:Int) / 2 ^ min (Int.toNat (v:Int)) (IntKind.bits .i64)) 1=1)↔i.testBit v=true:=by
 have e:min (Int.toNat (v:Int)) (IntKind.bits .i64)=v:=by
  have:IntKind.bits .i64=64:=rfl
  rw [this];omega
 rw [e]
 have e2:(i:Int) / 2 ^ v=((i / 2 ^ v:Nat):Int):=by
  rw [Int.natCast_ediv];norm_cast
 rw [e2,Nat.testBit_eq_decide_div_mod_eq,decide_eq_true_eq]
 have hq:=Nat.div_le_self i (2 ^ v)
 generalize i / 2 ^ v=q at hq ⊢
 rw [and_one (by omega) (by omega)]
 omega
end Go.Hx
namespace Go.Proofs.Ytobageabpfkpcaa
open Go.Hx Go.RowKit
theorem in4 {hb h:Heap} {lA:Option Addr} {lN lC:Nat} {L:List (Bool×List Int)} (m:LM hb h lA lN lC L) (hl:lN≤1000000) {k i:Nat} (hk:k≤6) (hi:i<1000) {K:(Option Addr×Nat×Nat)×Int->Heap->Prop}
  (hK:∀ a' c' h',LM hb h' a' (lN+1) c' (L++[(false,glC i k)])->K ((a',lN+1,c'),IntKind.wrap .i64 ((i:Int)+1)) h'):J4_6 (k:Int) lA lN lC (i:Int) K h:=by
 unfold J4_6
 refine LoopT.to2 (n:=k) (by omega) (fun v (t:Option Addr×Nat×Nat) h'=>t.2.1=v/\Fr h 1 h' t.1 t.2.1 t.2.2 (ints (glC i v))) ⟨rfl,Fr.nil (.refl h)⟩ ?_
 rintro v ⟨cA,cN,cC⟩ h1 K1 hv ⟨rfl,f⟩ hK1
 simp only at f hv hK1
 refine ⟨fun hlt=>?_,fun hlt=>?_⟩
 ·have hlt':(cN:Int)<(k:Nat):=hlt
  have step:∀ (y:Int),(if i.testBit cN=true then ((cN:Int)+1) else -((cN:Int)+1))=y->∃ ys:List Value,ReadL (h1.push (.cells #[.int .i64 y] 3)) (some ⟨h1.size,0,none⟩) ys/\ys.length=1*1/\AppS (h1.push (.cells #[.int .i64 y] 3)) cA cN cC 3 8 1 #[.int .i64 0] ys 1 fun a n c h'=>K1 ((a,n,c),IntKind.wrap .i64 ((cN:Int)+1)) h':=fun y hy=>by
   refine ⟨[.int .i64 y],(Fr.lit (.refl h1) [.int .i64 y] 3 1 rfl).rd.read,rfl,?_⟩
   refine (f.upd (Ext.push h1 (.cells #[.int .i64 y] 3))).app rfl (by simp [Value.oneCell']) (by omega) fun a' c' h' f' u hor=>hK1 (a',cN+1,c') h' (by omega) ⟨rfl,?_⟩
   rw [glC_snoc,hy]
   have e:ints (glC i cN++[y])=ints (glC i cN)++[.int .i64 y]:=by unfold ints;rw [List.map_append];rfl
   rw [e];exact f'
  unfold J4_9
  refine ⟨by omega,fun hb1=>?_,fun hb1=>?_⟩
  ·have hb2:=(bit_test hi (by omega)).1 hb1
   have:=step ((cN:Int)+1) (by rw [if_pos hb2])
   rw [w64 (x:=(cN:Int)+1) (by omega) (by omega)] at this ⊢
   exact this
  ·have hb2:¬ i.testBit cN=true:=fun h=>hb1 ((bit_test hi (by omega)).2 h)
   have:=step (-((cN:Int)+1)) (by rw [if_neg hb2])
   rw [w64 (x:=0-(cN:Int)) (by omega) (by omega),w64 (x:=0-(cN:Int)-1) (by omega) (by omega),show (0-(cN:Int)-1) = -((cN:Int)+1) by omega]
   exact this
 ·have hlt':¬ (cN:Int)<(k:Nat):=hlt
  obtain rfl:cN=k:=by omega
  unfold J4_8
  exact m.add ⟨false,⟨cA,cN,cC,glC i cN⟩⟩ f hl fun a' c' h' m'=>hK a' c' h' m'
end Go.Proofs.Ytobageabpfkpcaa
set_option maxRecDepth 100000
namespace Go.Hx
theorem pow_wrap {k:Nat} (hk:k≤6):IntKind.wrap .i64 (1*2 ^ min (Int.toNat (k:Int)) (IntKind.bits .i64))=((2 ^ k:Nat):Int):=by
 match k,hk with
 | 0,_=>rfl
 | 1,_=>rfl
 | 2,_=>rfl
 | 3,_=>rfl
 | 4,_=>rfl
 | 5,_=>rfl
 | 6,_=>rfl
def fls (D:List (List Int)):List (Bool×List Int):=D.map fun c=>(false,c)
def restL:Nat->List (List Int)
 | 0=>[]
 | k+1=>allL k
theorem allL_rest:∀ k,allL k=rowL k++restL k
 | 0=>by simp [allL,restL]
 | k+1=>rfl
end Go.Hx
namespace Go.Proofs.Ytobageabpfkpcaa
open Go.Hx Go.RowKit
theorem mid4 {hb h:Heap} {lA:Option Addr} {lN lC:Nat} {L:List (Bool×List Int)} (m:LM hb h lA lN lC L) (hl:lN≤1000) {k:Nat} (hk:k≤6) {K:(Option Addr×Nat×Nat)×Int->Heap->Prop}
  (hK:∀ a' c' h',LM hb h' a' (lN+2 ^ k) c' (L++fls (rowL k))->K ((a',lN+2 ^ k,c'),IntKind.wrap .i64 ((k:Int)-1)) h'):J4_4 lA lN lC (k:Int) K h:=by
 have hp:2 ^ k≤2 ^ 6:=Nat.pow_le_pow_right (by decide) hk
 unfold J4_4
 refine LoopT.to2 (n:=2 ^ k) (by omega) (fun i (t:Option Addr×Nat×Nat) h'=>t.2.1=lN+i/\LM hb h' t.1 t.2.1 t.2.2 (L++fls ((rowL k).take i))) ⟨rfl,by simpa [fls] using m⟩ ?_
 rintro i ⟨a,n,c⟩ h1 K1 hi ⟨hn,m1⟩ hK1
 simp only at hn m1
 subst hn
 refine ⟨by omega,?_⟩
 rw [pow_wrap hk]
 refine ⟨fun hlt=>?_,fun hlt=>?_⟩
 ·have hlt':(i:Int)<((2 ^ k:Nat):Int):=hlt
  have hil:i<2 ^ k:=by omega
  refine in4 m1 (by omega) hk (by omega) fun a' c' h' m'=>hK1 (a',lN+i+1,c') h' hil ⟨rfl,?_⟩
  have hr:i<(rowL k).length:=by rw [rowL_len];exact hil
  have hg:(rowL k)[i]=glC i k:=by simp [rowL]
  rw [List.take_succ_eq_append_getElem hr,hg]
  unfold fls at m' ⊢
  rw [List.map_append,<- List.append_assoc]
  exact m'
 ·have hlt':¬ (i:Int)<((2 ^ k:Nat):Int):=hlt
  obtain rfl:i=2 ^ k:=by omega
  rw [List.take_of_length_le (by rw [rowL_len];exact Nat.le_refl _)] at m1
  unfold J4_5
  exact hK a c h1 m1
set_option maxHeartbeats 1000000 in
theorem c4 {h:Heap} {v:FV} {F:Fm} (r:FIs h v F) (ok:F.Ok):CallsH Try.prog 4 #[v.v] h (Xt (.bool true) h):=by
 have rn:=r.n
 refine run4 v.n v.s.a v.s.n v.s.c _ h ?_
 unfold VC4
 intro h1
 have e1:Ext h h1:=Ext.box h _
 have hb:Rd h1 (some ⟨h.size,0,none⟩) 2 v.cs:=boxF v 24
 refine useX (c12) fun h2 e2=>⟨true,rfl,BIf.f ?_⟩
 unfold J4_0
 have e12:=e1.trans e2
 have hb2:=hb.ext e2
 refine ⟨_,hb2.fld 0 rfl,fun _=>⟨rfl,e12⟩,fun hv=>?_⟩
 unfold J4_1
 refine ldF hb2 (useX (c13 (r.ext e12) ok) fun h3 e3=>⟨_,_,rfl,fun h8=>⟨fun _=>⟨fun _=>⟨rfl,e12.trans e3⟩,fun hn=>absurd h8 hn⟩,fun hp=>?_⟩,fun h8=>⟨fun h=>absurd h h8,fun _=>⟨fun _=>⟨rfl,e12.trans e3⟩,fun hn=>?_⟩⟩⟩)
 ·have e13:=e12.trans e3
  have hb3:=hb2.ext e3
  have hz:(chkF F).2=0:=by
   unfold modR at h8
   by_cases hz:(chkF F).2≠0
   ·rw [if_pos hz] at h8;exact absurd h8 hz
   ·omega
  obtain ⟨ok2,h52⟩:=ok2_of hz
  have h0:=ok2.v0
  have hv6:F.vars≤6:=by omega
  have hm1:(modR F).1=(manyM F (2 ^ F.vars.toNat):Nat):=by
   unfold modR
   rw [if_neg (by simp [hz]),if_neg (by omega)]
  have hno:¬ ∃ m,satF m F:=fun hs=>hp (by rw [hm1];have:=(many_pos ok2).2 hs;omega)
  unfold J4_2
  refine ⟨_,hb3.fld 0 rfl,?_⟩
  refine ⟨fun st h' m=>∃ kk:Nat,st.2=(kk:Int)-1/\m=kk/\kk≤F.vars.toNat+1/\∃ D,LM h3 h' st.1.1 st.1.2.1 st.1.2.2 (fls D)/\st.1.2.1=D.length/\D++restL kk=allL F.vars.toNat,⟨F.vars.toNat+1,F.vars.toNat+1,by show v.n=_;omega,rfl,Nat.le_refl _,[],⟨[],(Mem.nil (h0:=h3) (.refl h3)).add (t:=⟨2,none,0,0,[]⟩) (Fr.nil (.refl h3)),by simp,rfl⟩,rfl,rfl⟩,?_⟩
  rintro ⟨⟨a,n,c⟩,kv⟩ h4 mm ⟨kk,hkv,hmm,hkk,D,mD,hnD,hD⟩
  subst hmm
  simp only at hkv mD hnD
  subst hkv hnD
  have hlen:=allL_len F.vars.toNat
  have hpw:2 ^ (F.vars.toNat+1)≤2 ^ 7:=Nat.pow_le_pow_right (by decide) (by omega)
  have hDl:D.length≤(allL F.vars.toNat).length:=by rw [<- hD,List.length_append];omega
  refine ⟨fun hge=>?_,fun hlt=>?_⟩
  ·have hge':(0:Int)≤(mm:Int)-1:=hge
   obtain ⟨k,rfl⟩:∃ k,mm=k+1:=⟨mm-1,by omega⟩
   have ek:(((k+1:Nat):Int)-1)=(k:Int):=by omega
   simp only [ek]
   refine mid4 mD (by omega) (by omega) fun a' c' h' m'=>⟨k,by omega,k,by show IntKind.wrap .i64 ((k:Int)-1)=_;rw [w64 (by omega) (by omega)],rfl,by omega,D++rowL k,by unfold fls at m' ⊢;rw [List.map_append];exact m',by rw [List.length_append,rowL_len],?_⟩
   rw [List.append_assoc,<- allL_rest]
   exact hD
  ·have hlt':¬ (0:Int)≤(mm:Int)-1:=hlt
   obtain rfl:mm=0:=by omega
   have hDe:D=allL F.vars.toNat:=by rw [<- hD];simp [restL]
   subst hDe
   have e34:Ext h3 h4:=by obtain ⟨rows,a1,_,_⟩:=mD.ex;exact a1.ext
   unfold J4_3
   have rdl:RdLs h4 a (allL F.vars.toNat).length (linL F.vars.toNat):=mD.rd
   refine ldF (hb3.ext e34) ((c14 (r.ext (e13.trans e34)) ok rdl (by omega) (fun x hx=>by
    obtain ⟨D,hD,rfl⟩:=List.mem_map.1 hx
    obtain ⟨i,k,rfl,hk⟩:=allL_in hD
    show (glC i k).length<_
    rw [glC_len];omega)).mono ?_)
   rintro _ h5 ⟨done,at',e,rfl,hw,e45⟩
   obtain ⟨rfl,rfl,rfl⟩:=there_walk hz hv6 hno hw
   have eE:=e13.trans (e34.trans e45)
   have hll:(linL F.vars.toNat).length=(allL F.vars.toNat).length:=by simp [linL]
   refine ⟨true,_,_,rfl,fun _=>BIf.t ⟨fun _=>⟨rfl,eE⟩,fun hn=>absurd ?_ hn⟩,fun hn=>absurd rfl hn⟩
   show ((linL F.vars.toNat).length:Int)-1=IntKind.wrap .i64 (((allL F.vars.toNat).length:Int)-1)
   rw [w64 (by omega) (by omega),hll]
 ·exfalso
  apply hn
  unfold modR at h8 ⊢
  by_cases hz:(chkF F).2≠0
  ·rw [if_pos hz]
  ·rw [if_neg hz] at h8 ⊢
   by_cases h16:16<F.vars
   ·rw [if_pos h16]
   ·rw [if_neg h16] at h8;exact absurd rfl h8
end Go.Proofs.Ytobageabpfkpcaa
