/- Words and facts that the claim's proof leans on. No condition. -/
import Derived.Test.YtobageabpfkpcaaGreatDoorGP
import Derived.Test.YtobageabpfkpcaaGreatDoorCSi
import Derived.Test.YtobageabpfkpcaaGreatDoorCAj
import Derived.Test.YtobageabpfkpcaaGreatDoorCAi
import Derived.Lib.LaidTab
import Derived.Lib.ItoaLen
set_option linter.unusedVariables false
set_option linter.unusedSimpArgs false
set_option maxRecDepth 100000
namespace Go.Hx
def TabH (h : Heap) : Prop := ∀ w : World, w.heap = h → Lib.TabIs Go.Proofs.Tryz.prog w "internal/strconv.uint64pow10" .u64 Lib.pow10Tab
theorem TabH.ext {h h':Heap} (t:TabH h) (x:Ext h h') (hb:1<h.size):TabH h':=fun w hw=>by
 have h1:=t { w with heap:=h } rfl
 have hg : Go.Proofs.Tryz.prog.globalNamed "internal/strconv.uint64pow10" = some 1 := by kernel_rfl
 unfold Lib.TabIs World.var? at h1 ⊢
 rw [hg] at h1 ⊢
 simp only [Option.bind_eq_bind,Option.bind_some] at h1 ⊢
 rw [hw,x.2 1 hb fun z=>z]
 exact h1
def byC (l:List UInt8):List Value:=l.map fun b=>Value.int .u8 b.toNat
theorem byC_len (l:List UInt8):(byC l).length=l.length:=by simp [byC]
theorem byC_one {l:List UInt8}:∀ y∈byC l,y.oneCell'=true:=by intro y hy;obtain ⟨x,_,rfl⟩:=List.mem_map.1 hy;rfl
theorem byC_app (l m:List UInt8):byC (l++m)=byC l++byC m:=by simp [byC]
end Go.Hx
namespace Go.Proofs.YtobageabpfkpcaaGreatDoor
open Go.Hx Go.RowKit Go.Sort
section
variable {h0 h:Heap}
theorem c157 (i:Nat) (hi:i<100) (h:Heap):CallsH Tryz.prog 157 #[.int .i64 (i:Int)] h (Ret (.string ⟨(Lib.decDigits i).toArray⟩) h):=by
 intro w hw
 refine (Go.Proofs.Any.internal_strconv_small (P:=Tryz.prog) (ρ:=Tryz.laysM249_ren) { Tryz.laysM249 with } i hi w).mono ?_
 rintro e w' ⟨rfl,rfl⟩
 exact ⟨_,rfl,.refl _,rfl,hw⟩
theorem c158 (u:Nat) (h1:1≤u) (h2:u<18446744073709551616) (t:TabH h):CallsH Tryz.prog 158 #[.int .u64 (u:Int)] h (Ret (.int .i64 (Lib.nDigits u:Int)) h):=by
 intro w hw
 refine (Go.Proofs.Any.internal_strconv_numDigits (P:=Tryz.prog) (ρ:=Tryz.laysM249_ren) { Tryz.laysM249 with } u h1 h2 w (t w hw)).mono ?_
 rintro e w' ⟨rfl,rfl⟩
 exact ⟨_,rfl,.refl _,rfl,hw⟩
def z24:List Value:=List.replicate 24 (Value.int .u8 0)
theorem z24_at {j:Nat} (h:j<24):z24[j]?=some (Value.int .u8 0):=by unfold z24;rw [List.getElem?_replicate,if_pos h]
theorem c159 (u:Nat) (h2:u<18446744073709551616) (hd:Lib.nDigits u≤24) (h:Heap):CallsH Tryz.prog 159 #[.slice (some ⟨h.size,0,none⟩) (Lib.nDigits u) 24,.int .u64 (u:Int)] (h.push (.cells z24.toArray 184)) fun v h'=>v=.tuple #[]/\Fr h 1 h' (some ⟨h.size,0,none⟩) (Lib.nDigits u) 24 (byC (Lib.decDigits u)):=by
 intro w hw
 have hz:z24.toArray.size=24:=by simp [z24]
 have hb:w.heap[h.size]?=some (.cells z24.toArray 184 (0,0)):=by rw [hw];exact push_at h _
 have hH:Holds (fun (b:UInt8)=>Value.int .u8 (b.toNat:Int)) w h.size 0 (Array.replicate (Lib.nDigits u) 0):=by
  intro j hj
  have hj':j<Lib.nDigits u:=by simpa using hj
  constructor
  ·rw [cell_eq]
   unfold cellH
   simp only [hb,Option.isSome_none,Bool.false_eq_true,if_false,Nat.zero_add]
   rw [getElem!_pos _ j hj]
   rw [List.getElem?_toArray,z24_at (by omega)]
   simp
  ·unfold World.frozen?
   simp only [hb]
   simp
 have hsz:(Array.replicate (Lib.nDigits u) (0:UInt8)).size=Lib.nDigits u:=by simp
 have hp:=Go.Proofs.Any.internal_strconv_formatBase10 (P:=Tryz.prog) (ρ:=Tryz.laysM249_ren) { Tryz.laysM249 with } h.size 0 24 u (Array.replicate (Lib.nDigits u) 0) w hH (by rw [hsz];exact Lib.lt_pow_nDigits u) h2 (by rw [hsz];omega)
 rw [hsz] at hp
 refine hp.mono ?_
 rintro e w' ⟨rfl,n,v',dk,rfl,hf⟩
 have hdk:dk.size=Lib.nDigits u:=hf.size
 have hdl:=Lib.decDigits_length u
 have hheap:((putRow (fun (b:UInt8)=>Value.int .u8 (b.toNat:Int)) w h.size 0 dk).drewN n).heap=w.heap.setIfInBounds h.size (.cells (putCells (fun (b:UInt8)=>Value.int .u8 (b.toNat:Int)) 0 dk z24.toArray) 184 (0,0)):=by
  show w.heap.modify h.size _=_
  rw [modify_at hb]
  rfl
 have hlt:h.size<w.heap.size:=(Array.getElem?_eq_some_iff.1 hb).1
 have hrow:(w.heap.setIfInBounds h.size (.cells (putCells (fun (b:UInt8)=>Value.int .u8 (b.toNat:Int)) 0 dk z24.toArray) 184 (0,0)))[h.size]?=some (.cells (putCells (fun (b:UInt8)=>Value.int .u8 (b.toNat:Int)) 0 dk z24.toArray) 184 (0,0)):=set_at hlt _
 refine ⟨_,rfl,⟨rfl,rfl,rfl,⟨?_,.inl (Nat.le_add_right _ _)⟩⟩,rfl,?_⟩
 ·rw [hheap];simp
 ·rw [hheap]
  refine ⟨⟨⟨fun j v hv=>?_,by rw [byC_len,hdl];omega⟩,hd,rfl,_,184,(0,0),hrow,by unfold putCells;simp [z24],loose0 _ _⟩,fun ad ha=>by cases ha;exact Nat.le_refl _,?_⟩
  ·have hj:j<Lib.nDigits u:=by have:=(List.getElem?_eq_some_iff.1 hv).1;rw [byC_len,hdl] at this;exact this
   rw [cellH_row hrow rfl]
   have hr:=Lib.row_is_numeral hf j (by omega)
   unfold byC at hv
   rw [List.getElem?_map,List.getElem?_eq_getElem (by omega)] at hv
   rw [hr] at hv
   rw [<- hv]
   show (putCells (fun (b:UInt8)=>Value.int .u8 (b.toNat:Int)) 0 dk z24.toArray)[0+j]?=_
   rw [putCells_at (by omega) (by rw [hz];omega)]
   simp
   rw [getElem!_pos dk j (by omega)]
  ·have e1:Ext h w.heap:=by rw [hw];exact Ext.push h _
   exact e1.newer (set_upd w.heap h.size _) fun i hi e=>by omega
theorem c135 {a:Option Addr} {n c:Nat} {vs:List Value} (f:Fr h0 1 h a n c vs) (hn:n≤1000000) (u:Nat) (h2:u<18446744073709551616) (t:TabH h0) (hb:1<h0.size):CallsH Tryz.prog 135 #[.slice a n c,.int .u64 (u:Int),.int .i64 10] h fun w h'=>∃ a' c',w=.slice a' (n+(Lib.decDigits u).length) c'/\Fr h0 1 h' a' (n+(Lib.decDigits u).length) c' (vs++byC (Lib.decDigits u)):=by
 have hd20:=Go.Lib.nDigits_le20 u h2
 have hdl:=Lib.decDigits_length u
 refine run135 a n c (u:Int) 10 _ h ⟨fun _=>⟨fun hs=>?_,fun hs=>?_⟩,fun hn=>absurd rfl hn⟩
 ·rw [w64 (x:=(u:Int)) (by omega) (by omega)]
  refine use (c157 u (by omega) h) ⟨_,rfl,?_⟩
  refine f.app (m:=(Lib.decDigits u).length) (by rw [Nat.mul_one];exact byC_len _) byC_one (by omega) fun a' c' h' f' _ _=>⟨a',c',rfl,f'⟩
 ·unfold J135_0
  intro h3
  have e3:h3=h.push (.cells z24.toArray 184):=rfl
  have x3:Ext h h3:=Ext.push h _
  refine use (c158 u (by omega) h2 (t.ext (f.ext.trans x3) hb)) ⟨_,rfl,by omega,by omega,by omega,?_⟩
  rw [show (Int.toNat 0)=0 from rfl,cutR0]
  have ed:Int.toNat (Lib.nDigits u:Int)-0=Lib.nDigits u:=by simp
  rw [ed]
  rw [e3]
  refine (c159 u h2 (by omega) h).mono ?_
  rintro _ h5 ⟨rfl,f5⟩
  refine ⟨rfl,by omega,by omega,by omega,_,f5.rd.read,by rw [byC_len,hdl];omega,?_⟩
  have:=(f.upd f5.ext).app (e:=5) (bytes:=1) (z:=#[.int .u8 0]) (ys:=byC (Lib.decDigits u)) (m:=Lib.nDigits u) (by rw [byC_len,hdl];omega) byC_one (by omega)
   (K:=fun apA1 apN1 apC1 h_6=>∃ a' c',(Value.slice apA1 apN1 apC1)=.slice a' (n+(Lib.decDigits u).length) c'/\Fr h0 1 h_6 a' (n+(Lib.decDigits u).length) c' (vs++byC (Lib.decDigits u))) fun a' c' h' f' _ _=>⟨a',c',by rw [hdl],by rw [hdl];exact f'⟩
  exact this
theorem c106 {a:Option Addr} {n c:Nat} {vs:List Value} (f:Fr h0 1 h a n c vs) (hn:n≤900000) (i:Int) (h1:-9223372036854775808≤i) (h2:i≤9223372036854775807) (t:TabH h0) (hb:1<h0.size):CallsH Tryz.prog 106 #[.slice a n c,.int .i64 i,.int .i64 10] h fun w h'=>∃ a' c',w=.slice a' (n+(Lib.itoa i).length) c'/\Fr h0 1 h' a' (n+(Lib.itoa i).length) c' (vs++byC (Lib.itoa i)):=by
 refine run106 a n c i 10 _ h ⟨fun hneg=>?_,fun hpos=>?_⟩
 ·obtain ⟨u,rfl⟩:∃ u:Nat,i = -(u:Int):=⟨i.natAbs,by omega⟩
  have hwr:IntKind.wrap .u64 (0-IntKind.wrap .u64 (-(u:Int)))=(u:Int):=by rw [wr_u64,wr_u64];omega
  rw [Lib.itoa_neg u (by omega),hwr]
  refine app1 f rfl (by omega) fun a' c' h' f'=>?_
  refine (c135 f' (by omega) u (by omega) t hb).mono ?_
  rintro _ h'' ⟨a2,c2,rfl,f2⟩
  refine ⟨_,_,_,rfl,a2,c2,?_,?_⟩
  ·rw [List.length_cons,show n+((Lib.decDigits u).length+1)=n+1+(Lib.decDigits u).length by omega]
  ·rw [List.length_cons,show n+((Lib.decDigits u).length+1)=n+1+(Lib.decDigits u).length by omega]
   have e:vs++byC (45::Lib.decDigits u)=vs++[Value.int .u8 45]++byC (Lib.decDigits u):=by simp [byC]
   rw [e];exact f2
 ·obtain ⟨u,rfl⟩:∃ u:Nat,i=(u:Int):=⟨i.toNat,by omega⟩
  have hwr:IntKind.wrap .u64 (u:Int)=(u:Int):=by rw [wr_u64];omega
  rw [Lib.itoa_nonneg u,hwr]
  refine (c135 f (by omega) u (by omega) t hb).mono ?_
  rintro _ h'' ⟨a2,c2,rfl,f2⟩
  exact ⟨_,_,_,rfl,a2,c2,rfl,f2⟩
theorem c70 {a:Option Addr} {n c:Nat} {vs:List Value} (f:Fr h0 1 h a n c vs) (hn:n≤900000) (i:Int) (h1:-9223372036854775808≤i) (h2:i≤9223372036854775807) (t:TabH h0) (hb:1<h0.size):CallsH Tryz.prog 70 #[.slice a n c,.int .i64 i,.int .i64 10] h fun w h'=>∃ a' c',w=.slice a' (n+(Lib.itoa i).length) c'/\Fr h0 1 h' a' (n+(Lib.itoa i).length) c' (vs++byC (Lib.itoa i)):=by
 refine run70 a n c i 10 _ h ((c106 f hn i h1 h2 t hb).mono ?_)
 rintro _ h'' ⟨a2,c2,rfl,f2⟩
 exact ⟨_,_,_,rfl,a2,c2,rfl,f2⟩
end
end Go.Proofs.YtobageabpfkpcaaGreatDoor
set_option maxRecDepth 100000
namespace Go.Hx
open Go.Proofs.YtobageabpfkpcaaGreatDoor
def litT (l:List Int):List UInt8:=l.flatMap fun x=>Lib.itoa x++[32]
theorem litT_snoc (l:List Int) (x:Int):litT (l++[x])=litT l++(Lib.itoa x++[32]):=by simp [litT]
def hdT (F:Fm):List UInt8:=pcnf++Lib.itoa F.vars++[32]++Lib.itoa (F.cls.length:Int)++[10]
def priA:List (List Int)->List UInt8->List UInt8×Int
 | [],b=>(b,0)
 | c::r,b=>if 262144<(b++(litT c++[48,10])).length then ([],2) else priA r (b++(litT c++[48,10]))
def priR (F:Fm):List UInt8×Int:=if (chkF F).2≠0 then ([],(chkF F).2) else priA F.cls (hdT F)
theorem priA_drop {L:List (List Int)} {b:List UInt8} {i:Nat} (hi:i<L.length):priA (L.drop i) b=if 262144<(b++(litT L[i]++[48,10])).length then ([],2) else priA (L.drop (i+1)) (b++(litT L[i]++[48,10])):=by
 rw [List.drop_eq_getElem_cons hi,priA]
theorem priA_end {L:List (List Int)} {b:List UInt8} {i:Nat} (hi:L.length≤i):priA (L.drop i) b=(b,0):=by rw [List.drop_eq_nil_of_le hi];rfl
theorem itoa_le {n:Int} (h1:-9223372036854775808≤n) (h2:n≤9223372036854775807):(Lib.itoa n).length≤21:=by
 unfold Lib.itoa
 split
 ·have:=Go.Lib.nDigits_le20 n.natAbs (by omega)
  rw [List.length_cons,Lib.decDigits_length];omega
 ·have:=Go.Lib.nDigits_le20 n.toNat (by omega)
  rw [Lib.decDigits_length];omega
theorem litT_le:∀ {l:List Int},(∀ x∈l,-262144≤x/\x≤262144)->(litT l).length≤22*l.length
 | [],_=>Nat.zero_le _
 | x::r,h=>by
  have h1:=litT_le (l:=r) fun y hy=>h y (by simp [hy])
  have h2:=itoa_le (n:=x) (by have:=h x (by simp);omega) (by have:=h x (by simp);omega)
  have:litT (x::r)=(Lib.itoa x++[32])++litT r:=by simp [litT]
  rw [this]
  simp only [List.length_append,List.length_cons,List.length_nil]
  omega
theorem Gl.two {h:Heap} (g:Gl h):1<h.size:=by
 obtain ⟨-,⟨a,b,hs⟩,-⟩:=g
 have:(2:Nat)<h.size:=cellH_lt hs
 omega
theorem Fr.marked {h0 h:Heap} (u:Ext h0 h) (l:List Value) (e:TypeId) (n c:Nat) (hn:n≤c) (hc:l.length=c):Fr h0 1 (h.push (.cells l.toArray e (c,c+1))) (some ⟨h.size,0,none⟩) n c (l.take n):=by
 refine ⟨⟨⟨fun i v hv=>?_,by rw [List.length_take];omega⟩,hn,rfl,l.toArray,e,(c,c+1),push_at _ _,by simp;omega,fun i h1 h2 h3=>?_⟩,fun ad ha=>by cases ha;exact u.1,u.trans (Ext.push h _)⟩
 ·rw [cellH_row (push_at h _) rfl]
  have hi:=(List.getElem?_eq_some_iff.1 hv).1
  rw [List.length_take] at hi
  rw [List.getElem?_take_of_lt (by omega)] at hv
  simpa using hv
 ·simp only at h1 h2 h3;omega
theorem set_push (h:Heap) (o o':Obj):(h.push o).setIfInBounds h.size o'=h.push o':=by
 apply Array.ext_getElem?
 intro i
 rw [Array.getElem?_setIfInBounds,Array.getElem?_push,Array.getElem?_push]
 by_cases hi:h.size=i
 ·subst hi;simp
 ·have h1:¬ i=h.size:=fun e=>hi e.symm
  rw [if_neg hi,if_neg h1,if_neg h1]
end Go.Hx
namespace Go.Proofs.YtobageabpfkpcaaGreatDoor
open Go.Hx Go.RowKit
section
variable {h:Heap} {v:FV} {F:Fm}
theorem c36 (r:FIs h v F) (ok:F.Ok) (t:TabH h) (hs:1<h.size):CallsH Tryz.prog 36 #[v.v] h (Xt (.tuple #[.string (mk (priR F).1),.int .i64 (priR F).2]) h):=by
 have hlen:=r.r.len
 have hv:=r.n
 refine run36 v.n v.s.a v.s.n v.s.c _ h ?_
 unfold VC36
 intro h1
 have e1:Ext h h1:=Ext.box h _
 have hb:Rd h1 (some ⟨h.size,0,none⟩) 2 v.cs:=boxF v 24
 refine ldF hb (useX (c34 (r.ext e1) ok) fun h2 e2=>⟨_,_,rfl,fun hz=>?_,fun hz=>⟨by unfold priR;rw [if_pos hz],e1.trans e2⟩⟩)
 have e02:=e1.trans e2
 obtain ⟨v0,v1,vn,vc⟩:=chkF_ok hz
 have hP:priR F=priA F.cls (hdT F):=by unfold priR;rw [if_neg (by simp [hz])]
 have hb2:=hb.ext e2
 have t2:TabH h2:=t.ext e02 hs
 have hs2:1<h2.size:=by have:=e02.1;omega
 unfold J36_0
 intro h3
 refine AtP.mk rfl ⟨_,5,push_at h2 _,?_⟩
 rw [set_push]
 have f4:Fr h2 1 (h2.push (.cells (byC pcnf).toArray 5 (6,7))) (some ⟨h2.size,0,none⟩) 6 6 (byC pcnf):=Fr.marked (.refl h2) (byC pcnf) 5 6 6 (Nat.le_refl _) rfl
 refine ⟨_,(hb2.ext f4.ext).fld 0 rfl,(c70 f4 (by omega) v.n (by omega) (by omega) t2 hs2).mono ?_⟩
 rintro _ h5 ⟨a5,c5,rfl,f5⟩
 have l1:=itoa_le (n:=F.vars) (by omega) (by omega)
 have l2:=itoa_le (n:=(F.cls.length:Int)) (by omega) (by omega)
 rw [hv] at f5 ⊢
 refine ⟨_,_,_,rfl,?_⟩
 intro h6
 refine app1 f5 rfl (by omega) fun a7 c7 h7 f7=>?_
 refine ⟨_,_,_,(hb2.ext f7.ext).fld 1 rfl,(c70 f7 (by omega) (v.s.n:Int) (by omega) (by omega) t2 hs2).mono ?_⟩
 rintro _ h8 ⟨a8,c8,rfl,f8⟩
 rw [<- hlen] at f8 ⊢
 refine ⟨_,_,_,rfl,?_⟩
 intro h9
 refine app1 f8 rfl (by omega) fun a10 c10 h10 f10=>?_
 refine ⟨_,_,_,(hb2.ext f10.ext).fld 1 rfl,?_⟩
 have ehd:byC pcnf++byC (Lib.itoa F.vars)++[Value.int .u8 32]++byC (Lib.itoa (F.cls.length:Int))++[Value.int .u8 10]=byC (hdT F):=by unfold hdT;simp only [byC_app];rfl
 have nhd:6+(Lib.itoa F.vars).length+1+(Lib.itoa (F.cls.length:Int)).length+1=(hdT F).length:=by unfold hdT;simp only [List.length_append,List.length_singleton];rfl
 rw [ehd,nhd] at f10
 rw [nhd]
 obtain ⟨rows,a1,a2,a3⟩:=r.r.ex
 have hrl:rows.length=F.cls.length:=by rw [<- a3,List.length_map]
 refine LoopT.to2 (n:=F.cls.length) (by omega) (fun i (s:Option Addr×Nat×Nat) h'=>∃ b:List UInt8,s.2.1=b.length/\b.length≤262144/\priR F=priA (F.cls.drop i) b/\Fr h2 1 h' s.1 s.2.1 s.2.2 (byC b)) ⟨hdT F,rfl,by omega,hP,f10⟩ ?_
 rintro i ⟨a,n,c⟩ h11 K hi ⟨b,hn,hbl,hI,f⟩ hK
 obtain rfl:n=b.length:=hn
 have f:Fr h2 1 h11 a b.length c (byC b):=f
 have e011:=e02.trans f.ext
 refine ⟨fun hlt=>?_,fun hlt=>?_⟩
 ·have hlt':(i:Int)<(v.s.n:Nat):=hlt
  have hil:i<F.cls.length:=by omega
  rw [priA_drop hil] at hI
  unfold J36_2
  refine ⟨by simp only;omega,hlt',(a1.ext e011).getn (i:=i) (by omega) fun ad hl1 hc=>⟨_,_,_,hc,?_⟩⟩
  obtain ⟨k1,k2⟩:=vc _ (List.getElem_mem hil)
  have hs':=(a2 _ (List.getElem_mem hl1)).1
  have hel:rows[i].l=F.cls[i]:=by
   have:(rows.map Rw.l)[i]?=F.cls[i]?:=by rw [a3]
   rw [List.getElem?_map,List.getElem?_eq_getElem hl1,List.getElem?_eq_getElem hil] at this
   exact Option.some.inj this
  rw [hel] at hs'
  have hsnl:=hs'.ilen
  generalize F.cls[i]=C at *
  generalize rows[i]=s at *
  refine LoopT.to2 (n:=s.n) (by omega) (fun k (q:Option Addr×Nat×Nat) h'=>q.2.1=(b++litT (C.take k)).length/\Fr h2 1 h' q.1 q.2.1 q.2.2 (byC (b++litT (C.take k)))) ⟨by simp [litT],by simpa [litT] using f⟩ ?_
  rintro k ⟨a2,n2,c2⟩ h12 K2 hk ⟨hn2,f2⟩ hK2
  obtain rfl:n2=(b++litT (C.take k)).length:=hn2
  have f2:Fr h2 1 h12 a2 (b++litT (C.take k)).length c2 (byC (b++litT (C.take k))):=f2
  have lle:=litT_le (l:=C.take k) fun x hx=>by have:=k2 x (List.mem_of_mem_take hx);omega
  rw [List.length_take] at lle
  have lb:(b++litT (C.take k)).length≤262144+22*16384:=by rw [List.length_append];omega
  refine ⟨fun hlt2=>?_,fun hlt2=>?_⟩
  ·have hlt2':(k:Int)<(s.n:Nat):=hlt2
   have hkl:k<C.length:=by omega
   have hx:=k2 _ (List.getElem_mem hkl)
   have hts:litT (C.take (k+1))=litT (C.take k)++(Lib.itoa C[k]++[32]):=by rw [List.take_succ_eq_append_getElem hkl,litT_snoc]
   unfold J36_5
   refine ⟨by simp only;omega,hlt2',(hs'.ext (e02.trans f2.ext)).getn (i:=k) (by omega) fun ad2 hl2 hc2=>⟨_,hc2,?_⟩⟩
   have li:=itoa_le (n:=C[k]) (by omega) (by omega)
   refine (c70 f2 (by omega) C[k] (by omega) (by omega) t2 hs2).mono ?_
   rintro _ h13 ⟨a13,c13,rfl,f13⟩
   refine ⟨_,_,_,rfl,?_⟩
   intro h14
   refine app1 f13 rfl (by omega) fun a15 c15 h15 f15=>?_
   refine hK2 (a15,_,c15) h15 (by omega) ⟨?_,?_⟩
   ·show _+1=_
    rw [hts];simp only [List.length_append,List.length_singleton];omega
   ·rw [hts]
    show Fr h2 1 h15 a15 _ c15 _
    have e:byC (b++(litT (C.take k)++(Lib.itoa C[k]++[32])))=byC (b++litT (C.take k))++byC (Lib.itoa C[k])++[Value.int .u8 32]:=by simp only [byC_app,List.append_assoc];rfl
    rw [e];exact f15
  ·have hlt2':¬ (k:Int)<(s.n:Nat):=hlt2
   rw [List.take_of_length_le (by omega)] at f2 lb
   rw [List.take_of_length_le (show C.length≤k by omega)]
   unfold J36_4
   have e2:(ByteArray.mk #[48,10]).size=2:=rfl
   refine f2.app (e:=5) (bytes:=1) (ys:=bytesV (ByteArray.mk #[48,10])) (m:=(ByteArray.mk #[48,10]).size) rfl (by intro y hy;exact byC_one (l:=[48,10]) y hy) (by rw [e2];omega) fun a19 c19 h19 f19 _ _=>?_
   have e19:byC (b++litT C)++bytesV (ByteArray.mk #[48,10])=byC (b++(litT C++[48,10])):=by simp only [byC_app,List.append_assoc];rfl
   have n19:(b++litT C).length+(ByteArray.mk #[48,10]).size=(b++(litT C++[48,10])).length:=by simp only [List.length_append];rw [e2];simp only [List.length_cons,List.length_nil];omega
   rw [e19,n19] at f19
   rw [n19]
   refine ⟨fun hbig=>?_,fun hbig=>?_⟩
   ·rw [if_pos (by omega)] at hI
    rw [hI]
    exact ⟨rfl,e02.trans f19.ext⟩
   ·rw [if_neg (by omega)] at hI
    unfold J36_3
    exact hK (a19,_,c19) h19 (by omega) ⟨_,rfl,by omega,hI,f19⟩
 ·have hlt':¬ (i:Int)<(v.s.n:Nat):=hlt
  rw [priA_end (by omega)] at hI
  unfold J36_1
  refine ⟨mk b,rfl,f.rd.read,?_,e011⟩
  rw [hI]
end
end Go.Proofs.YtobageabpfkpcaaGreatDoor
set_option maxRecDepth 100000
namespace Go.Hx
open Go.Proofs.YtobageabpfkpcaaGreatDoor
theorem dg48 {k:Nat} (h:k<10):(UInt8.ofNat (48+k)).toNat=48+k:=by
 rw [UInt8.toNat_ofNat'];omega
theorem dd_all (u:Nat):Lib.decDigits u≠[]/\(∀ b∈Lib.decDigits u,isDig b=true)/\val 0 (Lib.decDigits u)=u/\((Lib.decDigits u).head?≠some 48∨Lib.decDigits u=[48])/\(1≤u->(Lib.decDigits u).head?≠some 48):=by
 induction u using Nat.strongRecOn with
 | _ u ih=>
  by_cases h:u<10
  ·have e:Lib.decDigits u=[UInt8.ofNat (48+u)]:=by rw [Lib.decDigits,dif_pos h]
   have e8:=dg48 h
   rw [e]
   refine ⟨by simp,fun b hb=>?_,?_,?_,fun h1=>?_⟩
   ·rw [List.mem_singleton] at hb;subst hb;exact isDig_t.2 ⟨by omega,by omega⟩
   ·rw [val_cons];show 0*10+_=u;rw [e8];omega
   ·by_cases h0:u=0
    ·subst h0;exact .inr rfl
    ·left
     intro hh
     have:=congrArg UInt8.toNat (Option.some.inj hh)
     rw [e8] at this
     have e9:(48:UInt8).toNat=48:=rfl
     omega
   ·intro hh
    have:=congrArg UInt8.toNat (Option.some.inj hh)
    rw [e8] at this
    have e9:(48:UInt8).toNat=48:=rfl
    omega
  ·have e:Lib.decDigits u=Lib.decDigits (u / 10)++[UInt8.ofNat (48+u % 10)]:=by rw [Lib.decDigits,dif_neg h]
   obtain ⟨a,b,c,d,f⟩:=ih (u / 10) (by omega)
   have e8:=dg48 (Nat.mod_lt u (show 0<10 by decide))
   have hh:(Lib.decDigits (u / 10)++[UInt8.ofNat (48+u % 10)]).head?=(Lib.decDigits (u / 10)).head?:=by
    cases hx:Lib.decDigits (u / 10) with
    | nil=>exact absurd hx a
    | cons x r=>rfl
   rw [e]
   refine ⟨by simp,fun x hx=>?_,?_,.inl (by rw [hh];exact f (by omega)),fun _=>by rw [hh];exact f (by omega)⟩
   ·rcases List.mem_append.1 hx with hx | hx
    ·exact b x hx
    ·rw [List.mem_singleton] at hx;subst hx;exact isDig_t.2 ⟨by omega,by omega⟩
   ·rw [val_app,c,val_cons]
    show u / 10*10+_=u
    rw [e8];omega
theorem itoa_whole (x:Int):wholeOk (Lib.itoa x)=true/\wholeV (Lib.itoa x)=x/\(Lib.itoa x).take 2≠[99,32]:=by
 unfold Lib.itoa
 split
 ·rename_i hneg
  obtain ⟨a,b,c,d,f⟩:=dd_all x.natAbs
  have hb:bodyL (45::Lib.decDigits x.natAbs)=Lib.decDigits x.natAbs:=rfl
  refine ⟨wholeOk_t.2 (by rw [hb];exact ⟨a,.inl (f (by omega)),b⟩),?_,?_⟩
  ·show -(val 0 (Lib.decDigits x.natAbs):Int)=x
   rw [c];omega
  ·intro h;have:=(List.cons.inj h).1;cases this
 ·rename_i hpos
  obtain ⟨a,b,c,d,f⟩:=dd_all x.toNat
  have h45:(Lib.decDigits x.toNat).take 1≠[45]:=by
   intro h
   cases hx:Lib.decDigits x.toNat with
   | nil=>exact a hx
   | cons y r=>
    rw [hx] at h b
    have:=isDig_t.1 (b y (by simp))
    have hy:y=45:=by simpa using h
    subst hy
    exact absurd this (by decide)
  have hb:bodyL (Lib.decDigits x.toNat)=Lib.decDigits x.toNat:=by unfold bodyL;rw [if_neg h45]
  refine ⟨wholeOk_t.2 (by rw [hb];exact ⟨a,d,b⟩),?_,?_⟩
  ·unfold wholeV;rw [if_neg h45,hb,c];omega
  ·intro h
   cases hx:Lib.decDigits x.toNat with
   | nil=>exact a hx
   | cons y r=>
    rw [hx] at h b
    have:=isDig_t.1 (b y (by simp))
    have hy:y=99:=by
     cases r with
     | nil=>simp at h
     | cons z r=>simp at h;exact h.1
    subst hy
    exact absurd this (by decide)
theorem itoa_ne (x:Int):Lib.itoa x≠[]/\∀ b∈Lib.itoa x,isBl b=false/\nl10 b=true:=by
 have dg:∀ b,isDig b=true->isBl b=false/\nl10 b=true:=fun b hb=>by
  have:=isDig_t.1 hb
  refine ⟨?_,?_⟩
  ·unfold isBl;rw [decide_eq_false];omega
  ·unfold nl10
   rw [bne_iff_ne]
   intro h
   subst h
   exact absurd this (by decide)
 unfold Lib.itoa
 split
 ·obtain ⟨a,b,c,d,f⟩:=dd_all x.natAbs
  refine ⟨by simp,fun y hy=>?_⟩
  rcases List.mem_cons.1 hy with rfl | hy
  ·exact ⟨by decide,by decide⟩
  ·exact dg y (b y hy)
 ·obtain ⟨a,b,c,d,f⟩:=dd_all x.toNat
  exact ⟨a,fun y hy=>dg y (b y hy)⟩
theorem cntS_itoa {n m:Int} (h0:0≤n) (h1:n≤m):cntS (Lib.itoa n) m=some n:=by
 unfold Lib.itoa
 rw [if_neg (by omega)]
 obtain ⟨a,b,c,d,f⟩:=dd_all n.toNat
 rw [cntS_of a d b (by rw [c];omega),c]
 congr 1;omega
theorem lnS_word {w r:List UInt8} {i:Nat} {s:RS} (hne:w≠[]) (hb:∀ b∈w,isBl b=false) (h0:(wdS s w).2=0):lnS (w++32::r) 0 i s=lnS r 0 (i+w.length+1) (wdS s w).1:=by
 cases w with
 | nil=>exact absurd rfl hne
 | cons b w=>
  have ht:(w++32::r).takeWhile nb=w:=by
   rw [List.takeWhile_append_of_pos (fun x hx=>by unfold nb;rw [hb x (by simp [hx])];rfl),List.takeWhile_cons_of_neg (by decide),List.append_nil]
  rw [List.cons_append,lnS,if_neg (by rw [hb b (by simp)];simp),ht,if_neg (by simp [h0]),lnS_skip]
  rw [List.drop_left,lnS,if_pos (by decide)]
  rw [List.length_cons,show i+1+w.length+1=i+(w.length+1)+1 by omega]
theorem lnS_last {w:List UInt8} {i:Nat} {s:RS} (hne:w≠[]) (hb:∀ b∈w,isBl b=false) (h0:(wdS s w).2=0):lnS w 0 i s=((wdS s w).1,0,0):=by
 cases w with
 | nil=>exact absurd rfl hne
 | cons b w=>
  have ht:w.takeWhile nb=w:=tw_all fun x hx=>by unfold nb;rw [hb x (by simp [hx])];rfl
  rw [lnS,if_neg (by rw [hb b (by simp)];simp),ht,if_neg (by simp [h0]),lnS_skip,List.drop_length]
  rfl
theorem wdS_lit {s:RS} {x:Int} (h0:x≠0) (h1:-s.vars≤x) (h2:x≤s.vars) (h3:(s.cls.length:Int)<s.want) (h4:s.cur.length<16384):wdS s (Lib.itoa x)=({ s with cur:=s.cur++[x],op:=true },0):=by
 obtain ⟨a,b,_⟩:=itoa_whole x
 unfold wdS
 rw [if_neg (by rw [a];simp),b,if_neg (by omega),if_neg (by omega),if_neg h0,if_neg (by omega)]
theorem wdS_zero {s:RS} (h0:0≤s.vars) (h3:(s.cls.length:Int)<s.want):wdS s [48]=({ s with cls:=s.cls++[s.cur],cur:=[],op:=false },0):=by
 have a:wholeOk [48]=true:=by decide
 have b:wholeV [48]=0:=by decide
 unfold wdS
 rw [if_neg (by rw [a];simp),b,if_neg (by omega),if_neg (by omega),if_pos rfl]
theorem lnS_clause:∀ {c:List Int} {i:Nat} {s:RS},0≤s.vars->(∀ x∈c,x≠0 /\-s.vars≤x/\x≤s.vars)->(s.cls.length:Int)<s.want->s.cur.length+c.length≤16384->lnS (litT c++[48]) 0 i s=({ s with cls:=s.cls++[s.cur++c],cur:=[],op:=false },0,0)
 | [],i,s,h0,hc,hw,hl=>by
  have h:=wdS_zero h0 hw
  show lnS [48] 0 i s=_
  rw [lnS_last (by simp) (by intro b hb;rw [List.mem_singleton] at hb;subst hb;decide) (by rw [h]),h,List.append_nil]
 | x::c,i,s,h0,hc,hw,hl=>by
  obtain ⟨a,b,d⟩:=hc x (by simp)
  rw [List.length_cons] at hl
  have h:=wdS_lit a b d hw (show s.cur.length<16384 by omega)
  obtain ⟨n1,n2⟩:=itoa_ne x
  have e:litT (x::c)++[48]=Lib.itoa x++32::(litT c++[48]):=by simp [litT]
  rw [e,lnS_word n1 (fun b hb=>(n2 b hb).1) (by rw [h]),h]
  rw [lnS_clause (s:={ s with cur:=s.cur++[x],op:=true }) h0 (fun y hy=>hc y (by simp [hy])) hw (by simp only [List.length_append,List.length_singleton];omega)]
  simp
theorem txS_line {n:Nat} {l r:List UInt8} {i:Nat} {g:Bool} {s:RS} (hne:l≠[]) (hl:∀ b∈l,nl10 b=true):txS n (l++10::r) 0 i g s =
  if comL l=true then txS n r 0 (i+l.length+1) g s
  else match g with
   | true=>if (lnS l 0 0 s).2.2≠0 then (noF,(i:Int)+(lnS l 0 0 s).2.1,(lnS l 0 0 s).2.2) else txS n r 0 (i+l.length+1) true (lnS l 0 0 s).1
   | false=>match prS l with
    | none=>(noF,(i:Int),140)
    | some (x,y)=>txS n r 0 (i+l.length+1) true { s with vars:=x,want:=y }:=by
 have hline:lineAt (l++10::r) 0=l:=by
  unfold lineAt
  rw [List.drop_zero,List.takeWhile_append_of_pos hl,List.takeWhile_cons_of_neg (by decide),List.append_nil]
 have hd:(l++10::r).drop (0+l.length+1)=r:=by
  rw [Nat.zero_add,List.drop_append];simp
 cases l with
 | nil=>exact absurd rfl hne
 | cons b l=>
  have key:∀ g s,txS n (l++10::r) (b::l).length (i+1) g s=txS n r 0 (i+(b::l).length+1) g s:=fun g s=>by
   rw [txS_skip]
   have:(l++10::r).drop (b::l).length=r:=by rw [List.length_cons,List.drop_append];simp
   rw [this,show i+1+(b::l).length=i+(b::l).length+1 by omega]
  have htw:(b::(l++10::r)).takeWhile nl10=b::l:=by
   have:=hline
   unfold lineAt at this
   rw [List.drop_zero] at this
   exact this
  rw [List.cons_append]
  cases g with
  | true=>rw [txS,htw];simp only [key]
  | false=>rw [txS,htw];simp only [key];try rfl
theorem litT_ok (c:List Int):∀ b∈litT c++[48],nl10 b=true:=by
 intro b hb
 rcases List.mem_append.1 hb with hb | hb
 ·unfold litT at hb
  obtain ⟨x,hx,hb⟩:=List.mem_flatMap.1 hb
  rcases List.mem_append.1 hb with hb | hb
  ·exact ((itoa_ne x).2 b hb).2
  ·rw [List.mem_singleton] at hb;subst hb;decide
 ·rw [List.mem_singleton] at hb;subst hb;decide
theorem litT_com (c:List Int):comL (litT c++[48])=false:=by
 have key:∀ l:List UInt8,(∀ b,l.head?=some b->b≠99)->comL l=false:=fun l h=>by
  unfold comL
  rw [decide_eq_false (fun e=>by subst e;exact h 99 rfl rfl),decide_eq_false]
  ·rfl
  ·intro e
   cases l with
   | nil=>cases e
   | cons b r=>
    have hb:b=99:=by
     cases r with
     | nil=>simp at e
     | cons z r=>simp at e;exact e.1
    exact h b rfl hb
 refine key _ fun b hb e=>?_
 subst e
 cases c with
 | nil=>cases hb
 | cons x c=>
  have e:litT (x::c)++[48]=Lib.itoa x++([32]++litT c++[48]):=by simp [litT]
  rw [e] at hb
  obtain ⟨n1,n2⟩:=itoa_ne x
  have h1:(Lib.itoa x).head?=some 99:=by
   cases hx:Lib.itoa x with
   | nil=>exact absurd hx n1
   | cons y r=>rw [hx] at hb;exact hb
  unfold Lib.itoa at h1
  split at h1
  ·cases h1
  ·obtain ⟨a,b,_⟩:=dd_all x.toNat
   cases hx:Lib.decDigits x.toNat with
   | nil=>exact a hx
   | cons y r=>
    rw [hx] at h1 b
    have:=isDig_t.1 (b y (by simp))
    have hy:y=99:=by simpa using h1
    subst hy
    exact absurd this (by decide)
def clsT (L:List (List Int)):List UInt8:=L.flatMap fun c=>litT c++[48,10]
theorem txS_clauses {n:Nat}:∀ {L:List (List Int)} {i:Nat} {s:RS},0≤s.vars->(∀ c∈L,c.length≤16384/\∀ x∈c,x≠0 /\-s.vars≤x/\x≤s.vars)->s.cur=[]->s.op=false->(s.cls.length:Int)+L.length=s.want->txS n (clsT L) 0 i true s=(⟨s.vars,s.cls++L⟩,0,0)
 | [],i,s,h0,hc,hcur,hop,hw=>by
  show txS n [] 0 i true s=_
  rw [txS,if_neg (by simp),if_neg (by rw [hop];simp),if_neg (by simp at hw;omega),List.append_nil]
 | c::L,i,s,h0,hc,hcur,hop,hw=>by
  rw [List.length_cons] at hw
  obtain ⟨k1,k2⟩:=hc c (by simp)
  have e:clsT (c::L)=(litT c++[48])++10::clsT L:=by simp [clsT]
  have hl:=lnS_clause (c:=c) (i:=0) (s:=s) h0 k2 (by omega) (by rw [hcur];simpa using k1)
  rw [hcur,List.nil_append] at hl
  rw [e,txS_line (by simp) (litT_ok c),litT_com,if_neg (by simp)]
  simp only
  rw [hl,if_neg (by simp)]
  rw [txS_clauses (s:={ s with cls:=s.cls++[c],cur:=[],op:=false }) h0 (fun d hd=>hc d (by simp [hd])) rfl rfl (by simp only [List.length_append,List.length_singleton];omega)]
  simp
theorem priA_ok:∀ {L:List (List Int)} {b t:List UInt8},b.length≤262144->priA L b=(t,0)->t=b++clsT L/\t.length≤262144
 | [],b,t,hb,h=>by
  cases h
  exact ⟨by simp [clsT],hb⟩
 | c::r,b,t,hb,h=>by
  unfold priA at h
  split at h
  ·cases h
  ·rename_i h1
   obtain ⟨h2,h3⟩:=priA_ok (by omega) h
   exact ⟨by rw [h2];simp [clsT],h3⟩
theorem hdT_len {F:Fm} (hz:(chkF F).2=0):(hdT F).length≤60:=by
 obtain ⟨v0,v1,vn,vc⟩:=chkF_ok hz
 have l1:=itoa_le (n:=F.vars) (by omega) (by omega)
 have l2:=itoa_le (n:=(F.cls.length:Int)) (by omega) (by omega)
 unfold hdT
 simp only [List.length_append,List.length_singleton]
 show 6+_+1+_+1≤_
 omega
theorem txR_pri {F:Fm} (h:(priR F).2=0):(chkF F).2=0/\(priR F).1.length≤262144/\txR (priR F).1=(F,0,0):=by
 unfold priR at h ⊢
 by_cases hz:(chkF F).2=0
 ·rw [if_neg (by simp [hz])] at h ⊢
  obtain ⟨v0,v1,vn,vc⟩:=chkF_ok hz
  obtain ⟨t,ht⟩:∃ t,priA F.cls (hdT F)=(t,0):=⟨(priA F.cls (hdT F)).1,by rw [<- h]⟩
  have hh:=hdT_len hz
  obtain ⟨e,hle⟩:=priA_ok (by omega) ht
  rw [ht]
  refine ⟨hz,hle,?_⟩
  show txR t=_
  unfold txR
  rw [if_neg (by omega)]
  have et:t=(pcnf++(Lib.itoa F.vars++32::Lib.itoa (F.cls.length:Int)))++10::clsT F.cls:=by
   rw [e];unfold hdT;simp
  generalize t.length=n
  obtain ⟨a1,a2⟩:=itoa_ne F.vars
  obtain ⟨b1,b2⟩:=itoa_ne (F.cls.length:Int)
  have hp:prS (pcnf++(Lib.itoa F.vars++32::Lib.itoa (F.cls.length:Int)))=some (F.vars,(F.cls.length:Int)):=
   prS_iff.2 ⟨_,_,rfl,cntS_itoa v0 v1,cntS_itoa (by omega) (by omega)⟩
  rw [et,txS_line (by simp [pcnf]) (fun b hb=>?_)]
  ·have hcom:comL (pcnf++(Lib.itoa F.vars++32::Lib.itoa (F.cls.length:Int)))=false:=by
    unfold comL
    rw [decide_eq_false (fun h=>by have:=(List.cons.inj h).1;cases this),decide_eq_false (fun h=>by have:=(List.cons.inj h).1;cases this)];rfl
   rw [hcom,if_neg (by simp)]
   simp only [hp]
   rw [txS_clauses (L:=F.cls) v0 vc rfl rfl (by simp)]
   simp
  ·rcases List.mem_append.1 hb with hb | hb
   ·exact (show ∀ b∈pcnf,nl10 b=true by decide) b hb
   ·rcases List.mem_append.1 hb with hb | hb
    ·exact (a2 b hb).2
    ·rcases List.mem_cons.1 hb with rfl | hb
     ·decide
     ·exact (b2 b hb).2
 ·rw [if_pos hz] at h
  exact absurd h hz
end Go.Hx
namespace Go.Proofs.YtobageabpfkpcaaGreatDoor
open Go.Hx Go.RowKit
section
variable {h:Heap} {v:FV} {F:Fm}
theorem priA_err:∀ {L:List (List Int)} {b:List UInt8},(priA L b).2≠0->priA L b=([],2)
 | [],b,h=>absurd rfl h
 | c::r,b,h=>by
  unfold priA at h ⊢
  split
  ·rfl
  ·rename_i h1
   rw [if_neg h1] at h
   exact priA_err h
theorem c9 (r:FIs h v F) (ok:F.Ok) (g:Gl h) (t:TabH h):CallsH Tryz.prog 9 #[v.v] h (Xt (.bool true) h):=by
 have hs:=Go.Hx.Gl.two g
 refine run9 v.n v.s.a v.s.n v.s.c _ h ?_
 unfold VC9
 intro h1
 have e1:Ext h h1:=Ext.box h _
 have hb:Rd h1 (some ⟨h.size,0,none⟩) 2 v.cs:=boxF v 24
 refine useX (c16 (g.ext e1)) fun h2 e2=>⟨_,rfl,BIf.f ?_⟩
 have e02:=e1.trans e2
 have hs2:1<h2.size:=by have:=e02.1;omega
 have hb2:=hb.ext e2
 unfold J9_0
 refine ldF hb2 (useX (c36 (r.ext e02) ok (t.ext e02 hs) hs2) fun h3 e3=>⟨_,_,rfl,fun hz=>?_,fun hz=>?_⟩)
 ·obtain ⟨p1,p2,p3⟩:=txR_pri hz
  have e03:=e02.trans e3
  unfold J9_1
  refine (c12 (mk (priR F).1) (g.ext e03)).mono ?_
  rintro _ h4 ⟨u,rfl,fn⟩
  rw [B_mk,p3] at fn ⊢
  refine ⟨_,_,_,_,_,_,rfl,?_⟩
  intro h5 h6
  refine flA (two2 (.refl h4)) u _ _ fun h7 m7=>?_
  have e37:=fn.heap.trans m7.ext
  refine ⟨_,_,(m7.get 1 rfl).rd.cells,fun _=>?_,fun hn=>absurd rfl hn⟩
  refine ldF (hb2.ext (e3.trans e37)) (ldF (m7.get 0 rfl).rd (useX (c39 (r.ext (e03.trans e37)) (fn.ext m7.ext).fis ok ok) fun h8 e8=>⟨_,rfl,?_⟩))
  rw [sameF]
  exact ⟨rfl,(e03.trans e37).trans e8⟩
 ·have e03:=e02.trans e3
  refine ldF (hb2.ext e3) (useX (c34 (r.ext e03) ok) fun h4 e4=>⟨_,_,rfl,?_⟩)
  have fin:Xt (.bool true) h (.bool true) h4:=⟨rfl,e03.trans e4⟩
  unfold priR at hz ⊢
  by_cases hc:(chkF F).2=0
  ·rw [if_neg (by simp [hc])] at hz ⊢
   rw [priA_err hz]
   exact ⟨fun _=>⟨fun _=>fin,fun _=>⟨fun _=>⟨fun _=>fin,fun hn=>absurd rfl hn⟩,fun hn=>absurd hc hn⟩⟩,fun hn=>absurd rfl hn⟩
  ·rw [if_pos hc]
   exact ⟨fun _=>⟨fun _=>fin,fun hn=>absurd rfl hn⟩,fun hn=>absurd rfl hn⟩
end
end Go.Proofs.YtobageabpfkpcaaGreatDoor
