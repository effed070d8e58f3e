/- Words and facts that the claim's proof leans on. No condition. -/
import Derived.Test.YtobageabpfkpcaaGreatDoorGP
import Derived.Test.YtobageabpfkpcaaGreatDoorCSi
import Derived.Test.YtobageabpfkpcaaGreatDoorCAj
import Derived.Test.YtobageabpfkpcaaGreatDoorCAi
import Derived.Lib.LaidTab
import Derived.Lib.ItoaLen
set_option linter.unusedVariables false
set_option linter.unusedSimpArgs false
set_option maxRecDepth 100000
namespace Go.Hx
def TabH (h : Heap) : Prop := ∀ w : World, w.heap = h → Lib.TabIs Go.Proofs.Tryz.prog w "internal/strconv.uint64pow10" .u64 Lib.pow10Tab
theorem TabH.ext {h h':Heap} (t:TabH h) (x:Ext h h') (hb:1<h.size):TabH h':=fun w hw=>by
 have h1:=t { w with heap:=h } rfl
 have hg : Go.Proofs.Tryz.prog.globalNamed "internal/strconv.uint64pow10" = some 1 := by kernel_rfl
 unfold Lib.TabIs World.var? at h1 ⊢
 rw [hg] at h1 ⊢
 simp only [Option.bind_eq_bind,Option.bind_some] at h1 ⊢
 rw [hw,x.2 1 hb fun z=>z]
 exact h1
def byC (l:List UInt8):List Value:=l.map fun b=>Value.int .u8 b.toNat
theorem byC_bytesV (l:List UInt8):bytesV (mk l)=byC l:=rfl
theorem byC_len (l:List UInt8):(byC l).length=l.length:=by simp [byC]
theorem byC_one {l:List UInt8}:∀ y∈byC l,y.oneCell'=true:=by intro y hy;obtain ⟨x,_,rfl⟩:=List.mem_map.1 hy;rfl
theorem byC_app (l m:List UInt8):byC (l++m)=byC l++byC m:=by simp [byC]
end Go.Hx
namespace Go.Proofs.YtobageabpfkpcaaGreatDoor
open Go.Hx Go.RowKit Go.Sort
section
variable {h0 h:Heap}
theorem c157 (i:Nat) (hi:i<100) (h:Heap):CallsH Tryz.prog 157 #[.int .i64 (i:Int)] h (Ret (.string ⟨(Lib.decDigits i).toArray⟩) h):=by
 intro w hw
 refine (Go.Proofs.Any.internal_strconv_small (P:=Tryz.prog) (ρ:=Tryz.laysM249_ren) { Tryz.laysM249 with } i hi w).mono ?_
 rintro e w' ⟨rfl,rfl⟩
 exact ⟨_,rfl,.refl _,rfl,hw⟩
theorem c158 (u:Nat) (h1:1≤u) (h2:u<18446744073709551616) (t:TabH h):CallsH Tryz.prog 158 #[.int .u64 (u:Int)] h (Ret (.int .i64 (Lib.nDigits u:Int)) h):=by
 intro w hw
 refine (Go.Proofs.Any.internal_strconv_numDigits (P:=Tryz.prog) (ρ:=Tryz.laysM249_ren) { Tryz.laysM249 with } u h1 h2 w (t w hw)).mono ?_
 rintro e w' ⟨rfl,rfl⟩
 exact ⟨_,rfl,.refl _,rfl,hw⟩
def z24:List Value:=List.replicate 24 (Value.int .u8 0)
theorem z24_at {j:Nat} (h:j<24):z24[j]?=some (Value.int .u8 0):=by unfold z24;rw [List.getElem?_replicate,if_pos h]
theorem c159 (u:Nat) (h2:u<18446744073709551616) (hd:Lib.nDigits u≤24) (h:Heap):CallsH Tryz.prog 159 #[.slice (some ⟨h.size,0,none⟩) (Lib.nDigits u) 24,.int .u64 (u:Int)] (h.push (.cells z24.toArray 184)) fun v h'=>v=.tuple #[]/\Fr h 1 h' (some ⟨h.size,0,none⟩) (Lib.nDigits u) 24 (byC (Lib.decDigits u)):=by
 intro w hw
 have hz:z24.toArray.size=24:=by simp [z24]
 have hb:w.heap[h.size]?=some (.cells z24.toArray 184 (0,0)):=by rw [hw];exact push_at h _
 have hH:Holds (fun (b:UInt8)=>Value.int .u8 (b.toNat:Int)) w h.size 0 (Array.replicate (Lib.nDigits u) 0):=by
  intro j hj
  have hj':j<Lib.nDigits u:=by simpa using hj
  constructor
  ·rw [cell_eq]
   unfold cellH
   simp only [hb,Option.isSome_none,Bool.false_eq_true,if_false,Nat.zero_add]
   rw [getElem!_pos _ j hj]
   rw [List.getElem?_toArray,z24_at (by omega)]
   simp
  ·unfold World.frozen?
   simp only [hb]
   simp
 have hsz:(Array.replicate (Lib.nDigits u) (0:UInt8)).size=Lib.nDigits u:=by simp
 have hp:=Go.Proofs.Any.internal_strconv_formatBase10 (P:=Tryz.prog) (ρ:=Tryz.laysM249_ren) { Tryz.laysM249 with } h.size 0 24 u (Array.replicate (Lib.nDigits u) 0) w hH (by rw [hsz];exact Lib.lt_pow_nDigits u) h2 (by rw [hsz];omega)
 rw [hsz] at hp
 refine hp.mono ?_
 rintro e w' ⟨rfl,n,v',dk,rfl,hf⟩
 have hdk:dk.size=Lib.nDigits u:=hf.size
 have hdl:=Lib.decDigits_length u
 have hheap:((putRow (fun (b:UInt8)=>Value.int .u8 (b.toNat:Int)) w h.size 0 dk).drewN n).heap=w.heap.setIfInBounds h.size (.cells (putCells (fun (b:UInt8)=>Value.int .u8 (b.toNat:Int)) 0 dk z24.toArray) 184 (0,0)):=by
  show w.heap.modify h.size _=_
  rw [modify_at hb]
  rfl
 have hlt:h.size<w.heap.size:=(Array.getElem?_eq_some_iff.1 hb).1
 have hrow:(w.heap.setIfInBounds h.size (.cells (putCells (fun (b:UInt8)=>Value.int .u8 (b.toNat:Int)) 0 dk z24.toArray) 184 (0,0)))[h.size]?=some (.cells (putCells (fun (b:UInt8)=>Value.int .u8 (b.toNat:Int)) 0 dk z24.toArray) 184 (0,0)):=set_at hlt _
 refine ⟨_,rfl,⟨rfl,rfl,rfl,⟨?_,.inl (Nat.le_add_right _ _)⟩⟩,rfl,?_⟩
 ·rw [hheap];simp
 ·rw [hheap]
  refine ⟨⟨⟨fun j v hv=>?_,by rw [byC_len,hdl];omega⟩,hd,rfl,_,184,(0,0),hrow,by unfold putCells;simp [z24],loose0 _ _⟩,fun ad ha=>by cases ha;exact Nat.le_refl _,?_⟩
  ·have hj:j<Lib.nDigits u:=by have:=(List.getElem?_eq_some_iff.1 hv).1;rw [byC_len,hdl] at this;exact this
   rw [cellH_row hrow rfl]
   have hr:=Lib.row_is_numeral hf j (by omega)
   unfold byC at hv
   rw [List.getElem?_map,List.getElem?_eq_getElem (by omega)] at hv
   rw [hr] at hv
   rw [<- hv]
   show (putCells (fun (b:UInt8)=>Value.int .u8 (b.toNat:Int)) 0 dk z24.toArray)[0+j]?=_
   rw [putCells_at (by omega) (by rw [hz];omega)]
   simp
   rw [getElem!_pos dk j (by omega)]
  ·have e1:Ext h w.heap:=by rw [hw];exact Ext.push h _
   exact e1.newer (set_upd w.heap h.size _) fun i hi e=>by omega
theorem c135 {a:Option Addr} {n c:Nat} {vs:List Value} (f:Fr h0 1 h a n c vs) (hn:n≤1000000) (u:Nat) (h2:u<18446744073709551616) (t:TabH h0) (hb:1<h0.size):CallsH Tryz.prog 135 #[.slice a n c,.int .u64 (u:Int),.int .i64 10] h fun w h'=>∃ a' c',w=.slice a' (n+(Lib.decDigits u).length) c'/\Fr h0 1 h' a' (n+(Lib.decDigits u).length) c' (vs++byC (Lib.decDigits u)):=by
 have hd20:=Go.Lib.nDigits_le20 u h2
 have hdl:=Lib.decDigits_length u
 refine run135 a n c (u:Int) 10 _ h ⟨fun _=>⟨fun hs=>?_,fun hs=>?_⟩,fun hn=>absurd rfl hn⟩
 ·rw [w64 (x:=(u:Int)) (by omega) (by omega)]
  refine use (c157 u (by omega) h) ⟨_,rfl,?_⟩
  refine f.app (m:=(Lib.decDigits u).length) (by rw [Nat.mul_one];exact byC_len _) byC_one (by omega) fun a' c' h' f' _ _=>⟨a',c',rfl,f'⟩
 ·unfold J135_0
  intro h3
  have e3:h3=h.push (.cells z24.toArray 184):=rfl
  have x3:Ext h h3:=Ext.push h _
  refine use (c158 u (by omega) h2 (t.ext (f.ext.trans x3) hb)) ⟨_,rfl,by omega,by omega,by omega,?_⟩
  rw [show (Int.toNat 0)=0 from rfl,cutR0]
  have ed:Int.toNat (Lib.nDigits u:Int)-0=Lib.nDigits u:=by simp
  rw [ed]
  rw [e3]
  refine (c159 u h2 (by omega) h).mono ?_
  rintro _ h5 ⟨rfl,f5⟩
  refine ⟨rfl,by omega,by omega,by omega,_,f5.rd.read,by rw [byC_len,hdl];omega,?_⟩
  have:=(f.upd f5.ext).app (e:=5) (bytes:=1) (z:=#[.int .u8 0]) (ys:=byC (Lib.decDigits u)) (m:=Lib.nDigits u) (by rw [byC_len,hdl];omega) byC_one (by omega)
   (K:=fun apA1 apN1 apC1 h_6=>∃ a' c',(Value.slice apA1 apN1 apC1)=.slice a' (n+(Lib.decDigits u).length) c'/\Fr h0 1 h_6 a' (n+(Lib.decDigits u).length) c' (vs++byC (Lib.decDigits u))) fun a' c' h' f' _ _=>⟨a',c',by rw [hdl],by rw [hdl];exact f'⟩
  exact this
theorem c106 {a:Option Addr} {n c:Nat} {vs:List Value} (f:Fr h0 1 h a n c vs) (hn:n≤900000) (i:Int) (h1:-9223372036854775808≤i) (h2:i≤9223372036854775807) (t:TabH h0) (hb:1<h0.size):CallsH Tryz.prog 106 #[.slice a n c,.int .i64 i,.int .i64 10] h fun w h'=>∃ a' c',w=.slice a' (n+(Lib.itoa i).length) c'/\Fr h0 1 h' a' (n+(Lib.itoa i).length) c' (vs++byC (Lib.itoa i)):=by
 refine run106 a n c i 10 _ h ⟨fun hneg=>?_,fun hpos=>?_⟩
 ·obtain ⟨u,rfl⟩:∃ u:Nat,i = -(u:Int):=⟨i.natAbs,by omega⟩
  have hwr:IntKind.wrap .u64 (0-IntKind.wrap .u64 (-(u:Int)))=(u:Int):=by rw [wr_u64,wr_u64];omega
  rw [Lib.itoa_neg u (by omega),hwr]
  refine app1 f rfl (by omega) fun a' c' h' f'=>?_
  refine (c135 f' (by omega) u (by omega) t hb).mono ?_
  rintro _ h'' ⟨a2,c2,rfl,f2⟩
  refine ⟨_,_,_,rfl,a2,c2,?_,?_⟩
  ·rw [List.length_cons,show n+((Lib.decDigits u).length+1)=n+1+(Lib.decDigits u).length by omega]
  ·rw [List.length_cons,show n+((Lib.decDigits u).length+1)=n+1+(Lib.decDigits u).length by omega]
   have e:vs++byC (45::Lib.decDigits u)=vs++[Value.int .u8 45]++byC (Lib.decDigits u):=by simp [byC]
   rw [e];exact f2
 ·obtain ⟨u,rfl⟩:∃ u:Nat,i=(u:Int):=⟨i.toNat,by omega⟩
  have hwr:IntKind.wrap .u64 (u:Int)=(u:Int):=by rw [wr_u64];omega
  rw [Lib.itoa_nonneg u,hwr]
  refine (c135 f (by omega) u (by omega) t hb).mono ?_
  rintro _ h'' ⟨a2,c2,rfl,f2⟩
  exact ⟨_,_,_,rfl,a2,c2,rfl,f2⟩
theorem c70 {a:Option Addr} {n c:Nat} {vs:List Value} (f:Fr h0 1 h a n c vs) (hn:n≤900000) (i:Int) (h1:-9223372036854775808≤i) (h2:i≤9223372036854775807) (t:TabH h0) (hb:1<h0.size):CallsH Tryz.prog 70 #[.slice a n c,.int .i64 i,.int .i64 10] h fun w h'=>∃ a' c',w=.slice a' (n+(Lib.itoa i).length) c'/\Fr h0 1 h' a' (n+(Lib.itoa i).length) c' (vs++byC (Lib.itoa i)):=by
 refine run70 a n c i 10 _ h ((c106 f hn i h1 h2 t hb).mono ?_)
 rintro _ h'' ⟨a2,c2,rfl,f2⟩
 exact ⟨_,_,_,rfl,a2,c2,rfl,f2⟩
theorem dgt {n:Nat}:B ((ByteArray.mk #[48,49,50,51,52,53,54,55,56,57]).extract (n % 10) (n % 10+1))=[UInt8.ofNat (48+n % 10)]:=by
 rw [B_extract,show n % 10+1-n % 10=1 by omega]
 have h:=Nat.mod_lt n (show 0<10 by decide)
 generalize n % 10=k at *
 match k,h with
 | 0,_=>rfl
 | 1,_=>rfl
 | 2,_=>rfl
 | 3,_=>rfl
 | 4,_=>rfl
 | 5,_=>rfl
 | 6,_=>rfl
 | 7,_=>rfl
 | 8,_=>rfl
 | 9,_=>rfl
 | k+10,h=>omega
theorem c107 (u:Nat) (h2:u<9223372036854775808) (h:Heap):CallsH Tryz.prog 107 #[.int .i64 (u:Int)] h (Ret (.string (mk (Lib.decDigits u))) h):=by
 have hd20:=Go.Lib.nDigits_le20 u (by omega)
 have hdl:=Lib.decDigits_length u
 refine run107 u _ h ⟨fun st h' m=>∃ (n:Nat) (l:List UInt8),st=((n:Int),mk l)/\h=h'/\n≤u/\m=n+(if l=[] then 1 else 0)/\Lib.decDigits u=(if n=0/\l≠[] then [] else Lib.decDigits n)++l,⟨_,u,[],rfl,rfl,Nat.le_refl _,rfl,by rw [if_neg (by simp)];simp⟩,?_⟩
 rintro _ _ _ ⟨n,l,rfl,rfl,hnu,rfl,he⟩
 have hll:l.length≤20:=by have:=congrArg List.length he;rw [List.length_append] at this;omega
 have step:¬ (n=0/\l≠[])->∀ {K:Int×ByteArray->Heap->Prop},(∀ (l':List UInt8),l'≠[]->Lib.decDigits u=(if n / 10=0/\l'≠[] then [] else Lib.decDigits (n / 10))++l'->K (((n / 10:Nat):Int),mk l') h)->J107_1 (n:Int) (mk l) K h:=fun hc K hK=>by
  rw [if_neg hc] at he
  unfold J107_1
  have et:Int.tmod (n:Int) 10=((n % 10:Nat):Int):=by rw [Int.tmod_eq_emod_of_nonneg (by omega)];omega
  have ed:Int.tdiv (n:Int) 10=((n / 10:Nat):Int):=by rw [Int.tdiv_eq_ediv_of_nonneg (by omega)];omega
  have hm:=Nat.mod_lt n (show 0<10 by decide)
  rw [et,ed,w64 (x:=((n / 10:Nat):Int)) (by omega) (by omega),w64 (x:=((n % 10:Nat):Int)+1) (by omega) (by omega)]
  have e1:Int.toNat ((n % 10:Nat):Int)=n % 10:=by omega
  have e2:Int.toNat (((n % 10:Nat):Int)+1)=n % 10+1:=by omega
  rw [e1,e2]
  have hz:(ByteArray.mk #[48,49,50,51,52,53,54,55,56,57]).size=10:=rfl
  have hx:(ByteArray.mk #[48,49,50,51,52,53,54,55,56,57]).extract (n % 10) (n % 10+1)++mk l=mk (UInt8.ofNat (48+n % 10)::l):=by
   apply B_inj
   rw [B_append,dgt];rfl
  rw [hx]
  refine ⟨by omega,by omega,by rw [hz];omega,?_,hK _ (by simp) ?_⟩
  ·have e3:(mk l).size=l.length:=rfl
   rw [ByteArray.size_extract];omega
  ·rw [he]
   by_cases h10:n<10
   ·rw [if_pos ⟨by omega,by simp⟩,Lib.decDigits,dif_pos h10,Nat.mod_eq_of_lt h10];rfl
   ·rw [if_neg (by omega),Lib.decDigits,dif_neg h10,List.append_assoc];rfl
 have hmk:mk l=ByteArray.mk #[]↔l=[]:=mk_inj (m:=[])
 refine ⟨fun hp=>step (by have:(0:Int)<n:=hp;omega) fun l' hl' hx=>⟨_,?_,n / 10,l',rfl,rfl,by omega,rfl,hx⟩,fun hp=>⟨fun hs=>step (fun hh=>hh.2 (hmk.1 hs)) fun l' hl' hx=>⟨_,?_,n / 10,l',rfl,rfl,by omega,rfl,hx⟩,fun hs=>?_⟩⟩
 ·have:(0:Int)<n:=hp
  rw [if_neg hl'];split <;> omega
 ·have:¬ (0:Int)<n:=hp
  rw [if_neg hl',if_pos (hmk.1 hs)];omega
 ·have:¬ (0:Int)<n:=hp
  rw [if_pos ⟨by omega,fun hh=>hs (hmk.2 hh)⟩] at he
  unfold J107_0
  refine ⟨?_,rfl⟩
  rw [he];rfl
theorem itoa_mk (n:Int):mk (Lib.itoa n)=if n<0 then ByteArray.mk #[45]++mk (Lib.decDigits n.natAbs) else mk (Lib.decDigits n.toNat):=by
 unfold Lib.itoa
 split
 ·apply B_inj;rw [B_append];rfl
 ·rfl
theorem c71 (n:Int) (h1:-9223372036854775807≤n) (h2:n≤9223372036854775807) (h:Heap):CallsH Tryz.prog 71 #[.int .i64 n] h (Ret (.string (mk (Lib.itoa n))) h):=by
 refine run71 n _ h ⟨fun hneg=>?_,fun hpos=>?_⟩
 ·have e:IntKind.wrap .i64 (0-n)=((n.natAbs:Nat):Int):=by rw [w64 (by omega) (by omega)];omega
  rw [e]
  have hd20:=Go.Lib.nDigits_le20 n.natAbs (by omega)
  have hdl:=Lib.decDigits_length n.natAbs
  refine use (c107 n.natAbs (by omega) h) ⟨_,rfl,?_,?_,rfl⟩
  ·show 1+(Lib.decDigits n.natAbs).length≤_;omega
  ·rw [itoa_mk,if_pos hneg]
 ·obtain ⟨u,rfl⟩:∃ u:Nat,n=(u:Int):=⟨n.toNat,by omega⟩
  refine use (c107 u (by omega) h) ⟨_,rfl,?_,rfl⟩
  rw [itoa_mk,if_neg hpos];rfl
end
end Go.Proofs.YtobageabpfkpcaaGreatDoor
set_option maxRecDepth 100000
namespace Go.Hx
open Go.Proofs.YtobageabpfkpcaaGreatDoor
def litT (l:List Int):List UInt8:=l.flatMap fun x=>Lib.itoa x++[32]
theorem litT_snoc (l:List Int) (x:Int):litT (l++[x])=litT l++(Lib.itoa x++[32]):=by simp [litT]
def hdT (F:Fm):List UInt8:=pcnf++Lib.itoa F.vars++[32]++Lib.itoa (F.cls.length:Int)++[10]
def priA:List (List Int)->List UInt8->List UInt8×Int
 | [],b=>(b,0)
 | c::r,b=>if 262144<(b++(litT c++[48,10])).length then ([],2) else priA r (b++(litT c++[48,10]))
def priR (F:Fm):List UInt8×Int:=if (chkF F).2≠0 then ([],(chkF F).2) else priA F.cls (hdT F)
theorem priA_drop {L:List (List Int)} {b:List UInt8} {i:Nat} (hi:i<L.length):priA (L.drop i) b=if 262144<(b++(litT L[i]++[48,10])).length then ([],2) else priA (L.drop (i+1)) (b++(litT L[i]++[48,10])):=by
 rw [List.drop_eq_getElem_cons hi,priA]
theorem priA_end {L:List (List Int)} {b:List UInt8} {i:Nat} (hi:L.length≤i):priA (L.drop i) b=(b,0):=by rw [List.drop_eq_nil_of_le hi];rfl
theorem itoa_le {n:Int} (h1:-9223372036854775808≤n) (h2:n≤9223372036854775807):(Lib.itoa n).length≤21:=by
 unfold Lib.itoa
 split
 ·have:=Go.Lib.nDigits_le20 n.natAbs (by omega)
  rw [List.length_cons,Lib.decDigits_length];omega
 ·have:=Go.Lib.nDigits_le20 n.toNat (by omega)
  rw [Lib.decDigits_length];omega
theorem litT_le:∀ {l:List Int},(∀ x∈l,-262144≤x/\x≤262144)->(litT l).length≤22*l.length
 | [],_=>Nat.zero_le _
 | x::r,h=>by
  have h1:=litT_le (l:=r) fun y hy=>h y (by simp [hy])
  have h2:=itoa_le (n:=x) (by have:=h x (by simp);omega) (by have:=h x (by simp);omega)
  have:litT (x::r)=(Lib.itoa x++[32])++litT r:=by simp [litT]
  rw [this]
  simp only [List.length_append,List.length_cons,List.length_nil]
  omega
theorem Gl.two {h:Heap} (g:Gl h):1<h.size:=by
 obtain ⟨-,⟨a,b,hs⟩,-⟩:=g
 have:(2:Nat)<h.size:=cellH_lt hs
 omega
theorem Fr.marked {h0 h:Heap} (u:Ext h0 h) (l:List Value) (e:TypeId) (n c:Nat) (hn:n≤c) (hc:l.length=c):Fr h0 1 (h.push (.cells l.toArray e (c,c+1))) (some ⟨h.size,0,none⟩) n c (l.take n):=by
 refine ⟨⟨⟨fun i v hv=>?_,by rw [List.length_take];omega⟩,hn,rfl,l.toArray,e,(c,c+1),push_at _ _,by simp;omega,fun i h1 h2 h3=>?_⟩,fun ad ha=>by cases ha;exact u.1,u.trans (Ext.push h _)⟩
 ·rw [cellH_row (push_at h _) rfl]
  have hi:=(List.getElem?_eq_some_iff.1 hv).1
  rw [List.length_take] at hi
  rw [List.getElem?_take_of_lt (by omega)] at hv
  simpa using hv
 ·simp only at h1 h2 h3;omega
theorem set_push (h:Heap) (o o':Obj):(h.push o).setIfInBounds h.size o'=h.push o':=by
 apply Array.ext_getElem?
 intro i
 rw [Array.getElem?_setIfInBounds,Array.getElem?_push,Array.getElem?_push]
 by_cases hi:h.size=i
 ·subst hi;simp
 ·have h1:¬ i=h.size:=fun e=>hi e.symm
  rw [if_neg hi,if_neg h1,if_neg h1]
end Go.Hx
namespace Go.Proofs.YtobageabpfkpcaaGreatDoor
open Go.Hx Go.RowKit
section
variable {h:Heap} {v:FV} {F:Fm}
theorem c36 (r:FIs h v F) (ok:F.Ok) (t:TabH h) (hs:1<h.size):CallsH Tryz.prog 36 #[v.v] h (Xt (.tuple #[.string (mk (priR F).1),.int .i64 (priR F).2]) h):=by
 have hlen:=r.r.len
 have hv:=r.n
 refine run36 v.n v.s.a v.s.n v.s.c _ h ?_
 unfold VC36
 intro h1
 have e1:Ext h h1:=Ext.box h _
 have hb:Rd h1 (some ⟨h.size,0,none⟩) 2 v.cs:=boxF v 24
 refine ldF hb (useX (c34 (r.ext e1) ok) fun h2 e2=>⟨_,_,rfl,fun hz=>?_,fun hz=>⟨by unfold priR;rw [if_pos hz],e1.trans e2⟩⟩)
 have e02:=e1.trans e2
 obtain ⟨v0,v1,vn,vc⟩:=chkF_ok hz
 have hP:priR F=priA F.cls (hdT F):=by unfold priR;rw [if_neg (by simp [hz])]
 have hb2:=hb.ext e2
 have t2:TabH h2:=t.ext e02 hs
 have hs2:1<h2.size:=by have:=e02.1;omega
 unfold J36_0
 intro h3
 refine AtP.mk rfl ⟨_,5,push_at h2 _,?_⟩
 rw [set_push]
 have f4:Fr h2 1 (h2.push (.cells (byC pcnf).toArray 5 (6,7))) (some ⟨h2.size,0,none⟩) 6 6 (byC pcnf):=Fr.marked (.refl h2) (byC pcnf) 5 6 6 (Nat.le_refl _) rfl
 refine ⟨_,(hb2.ext f4.ext).fld 0 rfl,(c70 f4 (by omega) v.n (by omega) (by omega) t2 hs2).mono ?_⟩
 rintro _ h5 ⟨a5,c5,rfl,f5⟩
 have l1:=itoa_le (n:=F.vars) (by omega) (by omega)
 have l2:=itoa_le (n:=(F.cls.length:Int)) (by omega) (by omega)
 rw [hv] at f5 ⊢
 refine ⟨_,_,_,rfl,?_⟩
 intro h6
 refine app1 f5 rfl (by omega) fun a7 c7 h7 f7=>?_
 refine ⟨_,_,_,(hb2.ext f7.ext).fld 1 rfl,(c70 f7 (by omega) (v.s.n:Int) (by omega) (by omega) t2 hs2).mono ?_⟩
 rintro _ h8 ⟨a8,c8,rfl,f8⟩
 rw [<- hlen] at f8 ⊢
 refine ⟨_,_,_,rfl,?_⟩
 intro h9
 refine app1 f8 rfl (by omega) fun a10 c10 h10 f10=>?_
 refine ⟨_,_,_,(hb2.ext f10.ext).fld 1 rfl,?_⟩
 have ehd:byC pcnf++byC (Lib.itoa F.vars)++[Value.int .u8 32]++byC (Lib.itoa (F.cls.length:Int))++[Value.int .u8 10]=byC (hdT F):=by unfold hdT;simp only [byC_app];rfl
 have nhd:6+(Lib.itoa F.vars).length+1+(Lib.itoa (F.cls.length:Int)).length+1=(hdT F).length:=by unfold hdT;simp only [List.length_append,List.length_singleton];rfl
 rw [ehd,nhd] at f10
 rw [nhd]
 obtain ⟨rows,a1,a2,a3⟩:=r.r.ex
 have hrl:rows.length=F.cls.length:=by rw [<- a3,List.length_map]
 refine LoopT.to2 (n:=F.cls.length) (by omega) (fun i (s:Option Addr×Nat×Nat) h'=>∃ b:List UInt8,s.2.1=b.length/\b.length≤262144/\priR F=priA (F.cls.drop i) b/\Fr h2 1 h' s.1 s.2.1 s.2.2 (byC b)) ⟨hdT F,rfl,by omega,hP,f10⟩ ?_
 rintro i ⟨a,n,c⟩ h11 K hi ⟨b,hn,hbl,hI,f⟩ hK
 obtain rfl:n=b.length:=hn
 have f:Fr h2 1 h11 a b.length c (byC b):=f
 have e011:=e02.trans f.ext
 refine ⟨fun hlt=>?_,fun hlt=>?_⟩
 ·have hlt':(i:Int)<(v.s.n:Nat):=hlt
  have hil:i<F.cls.length:=by omega
  rw [priA_drop hil] at hI
  unfold J36_2
  refine ⟨by simp only;omega,hlt',(a1.ext e011).getn (i:=i) (by omega) fun ad hl1 hc=>⟨_,_,_,hc,?_⟩⟩
  obtain ⟨k1,k2⟩:=vc _ (List.getElem_mem hil)
  have hs':=(a2 _ (List.getElem_mem hl1)).1
  have hel:rows[i].l=F.cls[i]:=by
   have:(rows.map Rw.l)[i]?=F.cls[i]?:=by rw [a3]
   rw [List.getElem?_map,List.getElem?_eq_getElem hl1,List.getElem?_eq_getElem hil] at this
   exact Option.some.inj this
  rw [hel] at hs'
  have hsnl:=hs'.ilen
  generalize F.cls[i]=C at *
  generalize rows[i]=s at *
  refine LoopT.to2 (n:=s.n) (by omega) (fun k (q:Option Addr×Nat×Nat) h'=>q.2.1=(b++litT (C.take k)).length/\Fr h2 1 h' q.1 q.2.1 q.2.2 (byC (b++litT (C.take k)))) ⟨by simp [litT],by simpa [litT] using f⟩ ?_
  rintro k ⟨a2,n2,c2⟩ h12 K2 hk ⟨hn2,f2⟩ hK2
  obtain rfl:n2=(b++litT (C.take k)).length:=hn2
  have f2:Fr h2 1 h12 a2 (b++litT (C.take k)).length c2 (byC (b++litT (C.take k))):=f2
  have lle:=litT_le (l:=C.take k) fun x hx=>by have:=k2 x (List.mem_of_mem_take hx);omega
  rw [List.length_take] at lle
  have lb:(b++litT (C.take k)).length≤262144+22*16384:=by rw [List.length_append];omega
  refine ⟨fun hlt2=>?_,fun hlt2=>?_⟩
  ·have hlt2':(k:Int)<(s.n:Nat):=hlt2
   have hkl:k<C.length:=by omega
   have hx:=k2 _ (List.getElem_mem hkl)
   have hts:litT (C.take (k+1))=litT (C.take k)++(Lib.itoa C[k]++[32]):=by rw [List.take_succ_eq_append_getElem hkl,litT_snoc]
   unfold J36_5
   refine ⟨by simp only;omega,hlt2',(hs'.ext (e02.trans f2.ext)).getn (i:=k) (by omega) fun ad2 hl2 hc2=>⟨_,hc2,?_⟩⟩
   have li:=itoa_le (n:=C[k]) (by omega) (by omega)
   refine (c70 f2 (by omega) C[k] (by omega) (by omega) t2 hs2).mono ?_
   rintro _ h13 ⟨a13,c13,rfl,f13⟩
   refine ⟨_,_,_,rfl,?_⟩
   intro h14
   refine app1 f13 rfl (by omega) fun a15 c15 h15 f15=>?_
   refine hK2 (a15,_,c15) h15 (by omega) ⟨?_,?_⟩
   ·show _+1=_
    rw [hts];simp only [List.length_append,List.length_singleton];omega
   ·rw [hts]
    show Fr h2 1 h15 a15 _ c15 _
    have e:byC (b++(litT (C.take k)++(Lib.itoa C[k]++[32])))=byC (b++litT (C.take k))++byC (Lib.itoa C[k])++[Value.int .u8 32]:=by simp only [byC_app,List.append_assoc];rfl
    rw [e];exact f15
  ·have hlt2':¬ (k:Int)<(s.n:Nat):=hlt2
   rw [List.take_of_length_le (by omega)] at f2 lb
   rw [List.take_of_length_le (show C.length≤k by omega)]
   unfold J36_4
   have e2:(ByteArray.mk #[48,10]).size=2:=rfl
   refine f2.app (e:=5) (bytes:=1) (ys:=bytesV (ByteArray.mk #[48,10])) (m:=(ByteArray.mk #[48,10]).size) rfl (by intro y hy;exact byC_one (l:=[48,10]) y hy) (by rw [e2];omega) fun a19 c19 h19 f19 _ _=>?_
   have e19:byC (b++litT C)++bytesV (ByteArray.mk #[48,10])=byC (b++(litT C++[48,10])):=by simp only [byC_app,List.append_assoc];rfl
   have n19:(b++litT C).length+(ByteArray.mk #[48,10]).size=(b++(litT C++[48,10])).length:=by simp only [List.length_append];rw [e2];simp only [List.length_cons,List.length_nil];omega
   rw [e19,n19] at f19
   rw [n19]
   refine ⟨fun hbig=>?_,fun hbig=>?_⟩
   ·rw [if_pos (by omega)] at hI
    rw [hI]
    exact ⟨rfl,e02.trans f19.ext⟩
   ·rw [if_neg (by omega)] at hI
    unfold J36_3
    exact hK (a19,_,c19) h19 (by omega) ⟨_,rfl,by omega,hI,f19⟩
 ·have hlt':¬ (i:Int)<(v.s.n:Nat):=hlt
  rw [priA_end (by omega)] at hI
  unfold J36_1
  refine ⟨mk b,rfl,f.rd.read,?_,e011⟩
  rw [hI]
end
end Go.Proofs.YtobageabpfkpcaaGreatDoor
set_option maxRecDepth 100000
namespace Go.Proofs.YtobageabpfkpcaaGreatDoor
open Go.Hx Go.RowKit
section
variable {h:Heap} {v:FV} {F:Fm}
theorem c37 (r:FIs h v F) (ok:F.Ok):CallsH Tryz.prog 37 #[v.v] h (Xt (.tuple #[.string (mk (priR F).1),.int .i64 (priR F).2]) h):=by
 have hlen:=r.r.len
 have hv:=r.n
 refine run37 v.n v.s.a v.s.n v.s.c _ h ?_
 unfold VC37
 intro h1
 have e1:Ext h h1:=Ext.box h _
 have hb:Rd h1 (some ⟨h.size,0,none⟩) 2 v.cs:=boxF v 24
 refine ldF hb (useX (c35 (r.ext e1) ok) fun h2 e2=>⟨_,_,rfl,fun hz=>?_,fun hz=>⟨by unfold priR;rw [if_pos hz],e1.trans e2⟩⟩)
 have e02:=e1.trans e2
 obtain ⟨v0,v1,vn,vc⟩:=chkF_ok hz
 have hP:priR F=priA F.cls (hdT F):=by unfold priR;rw [if_neg (by simp [hz])]
 have hb2:=hb.ext e2
 have l1:=itoa_le (n:=F.vars) (by omega) (by omega)
 have l2:=itoa_le (n:=(F.cls.length:Int)) (by omega) (by omega)
 unfold J37_0
 have c0:=hb2.fld 0 rfl
 have c1:=hb2.fld 1 rfl
 refine ⟨cellH_lt c0,_,c0,?_⟩
 rw [hv]
 refine use (c71 F.vars (by omega) (by omega) h2) ⟨_,rfl,agrH (.refl h2) (Nat.le_refl _),?_,?_,cellH_lt c1,_,_,_,c1,?_⟩
 ·show 6+(Lib.itoa F.vars).length≤_;omega
 ·rw [ByteArray.size_append];show 6+(Lib.itoa F.vars).length+1≤_;omega
 rw [<- hlen]
 refine use (c71 (F.cls.length:Int) (by omega) (by omega) h2) ⟨_,rfl,agrH (.refl h2) (Nat.le_refl _),?_,?_,fun cap hcap=>?_⟩
 ·rw [ByteArray.size_append,ByteArray.size_append];show 6+(Lib.itoa F.vars).length+1+(Lib.itoa (F.cls.length:Int)).length≤_;omega
 ·rw [ByteArray.size_append,ByteArray.size_append,ByteArray.size_append];show 6+(Lib.itoa F.vars).length+1+(Lib.itoa (F.cls.length:Int)).length+1≤_;omega
 have hX:((((ByteArray.mk #[112,32,99,110,102,32]++mk (Lib.itoa F.vars))++ByteArray.mk #[32])++mk (Lib.itoa (F.cls.length:Int)))++ByteArray.mk #[10])=mk (hdT F):=by
  apply B_inj
  simp only [B_append,B_mk]
  rfl
 rw [hX] at hcap ⊢
 have nhd:(hdT F).length≤50:=by unfold hdT;simp only [List.length_append,List.length_singleton];show 6+_+1+_+1≤_;omega
 have hcap':(hdT F).length≤cap:=hcap
 intro h5
 have f5:Fr h2 1 h5 (some ⟨h2.size,0,none⟩) (hdT F).length cap (byC (hdT F)):=by
  have:=Fr.marked (.refl h2) (byC (hdT F)++List.replicate (cap-(hdT F).length) (Value.int .u8 0)) 5 (hdT F).length cap hcap' (by rw [List.length_append,byC_len,List.length_replicate];omega)
  rw [List.take_append_of_le_length (by rw [byC_len];omega),List.take_of_length_le (by rw [byC_len];omega)] at this
  exact this
 refine ⟨agrH (Ext.push h2 _) (Nat.le_refl _),?_⟩
 obtain ⟨rows,a1,a2,a3⟩:=r.r.ex
 have hrl:rows.length=F.cls.length:=by rw [<- a3,List.length_map]
 refine LoopT.to2 (n:=F.cls.length) (by omega) (fun i (s:Option Addr×Nat×Nat) h'=>∃ b:List UInt8,s.2.1=b.length/\b.length≤262144/\priR F=priA (F.cls.drop i) b/\Fr h2 1 h' s.1 s.2.1 s.2.2 (byC b)) ⟨hdT F,rfl,by omega,hP,f5⟩ ?_
 rintro i ⟨a,n,c⟩ h11 K hi ⟨b,hn,hbl,hI,f⟩ hK
 obtain rfl:n=b.length:=hn
 have f:Fr h2 1 h11 a b.length c (byC b):=f
 have e011:=e02.trans f.ext
 refine ⟨_,_,_,(hb2.ext f.ext).fld 1 rfl,fun hlt=>?_,fun hlt=>?_⟩
 ·have hlt':(i:Int)<(v.s.n:Nat):=hlt
  have hil:i<F.cls.length:=by omega
  rw [priA_drop hil] at hI
  unfold J37_2
  have hir:i<rows.length:=by omega
  obtain ⟨k1,k2⟩:=vc _ (List.getElem_mem hil)
  have hs':=(a2 _ (List.getElem_mem hir)).1
  have hel:rows[i].l=F.cls[i]:=by
   have:(rows.map Rw.l)[i]?=F.cls[i]?:=by rw [a3]
   rw [List.getElem?_map,List.getElem?_eq_getElem hir,List.getElem?_eq_getElem hil] at this
   exact Option.some.inj this
  rw [hel] at hs'
  have hsnl:=hs'.ilen
  have row:∀ {h'},Ext h2 h'->∀ {K:Addr->Prop},(∀ ad,cellH h' (ad.add (Int.toNat (i:Int)*1))=some (Rw.v rows[i])->K ad)->(0:Int)≤(i:Int)/\(i:Int)<(v.s.n:Nat)/\AtP v.s.a K:=fun e K hK=>⟨by omega,hlt',(a1.ext (e02.trans e)).getn (i:=i) (by omega) fun ad hl1 hc=>hK ad hc⟩
  generalize F.cls[i]=C at *
  generalize rows[i]=s at *
  refine LoopT.to2 (n:=s.n) (by omega) (fun k (q:Option Addr×Nat×Nat) h'=>q.2.1=(b++litT (C.take k)).length/\Fr h2 1 h' q.1 q.2.1 q.2.2 (byC (b++litT (C.take k)))) ⟨by simp [litT],by simpa [litT] using f⟩ ?_
  rintro k ⟨a2,n2,c2⟩ h12 K2 hk ⟨hn2,f2⟩ hK2
  obtain rfl:n2=(b++litT (C.take k)).length:=hn2
  have f2:Fr h2 1 h12 a2 (b++litT (C.take k)).length c2 (byC (b++litT (C.take k))):=f2
  have lle:=litT_le (l:=C.take k) fun x hx=>by have:=k2 x (List.mem_of_mem_take hx);omega
  rw [List.length_take] at lle
  have lb:(b++litT (C.take k)).length≤262144+22*16384:=by rw [List.length_append];omega
  refine ⟨_,_,_,(hb2.ext f2.ext).fld 1 rfl,row f2.ext fun ad hc=>⟨_,_,_,hc,fun hlt2=>?_,fun hlt2=>?_⟩⟩
  ·have hlt2':(k:Int)<(s.n:Nat):=hlt2
   have hkl:k<C.length:=by omega
   have hx:=k2 _ (List.getElem_mem hkl)
   have hts:litT (C.take (k+1))=litT (C.take k)++(Lib.itoa C[k]++[32]):=by rw [List.take_succ_eq_append_getElem hkl,litT_snoc]
   unfold J37_5
   refine ⟨_,_,_,(hb2.ext f2.ext).fld 1 rfl,row f2.ext fun ad hc=>⟨_,_,_,hc,by simp only;omega,hlt2',(hs'.ext (e02.trans f2.ext)).getn (i:=k) (by omega) fun ad2 hl2 hc2=>⟨_,hc2,?_⟩⟩⟩
   have li:=itoa_le (n:=C[k]) (by omega) (by omega)
   refine use (c71 C[k] (by omega) (by omega) h12) ⟨_,rfl,by show (Lib.itoa C[k]).length+1≤_;omega,?_⟩
   have eT:mk (Lib.itoa C[k])++ByteArray.mk #[32]=mk (Lib.itoa C[k]++[32]):=by
    apply B_inj;rw [B_append];try rfl
   rw [eT]
   have e2:(mk (Lib.itoa C[k]++[32])).size=(Lib.itoa C[k]).length+1:=by rw [mk_size,List.length_append];rfl
   refine f2.app (e:=5) (bytes:=1) (ys:=bytesV (mk (Lib.itoa C[k]++[32]))) (m:=(mk (Lib.itoa C[k]++[32])).size) (by rw [byC_bytesV,byC_len,mk_size,Nat.mul_one]) (by intro y hy;exact byC_one (l:=Lib.itoa C[k]++[32]) y hy) (by rw [e2];omega) fun a15 c15 h15 f15 _ _=>?_
   refine hK2 (a15,_,c15) h15 (by omega) ⟨?_,?_⟩
   ·show _+(mk (Lib.itoa C[k]++[32])).size=_
    rw [hts,mk_size];simp only [List.length_append,List.length_singleton];omega
   ·rw [hts]
    show Fr h2 1 h15 a15 _ c15 _
    have e:byC (b++(litT (C.take k)++(Lib.itoa C[k]++[32])))=byC (b++litT (C.take k))++bytesV (mk (Lib.itoa C[k]++[32])):=by rw [byC_bytesV];simp only [byC_app,List.append_assoc]
    rw [e];exact f15
  ·have hlt2':¬ (k:Int)<(s.n:Nat):=hlt2
   rw [List.take_of_length_le (by omega)] at f2 lb
   rw [List.take_of_length_le (show C.length≤k by omega)]
   unfold J37_4
   have e2:(ByteArray.mk #[48,10]).size=2:=rfl
   refine f2.app (e:=5) (bytes:=1) (ys:=bytesV (ByteArray.mk #[48,10])) (m:=(ByteArray.mk #[48,10]).size) rfl (by intro y hy;exact byC_one (l:=[48,10]) y hy) (by rw [e2];omega) fun a19 c19 h19 f19 _ _=>?_
   have e19:byC (b++litT C)++bytesV (ByteArray.mk #[48,10])=byC (b++(litT C++[48,10])):=by simp only [byC_app,List.append_assoc];rfl
   have n19:(b++litT C).length+(ByteArray.mk #[48,10]).size=(b++(litT C++[48,10])).length:=by simp only [List.length_append];rw [e2];simp only [List.length_cons,List.length_nil];omega
   rw [e19,n19] at f19
   rw [n19]
   refine ⟨fun hbig=>?_,fun hbig=>?_⟩
   ·rw [if_pos (by omega)] at hI
    rw [hI]
    exact ⟨rfl,e02.trans f19.ext⟩
   ·rw [if_neg (by omega)] at hI
    unfold J37_3
    exact hK (a19,_,c19) h19 (by omega) ⟨_,rfl,by omega,hI,f19⟩
 ·have hlt':¬ (i:Int)<(v.s.n:Nat):=hlt
  rw [priA_end (by omega)] at hI
  unfold J37_1
  refine ⟨mk b,rfl,f.rd.read,?_,e011⟩
  rw [hI]
theorem c33 (h:Heap):CallsH Tryz.prog 33 #[] h (Ret (.bool true) h):=run33 _ h ⟨rfl,rfl⟩
theorem c7 (r:FIs h v F) (ok:F.Ok) (g:Gl h) (t:TabH h):CallsH Tryz.prog 7 #[v.v] h (Xt (.bool true) h):=by
 have hs:=Go.Hx.Gl.two g
 refine run7 v.n v.s.a v.s.n v.s.c _ h ?_
 unfold VC7
 intro h1
 have e1:Ext h h1:=Ext.box h _
 have hb:Rd h1 (some ⟨h.size,0,none⟩) 2 v.cs:=boxF v 24
 refine use (c33 h1) ⟨_,rfl,BIf.f ?_⟩
 unfold J7_0
 refine ldF hb ((c17 (r.ext e1) ok).mono ?_)
 rintro _ h2 ⟨v2,rfl,lf,e12⟩
 have e02:=e1.trans e12
 refine ⟨_,_,_,_,rfl,?_⟩
 intro h4
 have f4:Fr h2 1 h4 (some ⟨h2.size,0,none⟩) 2 2 [.int .i64 0,.slice none 0 0]:=Fr.lit (.refl h2) [.int .i64 0,.slice none 0 0] 24 2 rfl
 refine f4.put (ws:=v2.cs) rfl (by simp [FV.cs,Value.oneCell']) fun h5 f5 u5=>?_
 have e25:=f5.ext
 have e05:=e02.trans e25
 have lf5:=lf.ext e25
 have r5:=f5.rd
 have hb5:=hb.ext (e12.trans e25)
 refine ldF r5 (useX (c34 lf5.fis ok) fun h6 e6=>⟨_,_,rfl,ldF (hb5.ext e6) (useX (c35 (r.ext (e05.trans e6)) ok) fun h7 e7=>⟨_,_,rfl,?_⟩)⟩)
 have e57:=e6.trans e7
 have e07:=e05.trans e57
 have hs7:1<h7.size:=by have:=e07.1;omega
 refine ldF (r5.ext e57) (useX (c36 (lf5.ext e57).fis ok (t.ext e07 hs) hs7) fun h8 e8=>⟨_,_,rfl,ldF (hb5.ext (e57.trans e8)) (useX (c37 (r.ext (e07.trans e8)) ok) fun h9 e9=>⟨_,_,rfl,?_⟩)⟩)
 have e59:=(e57.trans e8).trans e9
 have e09:=e05.trans e59
 refine ⟨fun _=>⟨fun _=>⟨fun _=>⟨fun _=>?_,fun hn=>absurd rfl hn⟩,fun hn=>absurd rfl hn⟩,fun hn=>absurd rfl hn⟩,fun hn=>absurd rfl hn⟩
 refine ldF (r5.ext e59) (ldF (hb5.ext e59) (useX (c23 (lf5.ext e59) (r.ext e09) ok) fun h10 e10=>⟨_,rfl,BIf.t (useX (c16 (g.ext (e09.trans e10))) fun h11 e11=>⟨_,rfl,rfl,(e09.trans e10).trans e11⟩)⟩))
end
end Go.Proofs.YtobageabpfkpcaaGreatDoor
