/- Words and facts that the claim's proof leans on. No condition. -/
import Derived.Test.YtobageabpfkpcaaFA
import Derived.Test.YtobageabpfkpcaaCAf
import Derived.Test.YtobageabpfkpcaaFI
import Derived.Test.YtobageabpfkpcaaCSh
import Derived.Test.YtobageabpfkpcaaHxV
import Derived.Below
import Derived.Lib.AtoiAllCases
import Derived.Lib.SplitLaws
import Derived.Test.YtobageabpfkpcaaFS
import Derived.Test.YtobageabpfkpcaaFE
set_option linter.unusedVariables false
set_option linter.unusedSimpArgs false
set_option maxRecDepth 100000
namespace Go.Hx
theorem Fr.take0 {h0 h:Heap} {a:Option Addr} {n c:Nat} {vs:List Value} (f:Fr h0 1 h a n c vs):Fr h0 1 h a 0 c []:=
 ⟨by have:=f.own.take (m:=0) (Nat.zero_le _);simpa using this,f.new,f.ext⟩
end Go.Hx
namespace Go.Proofs.Ytobageabpfkpcaa
open Go.Hx
section
variable {h:Heap} {v w:FV} {F G:Fm}
theorem c68 {a b:Option Addr} {n c m d:Nat} {A B:List Int} (r:Rd h a n (ints A)) (s:Rd h b m (ints B)) (hn:n<9223372036854775807) (hm:m<9223372036854775807) :
  CallsH Try.prog 68 #[.slice a n c,.slice b m d] h (Ret (.bool (decide (A=B))) h):=by
 have la:=r.ilen
 have lb:=s.ilen
 refine run68 a n c b m d _ h ⟨fun hl=>?_,fun hl=>⟨by rw [decide_eq_false];intro e;subst e;omega,rfl⟩⟩
 refine LoopT.to (n:=n) hn (fun i h'=>h'=h/\∀ j,j<i->A[j]?=B[j]?) ⟨rfl,fun j hj=>by omega⟩ ?_
 rintro i _ K hi ⟨rfl,hI⟩ hK
 refine ⟨fun hlt=>?_,fun hlt=>?_⟩
 ·refine ⟨by omega,hlt,r.getn (by omega) fun ad hl1 hc=>⟨_,hc,by omega,by omega,s.getn (by omega) fun ad2 hl2 hc2=>⟨_,hc2,fun e=>?_,fun e=>?_⟩⟩⟩
  ·refine hK _ (by omega) ⟨rfl,fun j hj=>?_⟩
   by_cases hji:j=i
   ·subst hji;rw [List.getElem?_eq_getElem (show j<A.length from hl1),List.getElem?_eq_getElem (show j<B.length from hl2)];exact congrArg some e
   ·exact hI j (by omega)
  ·refine ⟨?_,rfl⟩
   rw [decide_eq_false]
   intro e2;subst e2;exact e rfl
 ·refine ⟨?_,rfl⟩
  rw [decide_eq_true]
  exact eq_of_at (by omega) fun j hj=>hI j (by omega)
theorem c29 {a:Option Addr} {n c:Nat} {l:List Int} (r:Rd h a n (ints l)) (hn:n≤17592186044416):CallsH Try.prog 29 #[.slice a n c] h fun w h'=>∃ a' n' c',w=.slice a' n' c'/\Fr h 1 h' a' n' c' (ints l):=by
 refine run29 a n c _ h ⟨fun hnone=>?_,fun hs=>?_⟩
 ·subst hnone
  have:ints l=[]:=r.read
  rw [this]
  exact ⟨none,0,0,rfl,.nil (.refl h)⟩
 ·intro h1
  exact ⟨ints l,(r.ext (Ext.push h _)).read,by rw [r.len];omega,app0n (by rw [r.len];omega) ints_one (by omega) fun a' c' h' f=>⟨a',n,c',rfl,f⟩⟩
end
end Go.Proofs.Ytobageabpfkpcaa
set_option maxRecDepth 100000
namespace Go.Hx
def val (acc:Nat) (l:List UInt8):Nat:=l.foldl (fun a c=>a*10+(c.toNat-48)) acc
end Go.Hx
namespace Go.Proofs.Ytobageabpfkpcaa
open Go.Hx Go.RowKit
structure Gl (h:Heap):Prop where
 max:∃ m,cellH h ⟨0,0,none⟩=some (.int .i64 m)
 syn:∃ te pe,cellH h ⟨2,0,none⟩=some (.iface te pe)
 ran:∃ te pe,cellH h ⟨3,0,none⟩=some (.iface te pe)
theorem Gl.ext {h h':Heap} (g:Gl h) (x:Ext h h'):Gl h':=by
 obtain ⟨⟨m,hm⟩,⟨a,b,hs⟩,⟨c,d,hr⟩⟩:=g
 exact ⟨⟨m,x.cell hm⟩,⟨a,b,x.cell hs⟩,⟨c,d,x.cell hr⟩⟩
section
variable {h:Heap}
end
end Go.Proofs.Ytobageabpfkpcaa
set_option maxRecDepth 100000
namespace Go.Hx
structure RS where
 vars:Int
 cls:List (List Int)
 want:Int
 cur:List Int
 op:Bool
structure RS.Ok (s:RS):Prop where
 v0:0≤s.vars
 v1:s.vars≤262144
 w:s.want≤524288
 n:(s.cls.length:Int)≤s.want
 o:s.op=true->(s.cls.length:Int)<s.want
 e:s.op=false->s.cur=[]
 k:s.cur.length≤16384
def Rdr (h0 h:Heap) (A:Nat) (s:RS) (X:List Itm):Prop:=
 ∃ (rows:List Rw) (a:Option Addr) (n c:Nat) (b:Option Addr) (m d:Nat),rows.map Rw.l=s.cls /\
  Mem h0 h (⟨1,some ⟨A,0,none⟩,5,5,[.int .i64 s.vars,.slice a n c,.int .i64 s.want,.slice b m d,.bool s.op]⟩::⟨1,a,n,c,rows.map Rw.v⟩::⟨1,b,m,d,ints s.cur⟩::(rows.map Rw.it++X))
theorem Rdr.ext' {h0 h h':Heap} {A:Nat} {s:RS} {X:List Itm} (r:Rdr h0 h A s X) (u:Ext h h'):Rdr h0 h' A s X:=by
 obtain ⟨rows,a,n,c,b,m,d,h1,me⟩:=r
 exact ⟨rows,a,n,c,b,m,d,h1,me.ext' u⟩
theorem Rdr.ext {h0 h:Heap} {A:Nat} {s:RS} {X:List Itm} (r:Rdr h0 h A s X):Ext h0 h:=by
 obtain ⟨rows,a,n,c,b,m,d,h1,me⟩:=r
 exact me.ext
theorem add00 (A:Nat) (k:Nat):Addr.add (Addr.add ⟨A,0,none⟩ 0) k=Addr.add ⟨A,0,none⟩ k:=by rw [addr_add0]
theorem Rdr.get {h0 h:Heap} {A:Nat} {s:RS} {X:List Itm} (r:Rdr h0 h A s X):A<h.size/\cellH h (Addr.add ⟨A,0,none⟩ 0)=some (.int .i64 s.vars)/\(∃ a c,cellH h (Addr.add ⟨A,0,none⟩ 1)=some (.slice a s.cls.length c)) /\
  cellH h (Addr.add ⟨A,0,none⟩ 2)=some (.int .i64 s.want)/\(∃ b d,cellH h (Addr.add ⟨A,0,none⟩ 3)=some (.slice b s.cur.length d))/\cellH h (Addr.add ⟨A,0,none⟩ 4)=some (.bool s.op):=by
 obtain ⟨rows,a,n,c,b,m,d,h1,me⟩:=r
 have f:=(me.get 0 rfl).rd
 have l1:rows.length=n:=by have:=(me.get 1 rfl).rd.len;simpa using this
 have l2:s.cur.length=m:=(me.get 2 rfl).rd.ilen
 have l3:s.cls.length=n:=by rw [<- h1,List.length_map];exact l1
 subst l2 l3
 exact ⟨(me.get 0 rfl).own.lt,f.fld 0 rfl,⟨_,_,f.fld 1 rfl⟩,f.fld 2 rfl,⟨_,_,f.fld 3 rfl⟩,f.fld 4 rfl⟩
end Go.Hx
namespace Go.Proofs.Ytobageabpfkpcaa
open Go.Hx Go.RowKit
section
variable {h0 h:Heap} {A:Nat} {s:RS} {X:List Itm}
end
end Go.Proofs.Ytobageabpfkpcaa
set_option maxRecDepth 100000
namespace Go.Hx
theorem MemU.take2 {n:Nat} {h0 h:Heap} {U:Nat->Prop} {l:List Itm} (m:MemU n h0 h U l) {b:Nat} (hb:U b) (hn:h0.size≤b) {vs:List Value} {e:TypeId} {k:Nat} (hc:h[b]?=some (.cells vs.toArray e (0,0))) (hl:vs.length=k):MemU n h0 h (minus U b) (⟨1,some ⟨b,0,none⟩,k,k,vs⟩::l):=
 m.take hb hn (t:=⟨1,some ⟨b,0,none⟩,k,k,vs⟩) ⟨Own.row hc hl,fun ad ha=>by cases ha;exact hn,m.mem.ext⟩ fun ad ha=>by cases ha;rfl
end Go.Hx
namespace Go.Proofs.Ytobageabpfkpcaa
open Go.Hx Go.RowKit
section
variable {h:Heap} {v w:FV} {F G:Fm}
end
end Go.Proofs.Ytobageabpfkpcaa
set_option maxRecDepth 100000
namespace Go.Hx
theorem passL_fix:∀ {cs:List (List Int)} {T T':List Int},passL cs T false=some (T',false)->T'=T/\∀ c∈cs,(unitL T c 0).2=false
 | [],T,T',h=>by cases h;exact ⟨rfl,by simp⟩
 | c::r,T,T',h=>by
  unfold passL at h
  by_cases h1:(unitL T c 0).2=false
  ·rw [if_pos h1] at h
   obtain ⟨h2,h3⟩:=passL_fix h
   exact ⟨h2,fun d hd=>by rcases List.mem_cons.1 hd with rfl | hd;exact h1;exact h3 d hd⟩
  ·rw [if_neg h1] at h
   by_cases h2:(unitL T c 0).1=0
   ·rw [if_pos h2] at h;cases h
   ·rw [if_neg h2] at h
    have key:∀ {cs:List (List Int)} {T T':List Int} {b:Bool},passL cs T true=some (T',b)->b=true:=by
     intro cs
     induction cs with
     | nil=>intro T T' b h;cases h;rfl
     | cons c r ih=>
      intro T T' b h
      unfold passL at h
      split at h
      ·exact ih h
      ·split at h
       ·cases h
       ·exact ih h
    cases key h
theorem seqP_fix {cs:List (List Int)} {T0:List Int}:∀ {k:Nat} {T:List Int},seqP cs T0 k=some (T,false)->∀ c∈cs,(unitL T c 0).2=false
 | 0,T,h=>by cases h
 | k+1,T,h=>by
  unfold seqP at h
  cases hk:seqP cs T0 k with
  | none=>rw [hk] at h;cases h
  | some r=>
   obtain ⟨T1,b1⟩:=r
   rw [hk] at h
   cases b1 with
   | true=>
    obtain ⟨rfl,h2⟩:=passL_fix h
    exact h2
   | false=>cases h;exact seqP_fix hk
theorem forceT_good {F:Fm} {lits T:List Int} (hn:0≤F.vars) (hc:∀ c∈F.cls,∀ x∈c,x≠0 /\-F.vars≤x/\x≤F.vars) (hl:∀ x∈lits,x≠0 /\-F.vars≤x/\x≤F.vars) (h:forceT F lits=some T):GT F.vars T/\(∀ c∈F.cls,(unitL T c 0).2=false)/\∃ T0,litsL lits []=some T0/\seqP F.cls T0 (F.vars.toNat+2)=some (T,false):=by
 unfold forceT at h
 cases h0:litsL lits [] with
 | none=>rw [h0] at h;cases h
 | some T0=>
  rw [h0] at h
  have g0:=litsL_good hl GT.nil h0
  cases h1:seqP F.cls T0 (F.vars.toNat+2) with
  | none=>simp only [h1] at h;cases h
  | some q=>
   obtain ⟨T1,b⟩:=q
   simp only [h1] at h
   obtain rfl:T1=T:=by simpa using h
   have hb:b=false:=by
    cases b with
    | false=>rfl
    | true=>have:=seqP_le hn hc g0 h1;omega
   subst hb
   exact ⟨(seqP_good hc g0 h1).1,seqP_fix h1,T0,rfl,h1⟩
theorem firL_neg {m:List Bool}:∀ {L:List (List Int)} {i:Int},0≤i->(firL m L i<0↔∀ c∈L,clsB m c=true)
 | [],i,hi=>by simp [firL]
 | c::r,i,hi=>by
  unfold firL
  by_cases h:clsB m c=true
  ·rw [if_pos h,firL_neg (by omega)]
   simp [h]
  ·rw [if_neg h]
   constructor
   ·intro h1;omega
   ·intro h1;exact absurd (h1 c (by simp)) h
theorem clsB_take {m:List Bool} {n:Nat} {c:List Int} (h:∀ x∈c,x≠0 /\-(n:Int)≤x/\x≤n):clsB (m.take n) c=clsB m c:=by
 unfold clsB
 have:∀ x∈c,litB (m.take n) x=litB m x:=fun x hx=>by
  obtain ⟨a,b,d⟩:=h x hx
  unfold litB
  rw [List.getD_eq_getElem?_getD,List.getD_eq_getElem?_getD,List.getElem?_take_of_lt (by omega)]
 induction c with
 | nil=>rfl
 | cons x r ih=>rw [List.any_cons,List.any_cons,this x (by simp),ih (fun y hy=>h y (by simp [hy])) fun y hy=>this y (by simp [hy])]
theorem litE_of {n:Int} {l:List Int} (h1:l.length≤16384) (h2:∀ x∈l,x≠0 /\-n≤x/\x≤n):litE n l=0:=by
 unfold litE
 rw [if_neg (by omega),if_neg]
 intro h
 rw [List.any_eq_true] at h
 obtain ⟨x,hx,h3⟩:=h
 have:=h2 x hx
 simp only [badX,decide_eq_true_eq] at h3
 omega
end Go.Hx
set_option maxRecDepth 100000
namespace Go.Hx
theorem modB_all:∀ (l:List Bool),∃ m,m<2 ^ l.length/\modB l.length m=l
 | []=>⟨0,by simp,rfl⟩
 | b::r=>by
  obtain ⟨m,hm,hr⟩:=modB_all r
  refine ⟨2 ^ r.length*b.toNat+m,?_,?_⟩
  ·rw [List.length_cons,Nat.pow_succ]
   cases b <;> simp <;> omega
  ·refine eq_of_at' (by simp [modB_len]) fun i hi=>?_
   rw [modB_len,List.length_cons] at hi
   rw [List.length_cons,modB_at hi,Nat.testBit_two_pow_mul_add _ hm]
   cases i with
   | zero=>rw [if_neg (by omega)];cases b <;> simp
   | succ i=>
    rw [if_pos (by omega),List.getElem?_cons_succ,<- hr,modB_at (by omega)]
    rw [hr]
    congr 2
    omega
where
 eq_of_at' {A B:List Bool} (hl:A.length=B.length) (h:∀ j,j<A.length->A[j]?=B[j]?):A=B:=by
  apply List.ext_getElem? fun j=>?_
  rcases Nat.lt_or_ge j A.length with hj | hj
  ·exact h j hj
  ·rw [List.getElem?_eq_none hj,List.getElem?_eq_none (by omega)]
end Go.Hx
namespace Go.Proofs.Ytobageabpfkpcaa
open Go.Hx Go.RowKit
section
variable {h:Heap} {v:FV} {F:Fm}
end
end Go.Proofs.Ytobageabpfkpcaa
