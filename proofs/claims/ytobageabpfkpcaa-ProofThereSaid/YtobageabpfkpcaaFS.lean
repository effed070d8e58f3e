/- The library's sort of literals by their variables. No condition. -/
import Derived.Test.YtobageabpfkpcaaFE
import Derived.Test.YtobageabpfkpcaaHxS
import Derived.Test.YtobageabpfkpcaaCSh
set_option linter.unusedVariables false
set_option linter.unusedSimpArgs false
set_option maxRecDepth 100000
namespace Go.Proofs.Ytobageabpfkpcaa
open Go.Hx Go.Shelf Go.RowKit Go.Lib Go.Sort Go.Proofs
section
variable {α:Type} [Inhabited α]
theorem srtH {enc:α->Value} (h1:OneCell enc) {cf:α->α->Int} (hO:SWO (ltOf cf)) (hT:∀ x y,ltOf cf x y=false->ltOf cf y x=false->x=y) {g:Nat}
  (hg:callOk Try.prog g=true) (hc:∀ x y h,CallsH Try.prog g #[enc x,enc y] h (Ret (.int .i64 (cf x y)) h)) {h:Heap} {ad:Addr} {n c:Nat} {l:List α} (o:Own 1 h (some ad) n c (l.map enc))
  (hn:n<4611686018427387904) :
  CallsH Try.prog 71 #[.slice (some ad) n c,.func (.func g) #[] #[]] h fun v h'=>
   v=.tuple #[]/\Upd (atb (some ad)) h h'/\Own 1 h' (some ad) n c ((l.mergeSort fun x y=>!ltOf cf y x).map enc):=by
 intro w hw
 subst hw
 obtain ⟨blk,off,sp⟩:=ad
 obtain ⟨hsp,cs,e,fr,hb,hle,hlo⟩:=o.mem
 simp only at hsp hb hle
 subst hsp
 have hblk:=(Array.getElem?_eq_some_iff.1 hb).1
 have hlen:l.length=n:=by have:=o.rd.len;simpa using this
 have hcap:=o.cap
 have hH:Holds enc w blk off l.toArray:=by
  intro j hj
  have hj':j<l.length:=by simpa using hj
  have hrd:=o.rd.read j (enc l[j]) (by simp [hj'])
  rw [cellH_row hb rfl] at hrd
  constructor
  ·rw [cell_eq]
   unfold cellH
   simp only [hb,Option.isSome_none,Bool.false_eq_true,if_false]
   rw [hrd]
   rw [getElem!_pos l.toArray j hj];simp
  ·unfold World.frozen?
   simp only [hb]
   have:=hlo (off+j) (Nat.le_add_right _ _) (by simp only at hle ⊢;omega)
   simpa using this
 have eg:∀ args w,(callFunc g args).run Try.prog w=.ok (.enter g args) w:=by
  intro args w
  unfold callOk at hg
  cases hf:Try.prog.funcs[g]? with
  | none=>simp [hf] at hg
  | some fn=>
   simp only [hf,Bool.and_eq_true,Bool.not_eq_true'] at hg
   have hbd:fn.body.isNone=false:=by
    have:=hg.1
    cases hbb:fn.body <;> simp_all
   unfold callFunc
   simp only [Sem.run_bind,run_program,Result.andThen_ok,hf,hg.2,Bool.false_eq_true,if_false,hbd,Sem.run_pure]
 have hsz:l.toArray.size=n:=by simpa using hlen
 have hp:=Try.slices_SortFunc_total enc h1 cf hO g #[] blk off c l.toArray w eg (cmpReads_of hc blk off _ w).lays hH hblk (by omega) hT
 rw [hsz] at hp
 refine hp.mono fun e' w' ⟨he,n',os,hw'⟩=>⟨_,he,?_⟩
 have hd:(l.toArray.toList.mergeSort fun x y=>!(ltOf cf) y x).toArray.toList=l.mergeSort fun x y=>!(ltOf cf) y x:=by simp
 have hsz2:(l.toArray.toList.mergeSort fun x y=>!(ltOf cf) y x).toArray.size=n:=by simpa using hlen
 generalize (l.toArray.toList.mergeSort fun x y=>!(ltOf cf) y x).toArray=d' at hd hw' hsz2
 subst hw'
 have hheap:(sortWorld enc w blk off n' d' os).heap=w.heap.modify blk (onCells (putCells enc off d'))++os:=rfl
 have hold:∀ b,b<w.heap.size->(sortWorld enc w blk off n' d' os).heap[b]?=if blk=b then some (.cells (putCells enc off d' cs) e fr) else w.heap[b]?:=by
  intro b hbb
  rw [hheap,Array.getElem?_append_left (by simpa using hbb),Array.getElem?_modify]
  split
  ·rename_i hbe
   subst hbe
   rw [hb];rfl
  ·rfl
 refine ⟨⟨rfl,rfl,rfl,⟨by rw [hheap];simp,.inl (Nat.le_add_right _ _)⟩⟩,rfl,⟨?_,fun b hbb hne=>?_⟩,?_⟩
 ·rw [hheap];simp
 ·rw [hold b hbb,if_neg fun hbe=>hne ⟨_,rfl,hbe.symm⟩]
 ·have hrow:=hold blk hblk
  rw [if_pos rfl] at hrow
  have hpsz:(putCells enc off d' cs).size=cs.size:=by unfold putCells;simp
  refine ⟨⟨fun i v hv=>?_,?_⟩,hcap,rfl,_,e,fr,hrow,by rw [hpsz];exact hle,hlo⟩
  ·rw [cellH_row hrow rfl]
   rw [<- show d'.toList=l.mergeSort (fun x y=>!ltOf cf y x) from hd] at hv
   have hi:=(List.getElem?_eq_some_iff.1 hv).1
   simp only [List.length_map,Array.length_toList] at hi
   rw [putCells_at hi (by omega)]
   simpa [hi] using hv
  ·rw [List.length_map,List.length_mergeSort,Nat.mul_one];exact hlen
end
theorem c72 {x y:Int} (x0:-262144≤x) (x1:x≤262144) (y0:-262144≤y) (y1:y≤262144) (h:Heap):CallsH Try.prog 72 #[.int .i64 x,.int .i64 y] h (Ret (.int .i64 ((x.natAbs:Int)-y.natAbs)) h):=by
 refine run72 x y _ h ?_
 unfold VC72
 have e1:max x (IntKind.wrap .i64 (0-x))=(x.natAbs:Int):=by rw [w64 (by omega) (by omega)];omega
 have e2:max y (IntKind.wrap .i64 (0-y))=(y.natAbs:Int):=by rw [w64 (by omega) (by omega)];omega
 rw [e1,e2,w64 (by omega) (by omega)]
 exact ⟨rfl,rfl⟩
theorem sortAbs:SortAbs:=by
 intro h a n c l o hn hl hd
 have hlen:l.length=n:=by have:=o.rd.ilen;omega
 cases a with
 | none=>
  have hc:c=0:=o.mem
  have h0:n=0:=by have:=o.cap;omega
  subst h0
  obtain rfl:l=[]:=List.length_eq_zero_iff.1 hlen
  intro w hw
  subst hw
  exact (Try.slices_SortFunc_none (α:=Int) none c _ w).mono fun e w' ⟨he,hw'⟩=>by subst hw';exact ⟨_,he,.refl _,rfl,.refl _,[],o,fun x=>Iff.rfl,.nil⟩
 | some ad=>
  cases hl0:l with
  | nil=>
   subst hl0
   have h0:n=0:=by simpa using hlen.symm
   subst h0
   intro w hw
   subst hw
   exact (Try.slices_SortFunc_none (α:=Int) (some ad) c _ w).mono fun e w' ⟨he,hw'⟩=>by subst hw';exact ⟨_,he,.refl _,rfl,.refl _,[],o,fun x=>Iff.rfl,.nil⟩
  | cons z0 r0=>
   rw [<- hl0]
   let α:={ x:Int // x∈l }
   haveI:Inhabited α:=⟨⟨z0,by rw [hl0];exact List.mem_cons_self ..⟩⟩
   let enc:α->Value:=fun x=>.int .i64 x.1
   let cf:α->α->Int:=fun x y=>(x.1.natAbs:Int)-y.1.natAbs
   have hlt:∀ x y,ltOf cf x y=decide (x.1.natAbs<y.1.natAbs):=fun x y=>by
    unfold ltOf
    simp only [cf]
    congr 1
    exact propext ⟨fun h=>by omega,fun h=>by omega⟩
   have inj:∀ x y:α,x.1.natAbs=y.1.natAbs->x=y:=fun x y e=>by
    refine Subtype.ext ?_
    obtain ⟨i,hi,hxi⟩:=List.getElem_of_mem x.2
    obtain ⟨j,hj,hyj⟩:=List.getElem_of_mem y.2
    have hp:=List.pairwise_iff_getElem.1 hd
    rcases Nat.lt_trichotomy i j with h | h | h
    ·exact absurd (by rw [hxi,hyj];exact e) (hp i j hi hj h)
    ·subst h;rw [<- hxi,<- hyj]
    ·exact absurd (by rw [hxi,hyj];exact e.symm) (hp j i hj hi h)
   have hO:SWO (ltOf cf):={ irrefl:=fun x=>by rw [hlt];simp,trans:=fun x y z h1 h2=>by rw [hlt] at *;simp only [decide_eq_true_eq] at *;omega,ntrans:=fun x y z h1 h2=>by rw [hlt] at *;simp only [decide_eq_false_iff_not] at *;omega }
   have hT:∀ x y,ltOf cf x y=false->ltOf cf y x=false->x=y:=fun x y h1 h2=>by
    rw [hlt] at *
    simp only [decide_eq_false_iff_not] at *
    exact inj x y (by omega)
   have e:ints l=l.attach.map enc:=by
    have:∀ m:List Int,m.map (Value.int .i64)=m.map (fun x=>Value.int .i64 x):=fun _=>rfl
    show l.map (Value.int .i64)=l.attach.map fun x=>Value.int .i64 x.1
    conv=>lhs;rw [<- List.attach_map_subtype_val l,List.map_map]
    rfl
   rw [e] at o
   refine (srtH (enc:=enc) (fun _=>rfl) hO hT (g:=72) (by kernel_rfl) (fun x y h=>c72 (hl _ x.2).1 (hl _ x.2).2 (hl _ y.2).1 (hl _ y.2).2 h) o (by omega)).mono ?_
   rintro _ h' ⟨rfl,hu,ho⟩
   have hp:=List.pairwise_mergeSort (le:=fun x y=>!ltOf cf y x) (fun a b c h1 h2=>by simp only [hlt,Bool.not_eq_true',decide_eq_false_iff_not] at *;omega)
    (fun a b=>by simp only [hlt,Bool.or_eq_true,Bool.not_eq_true',decide_eq_false_iff_not];omega) l.attach
   have hq:=List.mergeSort_perm l.attach (fun x y=>!ltOf cf y x)
   generalize l.attach.mergeSort (fun x y=>!ltOf cf y x)=s at hp hq ho
   have hqv:(s.map Subtype.val).Perm l:=by
    have:=hq.map Subtype.val
    rwa [List.attach_map_subtype_val] at this
   refine ⟨rfl,hu,s.map Subtype.val,?_,fun x=>hqv.mem_iff,?_⟩
   ·have e2:ints (s.map Subtype.val)=s.map enc:=by unfold ints;rw [List.map_map];rfl
    rw [e2];exact ho
   ·have hd2:(s.map Subtype.val).Pairwise fun x y=>x.natAbs≠y.natAbs:=hqv.symm.pairwise hd fun {x y} h e=>h e.symm
    rw [List.pairwise_map] at hd2 ⊢
    refine List.Pairwise.imp₂ (fun a b h1 h2=>?_) hp hd2
    simp only [hlt,Bool.not_eq_true',decide_eq_false_iff_not] at h1
    omega
end Go.Proofs.Ytobageabpfkpcaa
