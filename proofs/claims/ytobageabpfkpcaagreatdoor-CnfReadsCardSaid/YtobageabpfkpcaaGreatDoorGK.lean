/- Words and facts that the claim's proof leans on. No condition. -/
import Derived.Test.YtobageabpfkpcaaGreatDoorFA
import Derived.Test.YtobageabpfkpcaaGreatDoorHxV
import Derived.Test.YtobageabpfkpcaaGreatDoorChecked
import Derived.Test.YtobageabpfkpcaaGreatDoorFI
import Derived.Test.YtobageabpfkpcaaGreatDoorFE
set_option linter.unusedVariables false
set_option linter.unusedSimpArgs false
set_option maxRecDepth 100000
namespace Go.Proofs.YtobageabpfkpcaaGreatDoor
open Go.Hx
section
variable {h:Heap} {v w:FV} {F G:Fm}
theorem c15m {h0:Heap} {rows:List Rw} {X:List Itm} (hr:rows.map Rw.l=F.cls) (m:Mem h0 h (⟨1,v.s.a,v.s.n,v.s.c,rows.map Rw.v⟩::(rows.map Rw.it++X))) (hn:F.cls.length<9223372036854775807) (hl:∀ x∈F.cls,x.length<9223372036854775807) (mk:Int):CallsH Tryz.prog 15 #[v.v,.int .i64 mk] h fun w h'=>w=.tuple #[]/\Mem h0 h' X:=by
 have hlen:F.cls.length=v.s.n:=by
  have:=(m.get 0 rfl).own.rd.len
  rw [<- hr,List.length_map]
  simpa using this
 refine run15 v.n v.s.a v.s.n v.s.c mk _ h ?_
 unfold VC15
 intro h1
 have f1:Fr h 1 h1 (some ⟨h.size,0,none⟩) 2 2 v.cs:=boxFf (.refl h) v 24
 have m1:=m.add (t:=⟨1,some ⟨h.size,0,none⟩,2,2,v.cs⟩) f1
 have hrl:rows.length=v.s.n:=by rw [<- hlen,<- hr,List.length_map]
 refine LoopT.to (n:=v.s.n) (by omega) (fun i h'=>∃ vals:List Value,vals.length=rows.length/\vals.drop i=(rows.drop i).map Rw.v/\Mem h0 h' (⟨1,some ⟨h.size,0,none⟩,2,2,v.cs⟩::⟨1,v.s.a,v.s.n,v.s.c,vals⟩::((rows.drop i).map Rw.it++X))) ⟨rows.map Rw.v,by simp,by simp,by simpa using m1⟩ ?_
 rintro i h2 K hi ⟨vals,hvl,hvd,m2⟩ hK
 have hb:=(m2.get 0 rfl).rd
 refine ⟨_,_,_,hb.fld 1 rfl,fun hlt=>?_,fun hlt=>⟨rfl,m2.sub (.cons _ (.cons _ (List.sublist_append_right _ _)))⟩⟩
 have hi2:i<rows.length:=by omega
 unfold J15_0
 refine ⟨_,_,_,hb.fld 1 rfl,by omega,hlt,?_⟩
 have hv:vals[i]?=some (rows[i].v):=by
  have:=congrArg (fun l=>l[0]?) hvd
  simp only [List.getElem?_drop,List.getElem?_map,Nat.add_zero,List.getElem?_eq_getElem hi2,Option.map_some] at this
  exact this
 have hat:=(m2.get 1 rfl).rd.at hv
 obtain ⟨ad,had,hc⟩:∃ ad,v.s.a=some ad/\cellH h2 (ad.add i)=some (rows[i].v):=by
  unfold AtP at hat
  split at hat
  ·rename_i ad h9;exact ⟨ad,h9,hat⟩
  ·exact hat.elim
 have hmem:rows[i]∈rows:=List.getElem_mem hi2
 have hlx:rows[i].n<9223372036854775807:=by
  have h3:=hl rows[i].l (by rw [<- hr];exact List.mem_map_of_mem hmem)
  have:=(m.fr rows[i].it (by simp only [List.mem_cons,List.mem_append,List.mem_map];exact .inr (.inl ⟨_,hmem,rfl⟩))).own.rd.len
  simp only [Rw.it,ints,List.length_map,Nat.mul_one] at this
  omega
 refine AtP.mk had ⟨_,_,_,by rw [Int.toNat_natCast,Nat.mul_one];exact hc,?_⟩
 have hd:(rows.drop i).map Rw.it=rows[i].it::(rows.drop (i+1)).map Rw.it:=by rw [List.drop_eq_getElem_cons hi2,List.map_cons]
 rw [hd,List.cons_append] at m2
 refine (c22 (m2.get 2 rfl) hlx mk).mono ?_
 rintro _ h3 ⟨rfl,vs',f3,u3⟩
 have m3:=m2.setAt 2 (t':=⟨1,rows[i].a,rows[i].n,rows[i].c,vs'⟩) rfl f3 u3 (.inl rfl)
 refine ⟨rfl,_,_,_,(m3.get 0 rfl).rd.fld 1 rfl,?_⟩
 intro h4
 have m4:=m3.ext' (Ext.push h3 (.cells #[.int .i64 mk] 3))
 refine ⟨by omega,hlt,?_⟩
 refine (m4.get 1 rfl).set1 (j:=(i:Int)) (by omega) hlt (v:=.slice (some ⟨h3.size,0,none⟩) 1 1) rfl fun h5 u5 f5=>?_
 have m5:=m4.setAt 1 (t':=⟨1,v.s.a,v.s.n,v.s.c,vals.set i (.slice (some ⟨h3.size,0,none⟩) 1 1)⟩) rfl (by rw [Int.toNat_natCast] at f5;exact f5) u5 (.inl rfl)
 refine hK h5 (by omega) ⟨_,by rw [List.length_set];exact hvl,?_,m5.sub (.cons_cons _ (.cons_cons _ (.cons _ (.refl _))))⟩
 rw [List.drop_set_of_lt (by omega)]
 have:=congrArg (List.drop 1) hvd
 rw [List.drop_drop,<- List.map_drop,List.drop_drop] at this
 exact this
end
end Go.Proofs.YtobageabpfkpcaaGreatDoor
