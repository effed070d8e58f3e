/- Words and facts that the claim's proof leans on. No condition. -/
import Derived.Test.YtobageabpfkpcaaGreatDoorFA
import Derived.Test.YtobageabpfkpcaaGreatDoorCAf
import Derived.Test.YtobageabpfkpcaaGreatDoorFI
import Derived.Test.YtobageabpfkpcaaGreatDoorFE
set_option linter.unusedVariables false
set_option linter.unusedSimpArgs false
set_option maxRecDepth 100000
namespace Go.Hx
end Go.Hx
namespace Go.Proofs.YtobageabpfkpcaaGreatDoor
open Go.Hx
section
variable {h:Heap} {v w:FV} {F G:Fm}
theorem c76 {a b:Option Addr} {n c m d:Nat} {A B:List Int} (r:Rd h a n (ints A)) (s:Rd h b m (ints B)) (hn:n<9223372036854775807) (hm:m<9223372036854775807) :
  CallsH Tryz.prog 76 #[.slice a n c,.slice b m d] h (Ret (.bool (decide (A=B))) h):=by
 have la:=r.ilen
 have lb:=s.ilen
 refine run76 a n c b m d _ h ⟨fun hl=>?_,fun hl=>⟨by rw [decide_eq_false];intro e;subst e;omega,rfl⟩⟩
 refine LoopT.to (n:=n) hn (fun i h'=>h'=h/\∀ j,j<i->A[j]?=B[j]?) ⟨rfl,fun j hj=>by omega⟩ ?_
 rintro i _ K hi ⟨rfl,hI⟩ hK
 refine ⟨fun hlt=>?_,fun hlt=>?_⟩
 ·refine ⟨by omega,hlt,r.getn (by omega) fun ad hl1 hc=>⟨_,hc,by omega,by omega,s.getn (by omega) fun ad2 hl2 hc2=>⟨_,hc2,fun e=>?_,fun e=>?_⟩⟩⟩
  ·refine hK _ (by omega) ⟨rfl,fun j hj=>?_⟩
   by_cases hji:j=i
   ·subst hji;rw [List.getElem?_eq_getElem (show j<A.length from hl1),List.getElem?_eq_getElem (show j<B.length from hl2)];exact congrArg some e
   ·exact hI j (by omega)
  ·refine ⟨?_,rfl⟩
   rw [decide_eq_false]
   intro e2;subst e2;exact e rfl
 ·refine ⟨?_,rfl⟩
  rw [decide_eq_true]
  exact eq_of_at (by omega) fun j hj=>hI j (by omega)
theorem c75 {a b:Option Addr} {n c m d:Nat} {A B:List Int} (r:Rd h a n (ints A)) (s:Rd h b m (ints B)) (hn:n<9223372036854775807) (hm:m<9223372036854775807) :
  CallsH Tryz.prog 75 #[.slice a n c,.slice b m d] h (Ret (.bool (decide (A=B))) h):=
 run75 a n c b m d _ h (use (c76 r s hn hm) ⟨_,rfl,rfl,rfl⟩)
theorem ok75:callOk Tryz.prog 75=true:=by kernel_rfl
theorem c74 {a b:Option Addr} {n c m d:Nat} {A B:List (List Int)} (r:RdRs h a n A) (s:RdRs h b m B) (hn:n<9223372036854775807) (hx:∀ x∈A,x.length<9223372036854775807) (hy:∀ x∈B,x.length<9223372036854775807) :
  CallsH Tryz.prog 74 #[.slice a n c,.slice b m d,.func (.func 75) #[] #[]] h (Ret (.bool (decide (A=B))) h):=by
 have la:=r.len
 have lb:=s.len
 refine run74 a n c b m d _ _ h ⟨fun hl=>?_,fun hl=>⟨by rw [decide_eq_false];intro e;subst e;omega,rfl⟩⟩
 refine LoopT.to (n:=n) hn (fun i h'=>h=h'/\∀ j,j<i->A[j]?=B[j]?) ⟨rfl,fun j hj=>by omega⟩ ?_
 rintro i _ K hi ⟨rfl,hI⟩ hK
 refine ⟨fun hlt=>?_,fun hlt=>⟨by rw [decide_eq_true];exact eq_of_at (by omega) fun j hj=>hI j (by omega),rfl⟩⟩
 refine ⟨by omega,hlt,r.get (i:=i) (by omega) fun ad hl1 s1 hc hs hsc hsl hsn=>⟨_,_,_,hc,by omega,by omega,s.get (i:=i) (by omega) fun ad2 hl2 s2 hc2 hs2 hsc2 hsl2 hsn2=>⟨_,_,_,hc2,?_⟩⟩⟩
 have:=hx _ (List.getElem_mem hl1)
 have:=hy _ (List.getElem_mem hl2)
 refine CallV.func ok75 (use (c75 hs hs2 (by omega) (by omega)) ⟨_,rfl,?_⟩)
 rw [hsl,hsl2]
 by_cases he:A[i]=B[i]
 ·rw [decide_eq_true he]
  refine BIf.f (hK _ (by omega) ⟨rfl,fun j hj=>?_⟩)
  by_cases hji:j=i
  ·subst hji;rw [List.getElem?_eq_getElem hl1,List.getElem?_eq_getElem hl2,he]
  ·exact hI j (by omega)
 ·rw [decide_eq_false he]
  refine BIf.t ⟨by rw [decide_eq_false];intro e;subst e;exact he rfl,rfl⟩
theorem c39 (r:FIs h v F) (s:FIs h w G) (ok:F.Ok) (ok2:G.Ok):CallsH Tryz.prog 39 #[v.v,w.v] h (Xt (.bool (decide (F.vars=G.vars/\F.cls=G.cls))) h):=by
 have hok:=ok.n
 have hlen:=r.r.len
 refine run39 v.n v.s.a v.s.n v.s.c w.n w.s.a w.s.n w.s.c _ h ?_
 unfold VC39
 intro h1 h2
 have e1:Ext h h1:=Ext.box h _
 have e12:Ext h1 h2:=Ext.box h1 _
 have hb:Rd h2 (some ⟨h.size,0,none⟩) 2 v.cs:=(boxF v 24).ext e12
 have hw:Rd h2 (some ⟨h1.size,0,none⟩) 2 w.cs:=boxF w 24
 have e2:=e1.trans e12
 refine ⟨_,hb.fld 0 rfl,_,hw.fld 0 rfl,fun he=>⟨_,_,_,hb.fld 1 rfl,_,_,_,hw.fld 1 rfl,use (c74 (r.r.ext e2) (s.r.ext e2) (by omega) (fun x hx=>by have:=ok.l x hx;omega) (fun x hx=>by have:=ok2.l x hx;omega)) ⟨_,rfl,?_,e2⟩⟩,fun hne=>⟨?_,e2⟩⟩
 ·by_cases hc:F.cls=G.cls
  ·rw [decide_eq_true hc,decide_eq_true ⟨by rw [<- r.n,<- s.n];exact he,hc⟩]
  ·rw [decide_eq_false hc,decide_eq_false fun h=>hc h.2]
 ·rw [decide_eq_false]
  rintro ⟨h1,_⟩
  exact hne (by rw [r.n,s.n];exact h1)
end
end Go.Proofs.YtobageabpfkpcaaGreatDoor
