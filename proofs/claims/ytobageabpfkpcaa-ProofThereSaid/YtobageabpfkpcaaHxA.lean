/- Words and facts that the claim's proof leans on. No condition. -/
import Derived.Orders
import Derived.Tactics
import Derived.Eval
import Derived.Laws.Slices
import Derived.Laws.Cells
namespace Go.Hx
inductive Cls where
 | pure | read | ext | eff
 deriving DecidableEq
def Cls.compat:Cls->Cls->Bool
 | .pure,_=>true
 | _,.pure=>true
 | .read,.read=>true
 | .read,.ext=>true
 | .ext,.read=>true
 | _,_=>false
abbrev Heap:=Array Obj
structure Zone where
 r:Heap->Heap->Prop
 refl:∀ h,r h h
 symm:∀ {h h'},r h h'->r h' h
 trans:∀ {a b c},r a b->r b c->r a c
def Zone.old (n:Nat):Zone:=⟨fun h h'=>∀ b,b<n->h'[b]?=h[b]?,fun _ _ _=>rfl,fun h b hb=>(h b hb).symm,fun h k i hi=>(k i hi).trans (h i hi)⟩
def Agree (n0:Option Zone) (w w':World):Prop:=match n0 with | none=>w'.heap=w.heap | some z=>z.r w.heap w'.heap
theorem Agree.refl (n0:Option Zone) (w:World):Agree n0 w w:=by
 cases n0 with
 | none=>rfl
 | some z=>exact z.refl _
theorem Agree.symm {n0:Option Zone} {w w':World} (h:Agree n0 w w'):Agree n0 w' w:=by
 cases n0 with
 | none=>exact Eq.symm h
 | some z=>exact z.symm h
theorem Agree.trans {n0:Option Zone} {a b c:World} (h:Agree n0 a b) (k:Agree n0 b c):Agree n0 a c:=by
 cases n0 with
 | none=>exact Eq.trans k h
 | some z=>exact z.trans h k
def noEnd:Exit->Act->World->Prop:=fun _ _ _=>False
section
variable {P:Program} {ops:Array Oper}
def YieldsR (P:Program) (ops:Array Oper) (n0:Option Zone) (w:World) (o:Oper) (v:Value) (a:Act):Prop:=
 (Region.wanted o (yielded ops a.tmps)=true/\∀ w',Agree n0 w w'->(execOp a.eval o).run P w'=.ok (.value v) w') ∨
 (Region.wanted o (yielded ops a.tmps)=false/\v=undef)
theorem YieldsR.agree {n0:Option Zone} {w w':World} {o:Oper} {v:Value} {a:Act} (h:YieldsR P ops n0 w o v a) (hw:Agree n0 w w'):YieldsR P ops n0 w' o v a:=by
 rcases h with ⟨h1,h2⟩ | h
 ·exact .inl ⟨h1,fun w2 h3=>h2 w2 (hw.trans h3)⟩
 ·exact .inr h
theorem YieldsR.of_same {n0:Option Zone} {w:World} {o:Oper} {v:Value} {a a':Act} (hy:YieldsR P ops n0 w o v a) (he:execOp a'.eval o=execOp a.eval o)
  (hw:Region.wanted o (yielded ops a'.tmps)=Region.wanted o (yielded ops a.tmps)):YieldsR P ops n0 w o v a':=by
 unfold YieldsR at *
 rw [he,hw]
 exact hy
theorem YieldsR.wpOp {n0:Option Zone} {Q:Exit->Act->World->Prop} {i:Nat} {o:Oper} {v:Value} {a:Act} {w:World} (hi:ops[i]?=some o) (hy:YieldsR P ops n0 w o v a)
  {K:Act->World->Prop} (h:K (a.put o.dst v) w):wpOp P ops Q i K a w:=by
 unfold Go.wpOp
 simp only [hi]
 rcases hy with ⟨hw,hv⟩ | ⟨hw,rfl⟩
 ·simp only [hw,if_true,Oper.wp,hv w (.refl _ _),Oper.upon];exact .inl h
 ·simp only [hw,Bool.false_eq_true,if_false];exact h
theorem yieldsR_unique {n0:Option Zone} {w:World} {o:Oper} {v v':Value} {a:Act} (h:YieldsR P ops n0 w o v a) (h':YieldsR P ops n0 w o v' a):v=v':=by
 rcases h with ⟨h1,h2⟩ | ⟨h1,h2⟩ <;> rcases h' with ⟨k1,k2⟩ | ⟨k1,k2⟩
 ·have e:=(h2 w (.refl _ _)).symm.trans (k2 w (.refl _ _))
  injection e with e;injection e
 ·rw [h1] at k1;cases k1
 ·rw [h1] at k1;cases k1
 ·rw [h2,k2]
theorem yields_unique {o:Oper} {v v':Value} {a:Act} (h:Yields P ops o v a) (h':Yields P ops o v' a):v=v':=by
 rcases h with ⟨h1,h2⟩ | ⟨h1,h2⟩ <;> rcases h' with ⟨k1,k2⟩ | ⟨k1,k2⟩
 ·have e:=(h2 default).symm.trans (k2 default)
  injection e with e;injection e
 ·rw [h1] at k1;cases k1
 ·rw [h1] at k1;cases k1
 ·rw [h2,k2]
def stepC (P:Program) (ops:Array Oper) (cls:Oper->Cls) (n0:Option Zone) (i:Nat) (K:Act->World->Prop) (a:Act) (w:World):Prop:=
 match ops[i]? with
 | none=>False
 | some o=>
  match cls o with
  | .pure=>∃ v,Yields P ops o v a/\K (a.put o.dst v) w
  | .read=>∃ v,YieldsR P ops n0 w o v a/\K (a.put o.dst v) w
  | .ext=>wpOp P ops noEnd i (fun a' w'=>Agree n0 w w'/\K a' w') a w
  | .eff=>wpOp P ops noEnd i K a w
def runC (P:Program) (ops:Array Oper) (cls:Oper->Cls) (n0:Option Zone) (K:Act->World->Prop):List Nat->Act->World->Prop
 | []=>K
 | i::l=>stepC P ops cls n0 i (runC P ops cls n0 K l)
theorem stepC_mono {cls:Oper->Cls} {n0:Option Zone} {i:Nat} {K K':Act->World->Prop} (hk:∀ a w,K a w->K' a w) {a:Act} {w:World}
  (h:stepC P ops cls n0 i K a w):stepC P ops cls n0 i K' a w:=by
 unfold stepC at *
 cases ho:ops[i]? with
 | none=>simp [ho] at h
 | some o=>
  simp only [ho] at h ⊢
  cases hc:cls o <;> simp only [hc] at h ⊢
  ·obtain ⟨v,h1,h2⟩:=h;exact ⟨v,h1,hk _ _ h2⟩
  ·obtain ⟨v,h1,h2⟩:=h;exact ⟨v,h1,hk _ _ h2⟩
  ·exact wpOp_mono (fun a w h=>⟨h.1,hk _ _ h.2⟩) h
  ·exact wpOp_mono hk h
theorem wpOp_end {Q:Exit->Act->World->Prop} {i:Nat} {K:Act->World->Prop} {a:Act} {w:World} (h:wpOp P ops noEnd i K a w):wpOp P ops Q i K a w:=by
 unfold wpOp at *
 cases ho:ops[i]? with
 | none=>simpa [ho] using h
 | some o=>
  simp only [ho] at h ⊢
  split
  ·rename_i hw
   rw [if_pos hw] at h
   rcases h with h | ⟨_,_,_,h⟩
   case inr=>exact h.elim
   refine .inl ?_
   unfold Oper.wp at *
   generalize (execOp a.eval o).run P w=r at *
   cases r with
   | ok n w'=>
    cases n <;> simp only [Oper.upon] at h ⊢ <;> first | exact h | exact h.elim | skip
    case enter f args=>
     refine Calls.mono h fun e w'' he=>?_
     cases e with
     | returned v=>exact he
     | panicked c=>exact he.elim
     | outgrown=>obtain ⟨_,_,hf⟩:=he;exact hf.elim
   | halt x w'=>cases x <;> simp only [Oper.upon] at h ⊢ <;> exact h.elim
  ·rename_i hw
   rw [if_neg hw] at h
   exact h
theorem wpOp_of_stepC {cls:Oper->Cls} {n0:Option Zone} {i:Nat} {K:Act->World->Prop} {Q:Exit->Act->World->Prop} {a:Act} {w:World}
  (h:stepC P ops cls n0 i K a w):wpOp P ops Q i K a w:=by
 unfold stepC at h
 cases ho:ops[i]? with
 | none=>simp [ho] at h
 | some o=>
  simp only [ho] at h
  cases hc:cls o <;> simp only [hc] at h
  ·obtain ⟨v,h1,h2⟩:=h;exact h1.wpOp ho h2
  ·obtain ⟨v,h1,h2⟩:=h;exact h1.wpOp ho h2
  ·exact wpOp_end (wpOp_mono (fun _ _ h=>h.2) h)
  ·exact wpOp_end h
theorem wpOp_shape {j:Nat} {oj:Oper} (hj:ops[j]?=some oj) {K:Act->World->Prop} {a:Act} {w:World} (h:wpOp P ops noEnd j K a w) :
  wpOp P ops noEnd j (fun a' w'=>(∃ (u:Value) (d:List Deferred),a'=({ a with defers:=d }:Act).put oj.dst u)/\K a' w') a w:=by
 unfold wpOp at *
 simp only [hj] at h ⊢
 split
 ·rename_i hw
  rw [if_pos hw] at h
  rcases h with h | ⟨_,_,_,h⟩
  case inr=>exact h.elim
  refine .inl ?_
  unfold Oper.wp at *
  generalize (execOp a.eval oj).run P w=r at *
  cases r with
  | ok n w'=>
   cases n <;> simp only [Oper.upon] at h ⊢
   case value u=>exact ⟨⟨u,a.defers,rfl⟩,h⟩
   case skip=>exact ⟨⟨undef,a.defers,rfl⟩,h⟩
   case defer d=>exact ⟨⟨undef,d::a.defers,rfl⟩,h⟩
   case enter f args=>
    refine Calls.mono h fun e w'' he=>?_
    cases e with
    | returned u=>exact ⟨⟨u,a.defers,rfl⟩,he⟩
    | panicked c=>exact he
    | outgrown=>exact he
   case row row args=>exact Rows.mono h fun u w'' he=>⟨⟨u,a.defers,rfl⟩,he⟩
  | halt x w'=>cases x <;> simp only [Oper.upon] at h ⊢ <;> exact h
 ·rename_i hw
  rw [if_neg hw] at h
  exact ⟨⟨undef,a.defers,rfl⟩,h⟩
theorem wpOp_some {j:Nat} {K:Act->World->Prop} {a:Act} {w:World} (h:wpOp P ops noEnd j K a w):∃ a' w',K a' w':=by
 unfold wpOp at h
 cases hj:ops[j]? with
 | none=>simp only [hj] at h;exact ⟨_,_,h⟩
 | some oj=>
  simp only [hj] at h
  split at h
  ·rcases h with h | ⟨_,_,_,h⟩
   case inr=>exact h.elim
   unfold Oper.wp at h
   generalize (execOp a.eval oj).run P w=r at *
   cases r with
   | ok n w'=>
    cases n <;> simp only [Oper.upon] at h <;> first | exact h.elim | exact ⟨_,_,h⟩ | skip
    case enter f args=>
     obtain ⟨e,w'',fr,hR,_⟩:=h []
     cases e with
     | returned v=>exact ⟨_,_,hR⟩
     | panicked c=>exact hR.elim
     | outgrown=>obtain ⟨_,_,hf⟩:=hR;exact hf.elim
    case row row args=>
     obtain ⟨v,w'',hR,_⟩:=h default []
     exact ⟨_,_,hR⟩
   | halt x w'=>cases x <;> simp only [Oper.upon] at h <;> exact h.elim
  ·exact ⟨_,_,h⟩
theorem wpOp_put_last {j:Nat} {oi oj:Oper} (hj:ops[j]?=some oj) (hap:oi.apart ops oj=true) (hsj:∀ cs b,oj.op≠.select cs b)
  {K:Act->World->Prop} {a:Act} {w:World} {v:Value}
  (h:wpOp P ops noEnd j (fun a' w'=>K (a'.put oi.dst v) w') a w):wpOp P ops noEnd j K (a.put oi.dst v) w:=by
 obtain ⟨h1,h2,h3⟩:=Oper.apart_spec hap
 unfold wpOp at *
 simp only [hj] at h ⊢
 rw [wanted_put oj a oi.dst v h1]
 split
 ·rename_i hw
  rw [if_pos hw] at h
  rcases h with h | ⟨_,_,_,h⟩
  case inr=>exact h.elim
  refine .inl ?_
  unfold Oper.wp at *
  rw [execOp_put oj hsj a oi.dst v h1]
  generalize (execOp a.eval oj).run P w=r at *
  cases r with
  | ok n w'=>
   cases n <;> simp only [Oper.upon] at h ⊢
   case value u=>rw [Act.put_comm a v u h2];exact h
   case skip=>rw [Act.put_comm a v undef h2];exact h
   case defer d=>rw [Act.put_defers,Act.put_comm _ v undef h2];exact h
   case enter f args=>
    refine Calls.mono h fun e w'' he=>?_
    cases e with
    | returned u=>show K ((a.put oi.dst v).put oj.dst u) w'';rw [Act.put_comm a v u h2];exact he
    | panicked c=>exact he
    | outgrown=>exact he
   case row row args=>exact Rows.mono h fun u w'' he=>by rw [Act.put_comm a v u h2];exact he
  | halt x w'=>cases x <;> simp only [Oper.upon] at h ⊢ <;> exact h
 ·rename_i hw
  rw [if_neg hw] at h
  rw [Act.put_comm a v undef h2]
  exact h
theorem wpOp_put_first {j:Nat} {oi oj:Oper} (hj:ops[j]?=some oj) (hap:oi.apart ops oj=true) (hsj:∀ cs b,oj.op≠.select cs b)
  {K:Act->World->Prop} {a:Act} {w:World} {v:Value}
  (h:wpOp P ops noEnd j K (a.put oi.dst v) w) :
  wpOp P ops noEnd j (fun a' w'=>(∃ (u:Value) (d:List Deferred),a'=({ a with defers:=d }:Act).put oj.dst u)/\K (a'.put oi.dst v) w') a w:=by
 obtain ⟨h1,h2,h3⟩:=Oper.apart_spec hap
 unfold wpOp at *
 simp only [hj] at h ⊢
 rw [wanted_put oj a oi.dst v h1] at h
 split
 ·rename_i hw
  rw [if_pos hw] at h
  rcases h with h | ⟨_,_,_,h⟩
  case inr=>exact h.elim
  refine .inl ?_
  unfold Oper.wp at *
  rw [execOp_put oj hsj a oi.dst v h1] at h
  generalize (execOp a.eval oj).run P w=r at *
  cases r with
  | ok n w'=>
   cases n <;> simp only [Oper.upon] at h ⊢
   case value u=>exact ⟨⟨u,a.defers,rfl⟩,by rw [<- Act.put_comm a v u h2];exact h⟩
   case skip=>exact ⟨⟨undef,a.defers,rfl⟩,by rw [<- Act.put_comm a v undef h2];exact h⟩
   case defer d=>exact ⟨⟨undef,d::a.defers,rfl⟩,by rw [<- Act.put_comm _ v undef h2,<- Act.put_defers];exact h⟩
   case enter f args=>
    refine Calls.mono h fun e w'' he=>?_
    cases e with
    | returned u=>exact ⟨⟨u,a.defers,rfl⟩,by rw [<- Act.put_comm a v u h2];exact he⟩
    | panicked c=>exact he
    | outgrown=>exact he
   case row row args=>exact Rows.mono h fun u w'' he=>⟨⟨u,a.defers,rfl⟩,by rw [<- Act.put_comm a v u h2];exact he⟩
  | halt x w'=>cases x <;> simp only [Oper.upon] at h ⊢ <;> exact h
 ·rename_i hw
  rw [if_neg hw] at h
  exact ⟨⟨undef,a.defers,rfl⟩,by rw [<- Act.put_comm a v undef h2];exact h⟩
theorem execOp_defers (o:Oper) (a:Act) (d:List Deferred):execOp ({ a with defers:=d }:Act).eval o=execOp a.eval o:=by
 have:({ a with defers:=d }:Act).eval=a.eval:=by funext x;cases x <;> rfl
 rw [this]
theorem apart_symm {x y:Oper} (h:x.apart ops y=true):y.apart ops x=true:=by
 obtain ⟨h1,h2,h3⟩:=Oper.apart_spec h
 simp only [Oper.apart,Bool.and_eq_true]
 refine ⟨?_,?_⟩
 ·cases hd:y.dst with
  | none=>rfl
  | some d=>
   simp only [Bool.and_eq_true,Bool.not_eq_true',bne_iff_ne,ne_eq]
   exact ⟨by simpa using h3 d hd,fun hc=>h2 d hc hd⟩
 ·cases hd:x.dst with
  | none=>rfl
  | some d=>simpa using h1 d hd
theorem stepC_swap {cls:Oper->Cls} {n0:Option Zone} {i j:Nat} {oi oj:Oper} (hi:ops[i]?=some oi) (hj:ops[j]?=some oj)
  (hap:oi.apart ops oj=true) (hcp:(cls oj).compat (cls oi)=true)
  (hsi:∀ cs b,oi.op≠.select cs b) (hsj:∀ cs b,oj.op≠.select cs b)
  {K:Act->World->Prop} {a:Act} {w:World} (h:stepC P ops cls n0 j (stepC P ops cls n0 i K) a w):stepC P ops cls n0 i (stepC P ops cls n0 j K) a w:=by
 obtain ⟨h1,h2,h3⟩:=Oper.apart_spec hap
 have wi:∀ (a:Act) u,Region.wanted oi (yielded ops (a.put oj.dst u).tmps)=Region.wanted oi (yielded ops a.tmps):=fun a u=>wanted_put oi a oj.dst u h3
 have wj:∀ (a:Act) u,Region.wanted oj (yielded ops (a.put oi.dst u).tmps)=Region.wanted oj (yielded ops a.tmps):=fun a u=>wanted_put oj a oi.dst u h1
 have ei:∀ (a:Act) u,execOp (a.put oj.dst u).eval oi=execOp a.eval oi:=fun a u=>execOp_put oi hsi a oj.dst u h3
 have ej:∀ (a:Act) u,execOp (a.put oi.dst u).eval oj=execOp a.eval oj:=fun a u=>execOp_put oj hsj a oi.dst u h1
 have cm:∀ (a:Act) (u v:Value),(a.put oi.dst u).put oj.dst v=(a.put oj.dst v).put oi.dst u:=fun a u v=>Act.put_comm a u v h2
 have di:∀ d:List Deferred,Region.wanted oi (yielded ops ({ a with defers:=d }:Act).tmps)=Region.wanted oi (yielded ops a.tmps):=fun _=>rfl
 have last:∀ (Y:World->Value->Act->Prop) (G:World->Prop) (K:Act->World->Prop),
   (∀ w' v d u,G w'->Y w' v (({ a with defers:=d }:Act).put oj.dst u)->Y w v a)->(∀ v v',Y w v a->Y w v' a->v=v') ->
   wpOp P ops noEnd j (fun a' w'=>G w'/\∃ v,Y w' v a'/\K (a'.put oi.dst v) w') a w->∃ v,Y w v a/\wpOp P ops noEnd j (fun a' w'=>G w'/\K a' w') (a.put oi.dst v) w:=by
  intro Y G K hb hu h
  obtain ⟨a',w',⟨v0,d0,rfl⟩,hg,u,hy,_⟩:=wpOp_some (wpOp_shape hj h)
  have hua:=hb w' u d0 v0 hg hy
  refine ⟨u,hua,wpOp_put_last hj hap hsj (wpOp_mono ?_ (wpOp_shape hj h))⟩
  rintro a' w' ⟨⟨v1,d1,rfl⟩,hg,u',hu',hK⟩
  have:=hu _ _ hua (hb w' u' d1 v1 hg hu')
  subst this
  exact ⟨hg,hK⟩
 have hap':=apart_symm hap
 unfold stepC at h ⊢
 simp only [hi,hj] at h ⊢
 cases ci:cls oi <;> cases cj:cls oj <;> simp only [ci,cj,Cls.compat,Bool.false_eq_true] at hcp h ⊢
 ·obtain ⟨v,hv,u,hu,h⟩:=h
  exact ⟨u,hu.of_same (ei a v).symm (wi a v).symm,v,hv.of_same (ej a u) (wj a u),by rw [cm];exact h⟩
 ·obtain ⟨v,hv,u,hu,h⟩:=h
  exact ⟨u,hu.of_same (ei a v).symm (wi a v).symm,v,hv.of_same (ej a u) (wj a u),by rw [cm];exact h⟩
 ·exact last (fun _ v a=>Yields P ops oi v a) (fun w'=>Agree n0 w w') K
   (fun w' v d u _ hy=>(hy.of_same (ei _ u).symm (wi _ u).symm).of_same (execOp_defers oi a d).symm rfl) (fun _ _=>yields_unique) h
 ·obtain ⟨u,hu,h⟩:=last (fun _ v a=>Yields P ops oi v a) (fun _=>True) K
   (fun w' v d u _ hy=>(hy.of_same (ei _ u).symm (wi _ u).symm).of_same (execOp_defers oi a d).symm rfl) (fun _ _=>yields_unique) (wpOp_mono (fun _ _ h=>⟨trivial,h⟩) h)
  exact ⟨u,hu,wpOp_mono (fun _ _ h=>h.2) h⟩
 ·obtain ⟨v,hv,u,hu,h⟩:=h
  exact ⟨u,hu.of_same (ei a v).symm (wi a v).symm,v,hv.of_same (ej a u) (wj a u),by rw [cm];exact h⟩
 ·obtain ⟨v,hv,u,hu,h⟩:=h
  exact ⟨u,hu.of_same (ei a v).symm (wi a v).symm,v,hv.of_same (ej a u) (wj a u),by rw [cm];exact h⟩
 ·exact last (fun w v a=>YieldsR P ops n0 w oi v a) (fun w'=>Agree n0 w w') K
   (fun w' v d u hg hy=>((hy.of_same (ei _ u).symm (wi _ u).symm).of_same (execOp_defers oi a d).symm rfl).agree hg.symm) (fun _ _=>yieldsR_unique) h
 ·obtain ⟨v,hv,h⟩:=h
  refine wpOp_mono ?_ (wpOp_put_first hi hap' hsi h)
  rintro a' w' ⟨⟨u,d,rfl⟩,hg,hK⟩
  exact ⟨hg,v,(hv.of_same (execOp_defers oj a d) rfl).of_same (ej _ u) (wj _ u),hK⟩
 ·obtain ⟨v,hv,h⟩:=h
  refine wpOp_mono ?_ (wpOp_put_first hi hap' hsi h)
  rintro a' w' ⟨⟨u,d,rfl⟩,hg,hK⟩
  exact ⟨hg,v,((hv.of_same (execOp_defers oj a d) rfl).of_same (ej _ u) (wj _ u)).agree hg,hK⟩
 ·obtain ⟨v,hv,h⟩:=h
  refine wpOp_mono ?_ (wpOp_put_first hi hap' hsi h)
  rintro a' w' ⟨⟨u,d,rfl⟩,hK⟩
  exact ⟨v,(hv.of_same (execOp_defers oj a d) rfl).of_same (ej _ u) (wj _ u),hK⟩
theorem runC_front {cls:Oper->Cls} {n0:Option Zone} {i:Nat} {oi:Oper} (hi:ops[i]?=some oi) (hsel:∀ (j:Nat) (o:Oper) cs b,ops[j]?=some o->o.op≠.select cs b)
  (r2:List Nat) (K:Act->World->Prop):∀ (r1:List Nat) (a:Act) (w:World),
   (∀ j∈r1,∃ oj,ops[j]?=some oj/\oi.apart ops oj=true/\(cls oj).compat (cls oi)=true) ->
   runC P ops cls n0 K (r1++i::r2) a w->stepC P ops cls n0 i (runC P ops cls n0 K (r1++r2)) a w:=by
 intro r1
 induction r1 with
 | nil=>intro a w _ h;exact h
 | cons j r1 ih=>
  intro a w hr h
  obtain ⟨oj,hj,hap,hcp⟩:=hr j (List.mem_cons_self ..)
  have h':stepC P ops cls n0 j (stepC P ops cls n0 i (runC P ops cls n0 K (r1++r2))) a w:=
   stepC_mono (fun a w h=>ih a w (fun k hk=>hr k (List.mem_cons_of_mem _ hk)) h) h
  exact stepC_swap hi hj hap hcp (fun cs b=>hsel i oi cs b hi) (fun cs b=>hsel j oj cs b hj) h'
def preds (o:Oper):List Nat:=(o.after.toList.filter (Region.binds .any)).map (·.on)
def maskOf (M:List Nat) (o:Oper):Nat:=(preds o).foldl (fun s e=>s ||| (2 ^ e ||| M.getD e 0)) 0
def orderOk (cls:Oper->Cls) (ops:Array Oper) (M:List Nat):Bool:=
 Region.noSelect ops &&
 (List.range ops.size).all fun i=>
  match ops[i]? with
  | none=>false
  | some oi=>
   (preds oi).all (fun e=>decide (e<i)) &&
   (M.getD i 0 ||| maskOf M oi == maskOf M oi) &&
   (List.range i).all fun j=>(M.getD i 0).testBit j || match ops[j]? with
    | none=>false
    | some oj=>oi.apart ops oj && (cls oj).compat (cls oi)
theorem foldl_mask (M:List Nat) (l:List Nat):∀ (s j:Nat),(l.foldl (fun s e=>s ||| (2 ^ e ||| M.getD e 0)) s).testBit j=true ->
  s.testBit j=true∨∃ e∈l,e=j∨(M.getD e 0).testBit j=true:=by
 induction l with
 | nil=>intro s j h;exact .inl h
 | cons e l ih=>
  intro s j h
  rcases ih _ j h with h | ⟨e',he,h⟩
  ·rw [Nat.testBit_or,Nat.testBit_or] at h
   simp only [Bool.or_eq_true] at h
   rcases h with h | h | h
   ·exact .inl h
   ·refine .inr ⟨e,List.mem_cons_self ..,.inl ?_⟩
    rw [Nat.testBit_two_pow] at h
    simpa using h
   ·exact .inr ⟨e,List.mem_cons_self ..,.inr h⟩
  ·exact .inr ⟨e',List.mem_cons_of_mem _ he,h⟩
structure OrderOk (cls:Oper->Cls) (ops:Array Oper) (M:List Nat):Prop where
 nosel:Region.noSelect ops=true
 back:∀ i oi,ops[i]?=some oi->∀ e∈preds oi,e<i
 mask:∀ i oi,ops[i]?=some oi->∀ j,(M.getD i 0).testBit j=true->∃ e∈preds oi,e=j∨(M.getD e 0).testBit j=true
 free:∀ i oi,ops[i]?=some oi->∀ j,j<i->(M.getD i 0).testBit j=true∨∃ oj,ops[j]?=some oj/\oi.apart ops oj=true/\(cls oj).compat (cls oi)=true
theorem orderOk_spec {cls:Oper->Cls} {M:List Nat} (h:orderOk cls ops M=true):OrderOk cls ops M:=by
 simp only [orderOk,Bool.and_eq_true,List.all_eq_true,List.mem_range] at h
 obtain ⟨hs,h⟩:=h
 have key:∀ i oi,ops[i]?=some oi->((∀ e∈preds oi,e<i)/\(M.getD i 0 ||| maskOf M oi)=maskOf M oi) /\
   ∀ j,j<i->(M.getD i 0).testBit j=true∨∃ oj,ops[j]?=some oj/\oi.apart ops oj=true/\(cls oj).compat (cls oi)=true:=by
  intro i oi hi
  have h1:=h i (Array.getElem?_eq_some_iff.1 hi).1
  simp only [hi,Bool.and_eq_true,List.all_eq_true,decide_eq_true_eq,beq_iff_eq,List.mem_range,Bool.or_eq_true] at h1
  refine ⟨h1.1,fun j hj=>?_⟩
  rcases h1.2 j hj with h2 | h2
  ·exact .inl h2
  ·refine .inr ?_
   cases hoj:ops[j]? with
   | none=>simp [hoj] at h2
   | some oj=>simp only [hoj,Bool.and_eq_true] at h2;exact ⟨oj,rfl,h2⟩
 refine ⟨hs,fun i oi hi=>(key i oi hi).1.1,fun i oi hi j hj=>?_,fun i oi hi=>(key i oi hi).2⟩
 have h2:(maskOf M oi).testBit j=true:=by
  rw [<- (key i oi hi).1.2,Nat.testBit_or,hj,Bool.true_or]
 rcases foldl_mask M (preds oi) 0 j h2 with h3 | h3
 ·simp at h3
 ·exact h3
theorem mem_preds {o:Oper} {e:Nat}:e∈preds o↔∃ x∈o.after,Region.binds .any x=true/\x.on=e:=by
 unfold preds
 simp only [List.mem_map,List.mem_filter,Array.mem_toList_iff]
 constructor
 ·rintro ⟨x,⟨h1,h2⟩,h3⟩;exact ⟨x,h1,h2,h3⟩
 ·rintro ⟨x,h1,h2,h3⟩;exact ⟨x,⟨h1,h2⟩,h3⟩
def Closed (ops:Array Oper) (listed:Array Bool):Prop:=
 listed.size=ops.size/\∀ i oi,ops[i]?=some oi->listed.getD i false=true->∀ e∈preds oi,listed.getD e false=true
theorem closed_mask {cls:Oper->Cls} {M:List Nat} (ok:OrderOk cls ops M) {listed:Array Bool} (hc:Closed ops listed) :
  ∀ i,listed.getD i false=true->∀ j,(M.getD i 0).testBit j=true->(∃ oi,ops[i]?=some oi)->listed.getD j false=true:=by
 intro i
 induction i using Nat.strongRecOn with
 | _ i ih=>
  rintro hl j hj ⟨oi,hi⟩
  obtain ⟨e,he,h⟩:=ok.mask i oi hi j hj
  have hle:=hc.2 i oi hi hl e he
  rcases h with rfl | h
  ·exact hle
  ·have hei:=ok.back i oi hi e he
   have hlt:e<ops.size:=Nat.lt_trans hei (Array.getElem?_eq_some_iff.1 hi).1
   exact ih e hei hle j h ⟨_,Array.getElem?_eq_getElem hlt⟩
def rest (listed:Array Bool) (n:Nat):List Nat:=(List.range n).filter fun i=>!listed.getD i true
theorem rest_split {listed:Array Bool} {n i:Nat} (hn:listed.size=n) (hi:i<n) (hl:listed.getD i true=false) :
  ∃ r1 r2,rest listed n=r1++i::r2/\rest (listed.setIfInBounds i true) n=r1++r2/\∀ j∈r1,j<i/\listed.getD j true=false:=by
 have hsp:List.range n=List.range i++i::(List.range (n-i-1)).map (fun k=>i+1+k):=by
  have h1:n=i+(1+(n-i-1)):=by omega
  conv=>lhs;rw [h1]
  rw [List.range_add,List.range_add]
  simp [List.map_map,Function.comp_def,Nat.add_assoc]
 have hother:∀ j,j≠i->(listed.setIfInBounds i true).getD j true=listed.getD j true:=fun j hj=>getD_set_ne true (Ne.symm hj)
 have hself:(listed.setIfInBounds i true).getD i true=true:=by
  have hlt:i<listed.size:=by omega
  simp [Array.getD_eq_getD_getElem?,hlt]
 refine ⟨(List.range i).filter (fun j=>!listed.getD j true),((List.range (n-i-1)).map (fun k=>i+1+k)).filter (fun j=>!listed.getD j true),?_,?_,?_⟩
 ·unfold rest
  rw [hsp,List.filter_append,List.filter_cons,if_pos (by simp [hl])]
 ·unfold rest
  rw [hsp,List.filter_append,List.filter_cons,if_neg (by rw [hself];simp)]
  congr 1
  ·exact List.filter_congr fun j hj=>by rw [hother j (by have:=List.mem_range.1 hj;omega)]
  ·refine List.filter_congr fun j hj=>?_
   obtain ⟨k,_,rfl⟩:=List.mem_map.1 hj
   rw [hother _ (by omega)]
 ·intro j hj
  rw [List.mem_filter,List.mem_range] at hj
  exact ⟨hj.1,by simpa using hj.2⟩
theorem getD_tf {listed:Array Bool} {i:Nat} (hi:i<listed.size):listed.getD i true=listed.getD i false:=by
 simp [Array.getD_eq_getD_getElem?,hi]
theorem wpAny_text {cls:Oper->Cls} {n0:Option Zone} {M:List Nat} (ok:OrderOk cls ops M) {Q:Exit->Act->World->Prop} {K:Act->World->Prop} (hK:∀ a w,K a w->Q .normal a w) :
  ∀ (fuel:Nat) (listed:Array Bool) (a:Act) (w:World),(rest listed ops.size).length=fuel->Closed ops listed ->
   runC P ops cls n0 K (rest listed ops.size) a w->wpAny P .any ops Q fuel listed a w:=by
 intro fuel
 induction fuel with
 | zero=>
  intro listed a w hf hc h
  have h0:rest listed ops.size=[]:=List.eq_nil_of_length_eq_zero hf
  rw [h0] at h
  refine ⟨List.eq_nil_iff_forall_not_mem.2 fun i hi=>?_,hK _ _ h⟩
  obtain ⟨hl,o,ho,_⟩:=mem_ready.1 hi
  have hlt:=(Array.getElem?_eq_some_iff.1 ho).1
  obtain ⟨r1,r2,hr,_⟩:=rest_split hc.1 hlt hl
  rw [h0] at hr
  simp at hr
 | succ fuel ih=>
  intro listed a w hf hc h
  constructor
  ·intro hr
   exfalso
   cases hrs:rest listed ops.size with
   | nil=>rw [hrs] at hf;simp at hf
   | cons i r2=>
    have hmem:i∈rest listed ops.size:=by rw [hrs];exact List.mem_cons_self ..
    unfold rest at hmem
    rw [List.mem_filter,List.mem_range] at hmem
    have hl:listed.getD i true=false:=by simpa using hmem.2
    obtain ⟨r1,r2',hs,_,hlt⟩:=rest_split hc.1 hmem.1 hl
    have hr1:r1=[]:=by
     cases r1 with
     | nil=>rfl
     | cons j r1=>
      have:=hlt j (List.mem_cons_self ..)
      rw [hrs] at hs
      simp only [List.cons_append,List.cons.injEq] at hs
      omega
    have:i∈Region.ready .any ops listed:=by
     refine mem_ready.2 ⟨hl,_,Array.getElem?_eq_getElem hmem.1,fun e he hb=>?_⟩
     have hei:=ok.back i _ (Array.getElem?_eq_getElem hmem.1) e.on (mem_preds.2 ⟨e,he,hb,rfl⟩)
     have hesz:e.on<listed.size:=by rw [hc.1];omega
     cases hle:listed.getD e.on false with
     | true=>rfl
     | false=>
      exfalso
      have hin:e.on∈rest listed ops.size:=by
       unfold rest
       rw [List.mem_filter,List.mem_range]
       exact ⟨by omega,by rw [getD_tf hesz,hle];rfl⟩
      rw [hs,hr1] at hin
      simp only [List.nil_append,List.mem_cons] at hin
      rcases hin with hin | hin
      ·omega
      ·
       have hsorted:(rest listed ops.size).Pairwise (·<·):=List.Pairwise.filter _ (List.pairwise_lt_range (n:=ops.size))
       rw [hs,hr1,List.nil_append,List.pairwise_cons] at hsorted
       have:=hsorted.1 _ hin
       omega
    rw [hr] at this
    cases this
  ·intro i hi
   obtain ⟨hl,oi,hoi,hall⟩:=mem_ready.1 hi
   have hlt:=(Array.getElem?_eq_some_iff.1 hoi).1
   obtain ⟨r1,r2,hs,hs',hr1⟩:=rest_split hc.1 hlt hl
   have hclosed:Closed ops (listed.setIfInBounds i true):=by
    refine ⟨by simp [hc.1],fun k ok' hk hlk e he=>?_⟩
    by_cases hki:k=i
    ·subst hki
     have:ok'=oi:=Option.some.inj (hk.symm.trans hoi)
     subst this
     obtain ⟨x,hx,hb,rfl⟩:=mem_preds.1 he
     exact getD_set_true (hall x hx hb)
    ·rw [getD_set_ne false (Ne.symm hki)] at hlk
     exact getD_set_true (hc.2 k ok' hk hlk e he)
   rw [hs] at h
   have hfr:=runC_front hoi (Region.noSelect_spec ok.nosel) r2 K r1 a w (fun j hj=>by
    obtain ⟨hji,hjl⟩:=hr1 j hj
    rcases ok.free i oi hoi j hji with hm | hm
    ·exfalso
     obtain ⟨e,he,h⟩:=ok.mask i oi hoi j hm
     obtain ⟨x,hx,hb,rfl⟩:=mem_preds.1 he
     have hle:=hall x hx hb
     have hjsz:j<listed.size:=by rw [hc.1];omega
     rw [getD_tf hjsz] at hjl
     rcases h with h | h
     ·rw [h,hjl] at hle;cases hle
     ·have hei:=ok.back i oi hoi x.on he
      have h2:=closed_mask ok hc x.on hle j h ⟨_,Array.getElem?_eq_getElem (Nat.lt_trans hei hlt)⟩
      rw [hjl] at h2;cases h2
    ·exact hm) h
   refine wpOp_of_stepC (stepC_mono (fun a' w' h'=>ih _ a' w' ?_ hclosed (by rw [hs'];exact h')) hfr)
   rw [hs'] ;rw [hs] at hf
   simp at hf ⊢
   omega
theorem wp_region_text {cls:Oper->Cls} {n0:Option Zone} {M:List Nat} (hm:P.follows .mixedOrders=true) (hok:orderOk cls ops M=true) {id:Nat} {Q:Exit->Act->World->Prop} {K:Act->World->Prop}
  (hK:∀ a w,K a w->Q .normal a w) {a:Act} {w:World} (h:runC P ops cls n0 K (List.range ops.size) a { w with drawn:=w.drawn+1 }):(Code.region id ops true).wp P Q a w:=by
 have hr:rest (Array.replicate ops.size false) ops.size=List.range ops.size:=by
  unfold rest
  rw [List.filter_eq_self]
  intro i hi
  have:=List.mem_range.1 hi
  simp [this]
 refine wp_region_any hm (wpAny_text (orderOk_spec hok) hK ops.size _ a _ (by rw [hr];simp) ⟨by simp,fun i oi hi hl=>?_⟩ (by rw [hr];exact h))
 have hlt:=(Array.getElem?_eq_some_iff.1 hi).1
 simp [hlt] at hl
theorem wpOps_of_runC {cls:Oper->Cls} {n0:Option Zone} {Q:Exit->Act->World->Prop} {K:Act->World->Prop} (hK:∀ a w,K a w->Q .normal a w) :
  ∀ (l:List Nat) (a:Act) (w:World),runC P ops cls n0 K l a w->wpOps P ops Q l a w:=by
 intro l
 induction l with
 | nil=>intro a w h;exact hK _ _ h
 | cons i l ih=>
  intro a w h
  rw [wpOps_cons]
  exact wpOp_of_stepC (stepC_mono ih h)
theorem wp_region_plain {cls:Oper->Cls} {n0:Option Zone} {id:Nat} {Q:Exit->Act->World->Prop} {K:Act->World->Prop}
  (hK:∀ a w,K a w->Q .normal a w) {a:Act} {w:World} (h:runC P ops cls n0 K (List.range ops.size) a w):(Code.region id ops false).wp P Q a w:=
 wp_region (wpOps_of_runC hK _ _ _ h)
end
end Go.Hx
namespace Go.Hx
def cellH (h:Heap) (a:Addr):Option Value:=
 match h[a.block]? with
 | some (.cells c _ _)=>if a.spot.isSome then none else c[a.off]?
 | _=>none
theorem cell_eq (w:World) (a:Addr):w.cell? a=cellH w.heap a:=rfl
structure Dr (w w':World):Prop where
 sz:w.heap.size≤w'.heap.size
 dr:w.drawn≤w'.drawn∨w.heap.size<w'.heap.size
structure Same (w w':World):Prop where
 tape:w'.tape=w.tape
 os:w'.os=w.os
 output:w'.output=w.output
 drawn:Dr w w'
theorem Same.refl (w:World):Same w w:=⟨rfl,rfl,rfl,⟨by simp,.inl (Nat.le_refl _)⟩⟩
theorem Same.trans {a b c:World} (h:Same a b) (k:Same b c):Same a c:=
 ⟨k.tape.trans h.tape,k.os.trans h.os,k.output.trans h.output,⟨Nat.le_trans h.drawn.sz k.drawn.sz,by have h1:=h.drawn.dr;have h2:=k.drawn.dr;have h3:=h.drawn.sz;have h4:=k.drawn.sz;omega⟩⟩
def CallsH (P:Program) (f:FuncId) (args:Array Value) (h:Heap) (R:Value->Heap->Prop):Prop:=
 ∀ w:World,w.heap=h->Calls P f args w fun e w'=>∃ v,e=.returned v/\Same w w'/\R v w'.heap
theorem CallsH.mono {P:Program} {f:FuncId} {args:Array Value} {h:Heap} {R R':Value->Heap->Prop}
  (hc:CallsH P f args h R) (hr:∀ v h',R v h'->R' v h'):CallsH P f args h R':=
 fun w hw=>(hc w hw).mono fun _ _ ⟨v,he,hs,h⟩=>⟨v,he,hs,hr _ _ h⟩
def EffH (P:Program) (e:Sem Next) (h:Heap) (K:Value->Heap->Prop):Prop:=
 ∀ w:World,w.heap=h->match e.run P w with
  | .ok (.value v) w'=>Same w w'/\K v w'.heap
  | .ok .skip w'=>Same w w'/\K undef w'.heap
  | .ok (.enter f args) w'=>Same w w'/\CallsH P f args w'.heap K
  | _=>False
def SemH (P:Program) {α:Type} (e:Sem α) (h:Heap) (K:α->Heap->Prop):Prop:=
 ∀ w:World,w.heap=h->∃ v w',e.run P w=.ok v w'/\Same w w'/\K v w'.heap
section
variable {P:Program} {α β:Type} {h:Heap}
theorem SemH.ret {v:α} {K:α->Heap->Prop} (hk:K v h):SemH P (Pure.pure v:Sem α) h K:=
 fun w hw=>⟨v,w,rfl,.refl _,hw▸hk⟩
theorem SemH.bind {e:Sem α} {f:α->Sem β} {K:β->Heap->Prop} (hk:SemH P e h fun v h'=>SemH P (f v) h' K):SemH P (e >>= f) h K:=by
 intro w hw
 obtain ⟨v,w1,h1,s1,k1⟩:=hk w hw
 obtain ⟨u,w2,h2,s2,k2⟩:=k1 w1 rfl
 exact ⟨u,w2,by rw [Sem.run_bind,h1];exact h2,s1.trans s2,k2⟩
theorem SemH.mono {e:Sem α} {K K':α->Heap->Prop} (hk:SemH P e h K) (hr:∀ v h',K v h'->K' v h'):SemH P e h K':=
 fun w hw=>let ⟨v,w',h1,s,k⟩:=hk w hw;⟨v,w',h1,s,hr _ _ k⟩
def PureS (P:Program) (e:Sem α) (v:α):Prop:=∀ w,e.run P w=.ok v w
theorem PureS.ret (v:α):PureS P (Pure.pure v:Sem α) v:=fun _=>rfl
theorem PureS.bind {e:Sem α} {f:α->Sem β} {v:α} {u:β} (h1:PureS P e v) (h2:PureS P (f v) u):PureS P (e >>= f) u:=
 fun w=>by rw [Sem.run_bind,h1 w];exact h2 w
theorem PureS.semH {e:Sem α} {v:α} (h1:PureS P e v) {K:α->Heap->Prop} (hk:K v h):SemH P e h K:=
 fun w hw=>⟨v,w,h1 w,.refl _,hw▸hk⟩
theorem PureS.underlying {t:TypeId} {d:TypeDesc} (ht:P.underlying t=some d):PureS P (underlying t) d:=fun w=>run_underlying ht w
theorem PureS.typeInfo {t:TypeId} {i:TypeInfo} (ht:P.info? t=some i):PureS P (typeInfo t) i:=fun w=>by
 unfold Go.typeInfo
 simp [ht]
theorem PureS.sizeOf {t:TypeId} {i:TypeInfo} (ht:P.info? t=some i):PureS P (sizeOf t) i.size:=fun w=>by
 unfold Go.sizeOf
 simp [(PureS.typeInfo ht) w]
theorem PureS.zeroValue {t:TypeId} {i:TypeInfo} {z:Value} (ht:P.info? t=some i) (hz:i.zero=some z):PureS P (zeroValue t) z:=fun w=>by
 unfold Go.zeroValue
 simp [(PureS.typeInfo ht) w,hz]
end
theorem EffH.of_sem {P:Program} {e:Sem Value} {h:Heap} {K:Value->Heap->Prop} (hk:SemH P e h K):EffH P (do pure (.value (<- e))) h K:=by
 intro w hw
 obtain ⟨v,w',h1,s,k⟩:=hk w hw
 simp [h1]
 exact ⟨s,k⟩
theorem EffH.of_unit {P:Program} {e:Sem Unit} {h:Heap} {K:Value->Heap->Prop} (hk:SemH P e h fun _ h'=>K undef h'):EffH P (do e;pure .skip) h K:=by
 intro w hw
 obtain ⟨v,w',h1,s,k⟩:=hk w hw
 simp [h1]
 exact ⟨s,k⟩
theorem EffH.mono {P:Program} {e:Sem Next} {h:Heap} {K K':Value->Heap->Prop} (hk:EffH P e h K) (hr:∀ v h',K v h'->K' v h'):EffH P e h K':=by
 intro w hw
 have h1:=hk w hw
 generalize e.run P w=r at *
 cases r with
 | ok n w'=>
  cases n <;> simp only at h1 ⊢
  case value v=>exact ⟨h1.1,hr _ _ h1.2⟩
  case skip=>exact ⟨h1.1,hr _ _ h1.2⟩
  case enter f args=>exact ⟨h1.1,h1.2.mono hr⟩
 | halt x w'=>exact h1
abbrev SF:=List (Nat×Value)
def SF.at:SF->Nat->Option Value
 | [],_=>none
 | (n,v)::r,t=>match n == t with
  | true=>some v
  | false=>SF.at r t
def SF.put (s:SF) (dst:Option Tmp) (v:Value):SF:=
 match dst with
 | some d=>(d,v)::s
 | none=>s
def SF.ev (s:SF):Operand->Option Value
 | .tmp t=>s.at t
 | .const v=>some v
 | .global g=>some (.pointer (some ⟨g,0,none⟩))
 | .func f=>some (.func (.func f) #[] #[])
structure Knows (N:Nat) (a:Act) (s:SF):Prop where
 size:a.tmps.size=N
 defers:a.defers=[]
 at_:∀ t v,s.at t=some v->a.tmps[t]?=some v
theorem Knows.ev {N:Nat} {a:Act} {s:SF} (hk:Knows N a s) {x:Operand} {v:Value} (h:s.ev x=some v):a.eval x=v:=by
 cases x with
 | tmp t=>
  have:=hk.at_ t v h
  simp [Act.eval,this]
 | const u=>simpa [SF.ev,Act.eval] using h
 | global g=>simpa [SF.ev,Act.eval] using h
 | func f=>simpa [SF.ev,Act.eval] using h
theorem Knows.put {N:Nat} {a:Act} {s:SF} (hk:Knows N a s) {dst:Option Tmp} (hd:∀ d,dst=some d->d<N) (v:Value):Knows N (a.put dst v) (s.put dst v):=by
 cases dst with
 | none=>exact hk
 | some d=>
  have hlt:d<a.tmps.size:=by rw [hk.size];exact hd d rfl
  refine ⟨by simp [Act.put,hk.size],hk.defers,fun t u h=>?_⟩
  simp only [SF.put,SF.at] at h
  cases hdt:d == t with
  | true=>
   simp only [hdt] at h
   obtain rfl:=Option.some.inj h
   obtain rfl:d=t:=by simpa using hdt
   simp [Act.put,hlt]
  | false=>
   simp only [hdt] at h
   have hne:d≠t:=by simpa using hdt
   simp only [Act.put]
   rw [Array.getElem?_setIfInBounds_ne hne]
   exact hk.at_ t u h
def get (s:SF) (x:Operand) (K:Value->Prop):Prop:=match s.ev x with | some v=>K v | none=>False
def getI (k:IntKind) (s:SF) (x:Operand) (K:Int->Prop):Prop:=
 match s.ev x with | some (.int k' n)=>(match k' == k with | true=>K n | false=>False) | _=>False
def getZ (s:SF) (x:Operand) (K:Int->Prop):Prop:=match s.ev x with | some (.int _ n)=>K n | _=>False
def getB (s:SF) (x:Operand) (K:Bool->Prop):Prop:=match s.ev x with | some (.bool n)=>K n | _=>False
def getS (s:SF) (x:Operand) (K:ByteArray->Prop):Prop:=match s.ev x with | some (.string n)=>K n | _=>False
def getSl (s:SF) (x:Operand) (K:Option Addr->Nat->Nat->Prop):Prop:=match s.ev x with | some (.slice a n c)=>K a n c | _=>False
def getP (s:SF) (x:Operand) (K:Option Addr->Prop):Prop:=match s.ev x with | some (.pointer a)=>K a | _=>False
def getM (s:SF) (x:Operand) (K:Option Nat->Prop):Prop:=match s.ev x with | some (.map a)=>K a | _=>False
def getA (s:SF) (x:Operand) (K:Array Value->Prop):Prop:=match s.ev x with | some (.agg a)=>K a | _=>False
def getT (s:SF) (x:Operand) (K:Array Value->Prop):Prop:=match s.ev x with | some (.tuple a)=>K a | _=>False
def getAll (s:SF) (xs:List Operand) (K:List Value->Prop):Prop:=
 match xs with
 | []=>K []
 | x::r=>get s x fun v=>getAll s r fun vs=>K (v::vs)
def AtP (p:Option Addr) (K:Addr->Prop):Prop:=match p with | some a=>K a | none=>False
theorem AtP.mk {p:Option Addr} {K:Addr->Prop} {a:Addr} (h:p=some a) (hk:K a):AtP p K:=by subst h;exact hk
def BIf (b:Bool) (A B:Prop):Prop:=match b with | true=>A | false=>B
theorem BIf.mk {b:Bool} {A B:Prop} (h1:b=true->A) (h2:b=false->B):BIf b A B:=by cases b;exact h2 rfl;exact h1 rfl
abbrev PIf (p:Prop) (A B:Prop):Prop:=(p->A)/\(¬ p->B)
inductive Shp where
 | int (k:IntKind) | bool | str | slice | ptr | map | any
def ExV (s:Shp) (K:Value->Prop):Prop:=
 match s with
 | .int k=>∃ n:Int,K (.int k n)
 | .bool=>∃ b:Bool,K (.bool b)
 | .str=>∃ b:ByteArray,K (.string b)
 | .slice=>∃ (a:Option Addr) (n c:Nat),K (.slice a n c)
 | .ptr=>∃ a:Option Addr,K (.pointer a)
 | .map=>∃ a:Option Nat,K (.map a)
 | .any=>∃ v:Value,K v
theorem ExV.out {s:Shp} {K:Value->Prop} (h:ExV s K):∃ v,K v:=by
 cases s <;> simp only [ExV] at h
 case slice=>obtain ⟨a,n,c,h⟩:=h;exact ⟨_,h⟩
 all_goals (obtain ⟨n,h⟩:=h;exact ⟨_,h⟩)
def ExVs (l:List Shp) (K:List Value->Prop):Prop:=
 match l with
 | []=>K []
 | s::r=>ExV s fun v=>ExVs r fun vs=>K (v::vs)
theorem ExVs.out {l:List Shp}:∀ {K:List Value->Prop},ExVs l K->∃ v,K v:=by
 induction l with
 | nil=>intro K h;exact ⟨_,h⟩
 | cons s r ih=>intro K h;obtain ⟨v,h⟩:=ExV.out (show ExV s _ from h);obtain ⟨vs,h⟩:=ih h;exact ⟨_,h⟩
inductive TShp where
 | one (s:Shp) | agg (l:List Shp)
def ExT (s:TShp) (K:Value->Prop):Prop:=
 match s with
 | .one s=>ExV s K
 | .agg l=>ExVs l fun vs=>K (.agg vs.toArray)
theorem ExT.out {s:TShp} {K:Value->Prop} (h:ExT s K):∃ v,K v:=by
 cases s with
 | one s=>exact ExV.out h
 | agg l=>obtain ⟨vs,h⟩:=ExVs.out h;exact ⟨_,h⟩
def ExTs (l:List TShp) (K:List Value->Prop):Prop:=
 match l with
 | []=>K []
 | s::r=>ExT s fun v=>ExTs r fun vs=>K (v::vs)
theorem ExTs.out {l:List TShp}:∀ {K:List Value->Prop},ExTs l K->∃ v,K v:=by
 induction l with
 | nil=>intro K h;exact ⟨_,h⟩
 | cons s r ih=>intro K h;obtain ⟨v,h⟩:=ExT.out (show ExT s _ from h);obtain ⟨vs,h⟩:=ih h;exact ⟨_,h⟩
inductive RShp where
 | val (s:TShp) | tup (l:List TShp)
def ExR (s:RShp) (K:Value->Prop):Prop:=
 match s with
 | .val s=>ExT s K
 | .tup l=>ExTs l fun vs=>K (.tuple vs.toArray)
theorem ExR.out {s:RShp} {K:Value->Prop} (h:ExR s K):∃ v,K v:=by
 cases s with
 | val s=>exact ExT.out h
 | tup l=>obtain ⟨vs,h⟩:=ExTs.out h;exact ⟨_,h⟩
def shpOf:Value->Shp
 | .int k _=>.int k
 | .bool _=>.bool
 | .string _=>.str
 | .slice _ _ _=>.slice
 | .pointer _=>.ptr
 | .map _=>.map
 | _=>.any
def tshpOf:Value->TShp
 | .agg l=>.agg (l.toList.map shpOf)
 | v=>.one (shpOf v)
def rshpOf:Value->RShp
 | .tuple l=>.tup (l.toList.map tshpOf)
 | v=>.val (tshpOf v)
abbrev Shp.den:Shp->Type
 | .int _=>Int
 | .bool=>Bool
 | .str=>ByteArray
 | .slice=>Option Addr×Nat×Nat
 | .ptr=>Option Addr
 | .map=>Option Nat
 | .any=>Value
def Shp.val:(s:Shp)->s.den->Value
 | .int k,n=>.int k n
 | .bool,b=>.bool b
 | .str,b=>.string b
 | .slice,x=>.slice x.1 x.2.1 x.2.2
 | .ptr,a=>.pointer a
 | .map,a=>.map a
 | .any,v=>v
def Shp.get:(s:Shp)->Value->Option s.den
 | .int k,.int k' n=>match k' == k with | true=>some n | false=>none
 | .bool,.bool b=>some b
 | .str,.string b=>some b
 | .slice,.slice a n c=>some (a,n,c)
 | .ptr,.pointer a=>some a
 | .map,.map a=>some a
 | .any,v=>some v
 | _,_=>none
theorem Shp.get_val {s:Shp} {v:Value} {x:s.den} (h:s.get v=some x):s.val x=v:=by
 cases s <;> cases v <;> simp [Shp.get] at h <;> (try subst h) <;> (try rfl)
 rename_i k k' n
 cases hk:k' == k with
 | false=>simp [hk] at h
 | true=>
  simp only [hk,Option.some.injEq] at h
  obtain rfl:k'=k:=by simpa using hk
  subst h
  rfl
abbrev Den:List Shp->Type
 | []=>Unit
 | [s]=>s.den
 | s::t::r=>s.den×Den (t::r)
def vals:(l:List Shp)->Den l->List Value
 | [],_=>[]
 | [s],x=>[s.val x]
 | s::t::r,x=>s.val x.1::vals (t::r) x.2
def gets:(l:List Shp)->List Value->Option (Den l)
 | [],[]=>some ()
 | [s],[v]=>s.get v
 | s::t::r,v::vs=>match s.get v,gets (t::r) vs with
  | some x,some y=>some (x,y)
  | _,_=>none
 | _,_=>none
theorem gets_vals:∀ {l:List Shp} {vs:List Value} {x:Den l},gets l vs=some x->vals l x=vs
 | [],[],_,_=>rfl
 | [s],[v],x,h=>by
  have:=Shp.get_val (s:=s) (v:=v) (x:=x) h
  simp [vals,this]
 | s::t::r,v::vs,x,h=>by
  simp only [gets] at h
  cases h1:s.get v with
  | none=>simp [h1] at h
  | some y=>
   cases h2:gets (t::r) vs with
   | none=>simp [h1,h2] at h
   | some z=>
    simp only [h1,h2,Option.some.injEq] at h
    subst h
    simp only [vals]
    rw [Shp.get_val h1,gets_vals h2]
 | [],_::_,_,h=>by simp [gets] at h
 | [_],[],_,h=>by simp [gets] at h
 | [_],_::_::_,_,h=>by simp [gets] at h
 | _::_::_,[],_,h=>by simp [gets] at h
end Go.Hx
set_option linter.unusedVariables false
set_option linter.unusedSimpArgs false
namespace Go.Hx
inductive FCls where
 | pure | read | flt | chn | eff
 deriving DecidableEq
def FCls.ahead:FCls->FCls->Bool
 | .pure,_=>true
 | .read,.eff=>false
 | .read,_=>true
 | .flt,.pure=>true
 | .flt,.read=>true
 | .flt,.flt=>true
 | .chn,.pure=>true
 | .chn,.read=>true
 | .chn,.flt=>true
 | .eff,.pure=>true
 | _,_=>false
structure GrowH (U:Nat->Prop) (h:Heap) (U':Nat->Prop) (h':Heap):Prop where
 size:h.size≤h'.size
 old:∀ b,b<h.size->h'[b]?=h[b]?
 sub:∀ b,U b->U' b
 sup:∀ b,U' b->U b∨(h.size≤b/\b<h'.size)
structure KeepsZ (z:Zone) (U:Nat->Prop) (h h':Heap):Prop where
 size:h.size≤h'.size
 old:z.r h h'
 free:∀ b,U b->h'[b]?=h[b]?
abbrev Keeps (n:Nat) (U:Nat->Prop) (h h':Heap):Prop:=KeepsZ (.old n) U h h'
def Zone.Le (n:Nat) (z:Zone):Prop:=∀ h h',(∀ b,b<n->h'[b]?=h[b]?)->z.r h h'
theorem Zone.Le.old (n:Nat):Zone.Le n (.old n):=fun h h' u=>u
structure FZ where
 n:Nat
 z:Zone
 le:Zone.Le n z
def minus (U:Nat->Prop) (b:Nat):Nat->Prop:=fun i=>U i/\i≠b
def plus (U:Nat->Prop) (b:Nat):Nat->Prop:=fun i=>U i∨i=b
def none':Nat->Prop:=fun _=>False
theorem GrowH.refl (U:Nat->Prop) (h:Heap):GrowH U h U h:=⟨Nat.le_refl _,fun _ _=>rfl,fun _ h=>h,fun _ h=>.inl h⟩
theorem GrowH.trans {U V X:Nat->Prop} {a b c:Heap} (h:GrowH U a V b) (k:GrowH V b X c):GrowH U a X c:=
 ⟨Nat.le_trans h.size k.size,fun i hi=>(k.old i (Nat.lt_of_lt_of_le hi h.size)).trans (h.old i hi),fun i hi=>k.sub i (h.sub i hi),fun i hi=>by
  rcases k.sup i hi with h1 | h1
  ·rcases h.sup i h1 with h2 | h2
   ·exact .inl h2
   ·have:=k.size;exact .inr ⟨h2.1,by omega⟩
  ·have:=h.size;exact .inr ⟨by omega,h1.2⟩⟩
structure Grow (U:Nat->Prop) (w:World) (U':Nat->Prop) (w':World):Prop where
 same:Same w w'
 grow:GrowH U w.heap U' w'.heap
theorem Grow.refl (U:Nat->Prop) (w:World):Grow U w U w:=⟨.refl _,.refl _ _⟩
theorem Grow.trans {U V X:Nat->Prop} {a b c:World} (h:Grow U a V b) (k:Grow V b X c):Grow U a X c:=⟨h.same.trans k.same,h.grow.trans k.grow⟩
section
variable {P:Program} {ops:Array Oper}
def Pushes (P:Program) (ops:Array Oper) (o:Oper) (obj:Obj) (val:Nat->Value) (a:Act):Prop:=
 Region.wanted o (yielded ops a.tmps)=true/\∀ w',∃ w'',(execOp a.eval o).run P w'=.ok (.value (val w'.heap.size)) w''/\Same w' w''/\w''.heap=w'.heap.push obj
theorem Pushes.of_same {o:Oper} {obj:Obj} {val:Nat->Value} {a a':Act} (hy:Pushes P ops o obj val a) (he:execOp a'.eval o=execOp a.eval o)
  (hw:Region.wanted o (yielded ops a'.tmps)=Region.wanted o (yielded ops a.tmps)):Pushes P ops o obj val a':=by
 unfold Pushes at *
 rw [he,hw]
 exact hy
theorem Pushes.unique {o:Oper} {obj obj':Obj} {val val':Nat->Value} {a:Act} (h:Pushes P ops o obj val a) (h':Pushes P ops o obj' val' a):obj=obj'/\val=val':=by
 have key:∀ w':World,val w'.heap.size=val' w'.heap.size/\obj=obj':=by
  intro w'
  obtain ⟨w1,h1,_,h3⟩:=h.2 w'
  obtain ⟨w2,k1,_,k3⟩:=h'.2 w'
  rw [h1] at k1
  injection k1 with e1 e2
  injection e1 with e1
  subst e2
  rw [h3] at k3
  have:=congrArg (fun x:Heap=>x[w'.heap.size]?) k3
  simp at this
  exact ⟨e1,this⟩
 refine ⟨(key default).2,funext fun n=>?_⟩
 have:=(key { (default:World) with heap:=Array.replicate n default }).1
 simpa using this
theorem Pushes.wpOp {i:Nat} {o:Oper} {obj:Obj} {val:Nat->Value} {a:Act} {w:World} (hi:ops[i]?=some o) (hp:Pushes P ops o obj val a) {K:Act->World->Prop}
  (hK:∀ w',Same w w'->w'.heap=w.heap.push obj->K (a.put o.dst (val w.heap.size)) w') {Q:Exit->Act->World->Prop}:Go.wpOp P ops Q i K a w:=by
 obtain ⟨hw,hr⟩:=hp
 obtain ⟨w'',h1,h2,h3⟩:=hr w
 unfold Go.wpOp
 simp only [hi,hw,if_true]
 refine .inl ?_
 unfold Oper.wp
 rw [h1]
 exact hK w'' h2 h3
def stepF (P:Program) (ops:Array Oper) (cls:Oper->FCls) (n:FZ) (i:Nat) (K:Act->World->(Nat->Prop)->Prop) (a:Act) (w:World) (U:Nat->Prop):Prop:=
 n.n≤w.heap.size/\match ops[i]? with
 | none=>False
 | some o=>
  match cls o with
  | .pure=>∃ v,Yields P ops o v a/\K (a.put o.dst v) w U
  | .read=>∃ v,YieldsR P ops (some n.z) w o v a/\K (a.put o.dst v) w U
  | .flt=>∃ obj val,Pushes P ops o obj val a/\∀ w' U' b,Grow U w U' w'->U' b->w'.heap[b]?=some obj->K (a.put o.dst (val b)) w' (minus U' b)
  | .chn=>∀ w' U',Grow U w U' w'->wpOp P ops noEnd i (fun a' w''=>Same w' w''/\KeepsZ n.z U' w'.heap w''.heap/\K a' w'' U') a w'
  | .eff=>∀ w' U',Grow U w U' w'->wpOp P ops noEnd i (fun a' w''=>w'.heap.size≤w''.heap.size/\K a' w'' none') a w'
def runF (P:Program) (ops:Array Oper) (cls:Oper->FCls) (n:FZ) (K:Act->World->(Nat->Prop)->Prop):List Nat->Act->World->(Nat->Prop)->Prop
 | []=>K
 | i::l=>stepF P ops cls n i (runF P ops cls n K l)
theorem stepF_mono {cls:Oper->FCls} {n:FZ} {i:Nat} {K K':Act->World->(Nat->Prop)->Prop} (hk:∀ a w U,K a w U->K' a w U) {a:Act} {w:World} {U:Nat->Prop} (h:stepF P ops cls n i K a w U):stepF P ops cls n i K' a w U:=by
 unfold stepF at *
 refine ⟨h.1,?_⟩
 replace h:=h.2
 cases ho:ops[i]? with
 | none=>simp [ho] at h
 | some o=>
  simp only [ho] at h ⊢
  cases hc:cls o <;> simp only [hc] at h ⊢
  ·obtain ⟨v,h1,h2⟩:=h;exact ⟨v,h1,hk _ _ _ h2⟩
  ·obtain ⟨v,h1,h2⟩:=h;exact ⟨v,h1,hk _ _ _ h2⟩
  ·obtain ⟨obj,val,h1,h2⟩:=h;exact ⟨obj,val,h1,fun w' U' b hg hu hb=>hk _ _ _ (h2 w' U' b hg hu hb)⟩
  ·exact fun w' U' hg=>wpOp_mono (fun a w h=>⟨h.1,h.2.1,hk _ _ _ h.2.2⟩) (h w' U' hg)
  ·exact fun w' U' hg=>wpOp_mono (fun a w h=>⟨h.1,hk _ _ _ h.2⟩) (h w' U' hg)
theorem agree_grow {n:FZ} {U U':Nat->Prop} {w w':World} (hn:n.n≤w.heap.size) (g:Grow U w U' w'):Agree (some n.z) w w':=n.le _ _ fun b hb=>g.grow.old b (by omega)
theorem grow_push {U:Nat->Prop} {w w':World} {obj:Obj} (hs:Same w w') (hh:w'.heap=w.heap.push obj):Grow U w (plus U w.heap.size) w':=
 ⟨hs,by rw [hh];simp,fun b hb=>by rw [hh,Array.getElem?_push,if_neg (by omega)],fun b hb=>.inl hb,fun b hb=>by
  rcases hb with hb | rfl
  ·exact .inl hb
  ·exact .inr ⟨Nat.le_refl _,by rw [hh];simp⟩⟩
theorem minus_plus {U:Nat->Prop} {b:Nat} (hb:¬ U b):minus (plus U b) b=U:=by
 funext i
 unfold minus plus
 refine propext ⟨fun ⟨h1,h2⟩=>h1.resolve_right h2,fun h=>⟨.inl h,fun e=>hb (e▸h)⟩⟩
theorem Grow.plus {U V X:Nat->Prop} {w w1 w2:World} {b:Nat} (g:Grow U w V w1) (hb:V b) (hl:b<w1.heap.size) (g2:Grow (minus V b) w1 X w2):Grow U w (plus X b) w2/\¬ X b:=by
 have hx:¬ X b:=fun h=>by
  rcases g2.grow.sup b h with h1 | h1
  ·exact h1.2 rfl
  ·omega
 refine ⟨⟨g.same.trans g2.same,Nat.le_trans g.grow.size g2.grow.size,fun i hi=>(g2.grow.old i (Nat.lt_of_lt_of_le hi g.grow.size)).trans (g.grow.old i hi),fun i hi=>?_,fun i hi=>?_⟩,hx⟩
 ·by_cases h:i=b
  ·exact .inr h
  ·exact .inl (g2.grow.sub i ⟨g.grow.sub i hi,h⟩)
 ·have key:V i->U i∨(w.heap.size≤i/\i<w2.heap.size):=fun h=>by
   rcases g.grow.sup i h with h1 | h1
   ·exact .inl h1
   ·have:=g2.grow.size;exact .inr ⟨h1.1,by omega⟩
  rcases hi with hi | rfl
  ·rcases g2.grow.sup i hi with h1 | h1
   ·exact key h1.1
   ·have:=g.grow.size;exact .inr ⟨by omega,h1.2⟩
  ·exact key hb
theorem stepF_swap {cls:Oper->FCls} {n:FZ} {i j:Nat} {oi oj:Oper} (hi:ops[i]?=some oi) (hj:ops[j]?=some oj)
  (hap:oi.apart ops oj=true) (hcp:(cls oj).ahead (cls oi)=true)
  (hsi:∀ cs b,oi.op≠.select cs b) (hsj:∀ cs b,oj.op≠.select cs b)
  {K:Act->World->(Nat->Prop)->Prop} {a:Act} {w:World} {U:Nat->Prop} (h:stepF P ops cls n j (stepF P ops cls n i K) a w U):stepF P ops cls n i (stepF P ops cls n j K) a w U:=by
 obtain ⟨h1,h2,h3⟩:=Oper.apart_spec hap
 have wi:∀ (a:Act) u,Region.wanted oi (yielded ops (a.put oj.dst u).tmps)=Region.wanted oi (yielded ops a.tmps):=fun a u=>wanted_put oi a oj.dst u h3
 have wj:∀ (a:Act) u,Region.wanted oj (yielded ops (a.put oi.dst u).tmps)=Region.wanted oj (yielded ops a.tmps):=fun a u=>wanted_put oj a oi.dst u h1
 have ei:∀ (a:Act) u,execOp (a.put oj.dst u).eval oi=execOp a.eval oi:=fun a u=>execOp_put oi hsi a oj.dst u h3
 have ej:∀ (a:Act) u,execOp (a.put oi.dst u).eval oj=execOp a.eval oj:=fun a u=>execOp_put oj hsj a oi.dst u h1
 have cm:∀ (a:Act) (u v:Value),(a.put oi.dst u).put oj.dst v=(a.put oj.dst v).put oi.dst u:=fun a u v=>Act.put_comm a u v h2
 have hap':=apart_symm hap
 have last:∀ {α:Type} (Y:World->α->Act->Prop) (val:α->Value) (G:World->World->Prop) (K:α->Act->World->Prop) (w w0:World),
   (∀ w' v d u,G w w'->Y w' v (({ a with defers:=d }:Act).put oj.dst u)->Y w0 v a)->(∀ v v',Y w0 v a->Y w0 v' a->v=v') ->
   wpOp P ops noEnd j (fun a' w'=>G w w'/\∃ v,Y w' v a'/\K v a' w') a w->∃ v,Y w0 v a/\wpOp P ops noEnd j (fun a' w'=>G w w'/\K v a' w') a w:=by
  intro α Y val G K w w0 hb hu h
  obtain ⟨a',w',⟨v0,d0,rfl⟩,hg,u,hy,_⟩:=wpOp_some (wpOp_shape hj h)
  have hua:=hb w' u d0 v0 hg hy
  refine ⟨u,hua,wpOp_mono ?_ (wpOp_shape hj h)⟩
  rintro a' w' ⟨⟨v1,d1,rfl⟩,hg,u',hu',hK⟩
  have:=hu _ _ hua (hb w' u' d1 v1 hg hu')
  subst this
  exact ⟨hg,hK⟩
 have dY:∀ {v:Value} {d:List Deferred} {u:Value},Yields P ops oi v (({ a with defers:=d }:Act).put oj.dst u)->Yields P ops oi v a:=fun {v d u} hy=>(hy.of_same (ei _ u).symm (wi _ u).symm).of_same (execOp_defers oi a d).symm rfl
 have dR:∀ {n0:Option Zone} {w:World} {v:Value} {d:List Deferred} {u:Value},YieldsR P ops n0 w oi v (({ a with defers:=d }:Act).put oj.dst u)->YieldsR P ops n0 w oi v a:=fun {n0 w v d u} hy=>(hy.of_same (ei _ u).symm (wi _ u).symm).of_same (execOp_defers oi a d).symm rfl
 have dP:∀ {obj:Obj} {val:Nat->Value} {d:List Deferred} {u:Value},Pushes P ops oi obj val (({ a with defers:=d }:Act).put oj.dst u)->Pushes P ops oi obj val a:=fun {obj val d u} hy=>(hy.of_same (ei _ u).symm (wi _ u).symm).of_same (execOp_defers oi a d).symm rfl
 unfold stepF at h ⊢
 obtain ⟨hn,h⟩:=h
 refine ⟨hn,?_⟩
 simp only [hi,hj] at h ⊢
 cases cj:cls oj <;> cases ci:cls oi <;> simp only [ci,cj,FCls.ahead,Bool.false_eq_true] at hcp h ⊢
 ·obtain ⟨v,hv,_,u,hu,h⟩:=h
  exact ⟨u,hu.of_same (ei a v).symm (wi a v).symm,hn,v,hv.of_same (ej a u) (wj a u),by rw [cm];exact h⟩
 ·obtain ⟨v,hv,_,u,hu,h⟩:=h
  exact ⟨u,hu.of_same (ei a v).symm (wi a v).symm,hn,v,hv.of_same (ej a u) (wj a u),by rw [cm];exact h⟩
 ·obtain ⟨v,hv,_,obj,val,hp,h⟩:=h
  refine ⟨obj,val,hp.of_same (ei a v).symm (wi a v).symm,fun w' U' b hg hu hb=>⟨Nat.le_trans hn hg.grow.size,v,hv.of_same (ej a _) (wj a _),?_⟩⟩
  rw [cm]
  exact h w' U' b hg hu hb
 ·obtain ⟨v,hv,_,h⟩:=h
  refine fun w' U' hg=>wpOp_mono ?_ (wpOp_put_first hi hap' hsi (h w' U' hg))
  rintro a' w'' ⟨⟨u,d,rfl⟩,hs,hk,hK⟩
  exact ⟨hs,hk,Nat.le_trans hn (Nat.le_trans hg.grow.size hk.size),v,(hv.of_same (execOp_defers oj a d) rfl).of_same (ej _ u) (wj _ u),hK⟩
 ·obtain ⟨v,hv,_,h⟩:=h
  refine fun w' U' hg=>wpOp_mono ?_ (wpOp_put_first hi hap' hsi (h w' U' hg))
  rintro a' w'' ⟨⟨u,d,rfl⟩,hs,hK⟩
  exact ⟨hs,Nat.le_trans hn (Nat.le_trans hg.grow.size hs),v,(hv.of_same (execOp_defers oj a d) rfl).of_same (ej _ u) (wj _ u),hK⟩
 ·obtain ⟨v,hv,_,u,hu,h⟩:=h
  exact ⟨u,hu.of_same (ei a v).symm (wi a v).symm,hn,v,hv.of_same (ej a u) (wj a u),by rw [cm];exact h⟩
 ·obtain ⟨v,hv,_,u,hu,h⟩:=h
  exact ⟨u,hu.of_same (ei a v).symm (wi a v).symm,hn,v,hv.of_same (ej a u) (wj a u),by rw [cm];exact h⟩
 ·obtain ⟨v,hv,_,obj,val,hp,h⟩:=h
  refine ⟨obj,val,hp.of_same (ei a v).symm (wi a v).symm,fun w' U' b hg hu hb=>⟨Nat.le_trans hn hg.grow.size,v,(hv.of_same (ej a _) (wj a _)).agree (agree_grow hn hg),?_⟩⟩
  rw [cm]
  exact h w' U' b hg hu hb
 ·obtain ⟨v,hv,_,h⟩:=h
  refine fun w' U' hg=>wpOp_mono ?_ (wpOp_put_first hi hap' hsi (h w' U' hg))
  rintro a' w'' ⟨⟨u,d,rfl⟩,hs,hk,hK⟩
  have ag:Agree (some n.z) w' w'':=hk.old
  exact ⟨hs,hk,Nat.le_trans hn (Nat.le_trans hg.grow.size hk.size),v,(((hv.of_same (execOp_defers oj a d) rfl).of_same (ej _ u) (wj _ u)).agree (agree_grow hn hg)).agree ag,hK⟩
 ·obtain ⟨obj,val,hp,h⟩:=h
  obtain ⟨w1,_,hs1,hh1⟩:=hp.2 w
  obtain ⟨_,u,hu,_⟩:=h w1 _ w.heap.size (grow_push hs1 hh1) (.inr rfl) (by rw [hh1];simp)
  have hua:=hu.of_same (ei a _).symm (wi a _).symm
  refine ⟨u,hua,hn,obj,val,hp.of_same (ej a u) (wj a u),fun w' U' b hg hu' hb=>?_⟩
  obtain ⟨_,u2,hu2,hK⟩:=h w' U' b hg hu' hb
  have:=yields_unique hua (hu2.of_same (ei a _).symm (wi a _).symm)
  subst this
  rw [cm]
  exact hK
 ·obtain ⟨obj,val,hp,h⟩:=h
  obtain ⟨w1,_,hs1,hh1⟩:=hp.2 w
  obtain ⟨_,u,hu,_⟩:=h w1 _ w.heap.size (grow_push hs1 hh1) (.inr rfl) (by rw [hh1];simp)
  have hua:=(hu.of_same (ei a _).symm (wi a _).symm).agree (agree_grow hn (grow_push hs1 hh1) (U:=U)).symm
  refine ⟨u,hua,hn,obj,val,hp.of_same (ej a u) (wj a u),fun w' U' b hg hu' hb=>?_⟩
  obtain ⟨_,u2,hu2,hK⟩:=h w' U' b hg hu' hb
  have:=yieldsR_unique hua ((hu2.of_same (ei a _).symm (wi a _).symm).agree (agree_grow hn hg).symm)
  subst this
  rw [cm]
  exact hK
 ·obtain ⟨obj,val,hp,h⟩:=h
  obtain ⟨w1,_,hs1,hh1⟩:=hp.2 w
  obtain ⟨_,obj2,val2,hp2,_⟩:=h w1 _ w.heap.size (grow_push hs1 hh1) (.inr rfl) (by rw [hh1];simp)
  have hpa:=hp2.of_same (ei a _).symm (wi a _).symm
  refine ⟨obj2,val2,hpa,fun w2 U2 b2 hg2 hu2 hb2=>⟨Nat.le_trans hn hg2.grow.size,obj,val,hp.of_same (ej a _) (wj a _),fun w3 U3 b3 hg3 hu3 hb3=>?_⟩⟩
  have hl2:b2<w2.heap.size:=(Array.getElem?_eq_some_iff.1 hb2).1
  have hl3:b3<w3.heap.size:=(Array.getElem?_eq_some_iff.1 hb3).1
  obtain ⟨g,hx⟩:=hg2.plus hu2 hl2 hg3
  have hne:b3≠b2:=fun e=>hx (e▸hu3)
  obtain ⟨_,obj4,val4,hp4,hK⟩:=h w3 _ b3 g (.inl hu3) hb3
  obtain ⟨rfl,rfl⟩:=hpa.unique (hp4.of_same (ei a _).symm (wi a _).symm)
  have:=hK w3 _ b2 (.refl _ _) ⟨.inr rfl,Ne.symm hne⟩ (by rw [hg3.grow.old b2 hl2];exact hb2)
  have e:minus (minus (plus U3 b2) b3) b2=minus U3 b3:=by
   funext i
   unfold minus plus
   refine propext ⟨fun ⟨⟨h1,h2⟩,h3⟩=>⟨h1.resolve_right h3,h2⟩,fun ⟨h1,h2⟩=>⟨⟨.inl h1,h2⟩,fun e=>hx (e▸h1)⟩⟩
  rw [e] at this
  rw [cm]
  exact this
 ·obtain ⟨u,hu,_⟩:=last (fun _ v a=>Yields P ops oi v a) id (fun _ w'=>Same w w'/\KeepsZ n.z U w.heap w'.heap) (fun v a' w'=>n.n≤w'.heap.size/\K (a'.put oi.dst v) w' U) w w
   (fun w' v d u _ hy=>dY hy) (fun _ _=>yields_unique) (wpOp_mono (fun a' w' ⟨hs,hk,hn',v,hv,hK⟩=>⟨⟨hs,hk⟩,v,hv,hn',hK⟩) (h w U (.refl _ _)))
  refine ⟨u,hu,hn,fun w' U' hg=>?_⟩
  obtain ⟨u2,hu2,h2⟩:=last (fun _ v a=>Yields P ops oi v a) id (fun w w'=>Same w w'/\KeepsZ n.z U' w.heap w'.heap) (fun v a' w'=>n.n≤w'.heap.size/\K (a'.put oi.dst v) w' U') w' w'
   (fun w' v d u _ hy=>dY hy) (fun _ _=>yields_unique) (wpOp_mono (fun a' w' ⟨hs,hk,hn',v,hv,hK⟩=>⟨⟨hs,hk⟩,v,hv,hn',hK⟩) (h w' U' hg))
  have:=yields_unique hu hu2
  subst this
  exact wpOp_put_last hj hap hsj (wpOp_mono (fun a' w' ⟨⟨hs,hk⟩,hn',hK⟩=>⟨hs,hk,hK⟩) h2)
 ·have agr:∀ {U':Nat->Prop} {w' w'':World},Grow U w U' w'->KeepsZ n.z U' w'.heap w''.heap->Agree (some n.z) w w'':=fun {U' w' w''} hg hk=>(agree_grow hn hg).trans (hk.old)
  obtain ⟨u,hu,_⟩:=last (fun w v a=>YieldsR P ops (some n.z) w oi v a) id (fun _ w'=>Same w w'/\KeepsZ n.z U w.heap w'.heap) (fun v a' w'=>n.n≤w'.heap.size/\K (a'.put oi.dst v) w' U) w w
   (fun w' v d u hg hy=>(dR hy).agree (agr (.refl _ _) hg.2).symm) (fun _ _=>yieldsR_unique) (wpOp_mono (fun a' w' ⟨hs,hk,hn',v,hv,hK⟩=>⟨⟨hs,hk⟩,v,hv,hn',hK⟩) (h w U (.refl _ _)))
  refine ⟨u,hu,hn,fun w' U' hg=>?_⟩
  obtain ⟨u2,hu2,h2⟩:=last (fun w v a=>YieldsR P ops (some n.z) w oi v a) id (fun w w'=>Same w w'/\KeepsZ n.z U' w.heap w'.heap) (fun v a' w'=>n.n≤w'.heap.size/\K (a'.put oi.dst v) w' U') w' w
   (fun w'' v d u hg2 hy=>(dR hy).agree (agr hg hg2.2).symm) (fun _ _=>yieldsR_unique) (wpOp_mono (fun a' w' ⟨hs,hk,hn',v,hv,hK⟩=>⟨⟨hs,hk⟩,v,hv,hn',hK⟩) (h w' U' hg))
  have:=yieldsR_unique hu hu2
  subst this
  exact wpOp_put_last hj hap hsj (wpOp_mono (fun a' w' ⟨⟨hs,hk⟩,hn',hK⟩=>⟨hs,hk,hK⟩) h2)
 ·obtain ⟨⟨obj,val⟩,hp,_⟩:=last (α:=Obj×(Nat->Value)) (fun _ v a=>Pushes P ops oi v.1 v.2 a) (fun _=>undef) (fun _ w'=>Same w w'/\KeepsZ n.z U w.heap w'.heap) (fun _ _ _=>True) w w
   (fun w' v d u _ hy=>dP hy) (fun v v' h h'=>Prod.ext_iff.2 (h.unique h')) (wpOp_mono (fun a' w' ⟨hs,hk,hn',obj,val,hp,hK⟩=>⟨⟨hs,hk⟩,(obj,val),hp,trivial⟩) (h w U (.refl _ _)))
  refine ⟨obj,val,hp,fun w1 U1 b hg1 hu1 hb1=>⟨Nat.le_trans hn hg1.grow.size,fun w2 U2 hg2=>?_⟩⟩
  have hl1:b<w1.heap.size:=(Array.getElem?_eq_some_iff.1 hb1).1
  obtain ⟨g,hx⟩:=hg1.plus hu1 hl1 hg2
  refine wpOp_put_last hj hap hsj (wpOp_mono ?_ (wpOp_shape hj (h w2 _ g)))
  rintro a' w3 ⟨⟨u,d,rfl⟩,hs,hk,hn',obj2,val2,hp2,hK⟩
  obtain ⟨rfl,rfl⟩:=hp.unique (dP hp2)
  have:=hK w3 _ b (.refl _ _) (.inr rfl) (by rw [hk.free b (.inr rfl),hg2.grow.old b hl1];exact hb1)
  rw [minus_plus hx] at this
  exact ⟨hs,⟨hk.size,hk.old,fun i hi=>hk.free i (.inl hi)⟩,this⟩
 ·obtain ⟨u,hu,_⟩:=last (fun _ v a=>Yields P ops oi v a) id (fun _ w'=>w.heap.size≤w'.heap.size) (fun v a' w'=>n.n≤w'.heap.size/\K (a'.put oi.dst v) w' none') w w
   (fun w' v d u _ hy=>dY hy) (fun _ _=>yields_unique) (wpOp_mono (fun a' w' ⟨hs,hn',v,hv,hK⟩=>⟨hs,v,hv,hn',hK⟩) (h w U (.refl _ _)))
  refine ⟨u,hu,hn,fun w' U' hg=>?_⟩
  obtain ⟨u2,hu2,h2⟩:=last (fun _ v a=>Yields P ops oi v a) id (fun w w'=>w.heap.size≤w'.heap.size) (fun v a' w'=>n.n≤w'.heap.size/\K (a'.put oi.dst v) w' none') w' w'
   (fun w' v d u _ hy=>dY hy) (fun _ _=>yields_unique) (wpOp_mono (fun a' w' ⟨hs,hn',v,hv,hK⟩=>⟨hs,v,hv,hn',hK⟩) (h w' U' hg))
  have:=yields_unique hu hu2
  subst this
  exact wpOp_put_last hj hap hsj (wpOp_mono (fun a' w' ⟨hs,hn',hK⟩=>⟨hs,hK⟩) h2)
theorem runF_front {cls:Oper->FCls} {n:FZ} {i:Nat} {oi:Oper} (hi:ops[i]?=some oi) (hsel:∀ (j:Nat) (o:Oper) cs b,ops[j]?=some o->o.op≠.select cs b)
  (r2:List Nat) (K:Act->World->(Nat->Prop)->Prop):∀ (r1:List Nat) (a:Act) (w:World) (U:Nat->Prop),
   (∀ j∈r1,∃ oj,ops[j]?=some oj/\oi.apart ops oj=true/\(cls oj).ahead (cls oi)=true) ->
   runF P ops cls n K (r1++i::r2) a w U->stepF P ops cls n i (runF P ops cls n K (r1++r2)) a w U:=by
 intro r1
 induction r1 with
 | nil=>intro a w U _ h;exact h
 | cons j r1 ih=>
  intro a w U hr h
  obtain ⟨oj,hj,hap,hcp⟩:=hr j (List.mem_cons_self ..)
  have h':stepF P ops cls n j (stepF P ops cls n i (runF P ops cls n K (r1++r2))) a w U:=
   stepF_mono (fun a w U h=>ih a w U (fun k hk=>hr k (List.mem_cons_of_mem _ hk)) h) h
  exact stepF_swap hi hj hap hcp (fun cs b=>hsel i oi cs b hi) (fun cs b=>hsel j oj cs b hj) h'
theorem wpOp_of_stepF {cls:Oper->FCls} {n:FZ} {i:Nat} {K:Act->World->(Nat->Prop)->Prop} {Q:Exit->Act->World->Prop} {a:Act} {w:World} {U:Nat->Prop}
  (h:stepF P ops cls n i K a w U) (hU:∀ b,U b->b<w.heap.size):wpOp P ops Q i (fun a w=>∃ U,(∀ b,U b->b<w.heap.size)/\K a w U) a w:=by
 unfold stepF at h
 obtain ⟨hn,h⟩:=h
 cases ho:ops[i]? with
 | none=>simp [ho] at h
 | some o=>
  simp only [ho] at h
  cases hc:cls o <;> simp only [hc] at h
  ·obtain ⟨v,h1,h2⟩:=h;exact h1.wpOp ho ⟨U,hU,h2⟩
  ·obtain ⟨v,h1,h2⟩:=h;exact h1.wpOp ho ⟨U,hU,h2⟩
  ·obtain ⟨obj,val,hp,h⟩:=h
   refine hp.wpOp ho fun w' hs hh=>⟨_,fun b hb=>?_,h w' _ w.heap.size (grow_push hs hh) (.inr rfl) (by rw [hh];simp)⟩
   rcases hb.1 with h1 | h1
   ·have:=hU b h1;rw [hh];simp;omega
   ·exact absurd h1 hb.2
  ·exact wpOp_end (wpOp_mono (fun a' w' ⟨_,hk,hK⟩=>⟨U,fun b hb=>Nat.lt_of_lt_of_le (hU b hb) hk.size,hK⟩) (h w U (.refl _ _)))
  ·exact wpOp_end (wpOp_mono (fun a' w' ⟨_,hK⟩=>⟨none',fun b hb=>hb.elim,hK⟩) (h w U (.refl _ _)))
structure OrdOk (cls:Oper->FCls) (ops:Array Oper) (M:List Nat) (ord:List Nat):Prop where
 nosel:Region.noSelect ops=true
 nodup:ord.Nodup
 all:∀ i,i<ops.size->i∈ord
 lt:∀ i∈ord,i<ops.size
 mask:∀ i oi,ops[i]?=some oi->∀ j,(M.getD i 0).testBit j=true->∃ e∈preds oi,e=j∨(M.getD e 0).testBit j=true
 back:∀ i oi,ops[i]?=some oi->∀ e∈preds oi,e<i
 pos:∀ r1 i r2,ord=r1++i::r2->∀ oi,ops[i]?=some oi->∀ e∈preds oi,e∈r1
 free:∀ r1 i r2,ord=r1++i::r2->∀ oi,ops[i]?=some oi->∀ j∈r1,(M.getD i 0).testBit j=true∨∃ oj,ops[j]?=some oj/\oi.apart ops oj=true/\(cls oj).ahead (cls oi)=true
def frees (cls:Oper->FCls) (ops:Array Oper) (M:List Nat) (r1:List Nat):List Nat->Bool
 | []=>true
 | i::r=>(match ops[i]? with
  | none=>false
  | some oi=>(preds oi).all (fun e=>decide (e<i) && r1.elem e) && (M.getD i 0 ||| maskOf M oi == maskOf M oi) &&
    r1.all fun j=>(M.getD i 0).testBit j || match ops[j]? with
     | none=>false
     | some oj=>oi.apart ops oj && (cls oj).ahead (cls oi)) && frees cls ops M (i::r1) r
def nodupB:List Nat->Bool
 | []=>true
 | i::r=>!r.elem i && nodupB r
theorem nodupB_spec:∀ {l:List Nat},nodupB l=true->l.Nodup
 | [],_=>.nil
 | i::r,h=>by
  simp only [nodupB,Bool.and_eq_true,Bool.not_eq_true'] at h
  exact List.nodup_cons.2 ⟨fun hi=>by have:=h.1;simp [hi] at this,nodupB_spec h.2⟩
def ordOk (cls:Oper->FCls) (ops:Array Oper) (M:List Nat) (ord:List Nat):Bool:=
 Region.noSelect ops && (List.range ops.size).all (fun i=>ord.elem i) && decide (ord.length=ops.size) && ord.all (fun i=>decide (i<ops.size)) && nodupB ord && frees cls ops M [] ord
theorem frees_spec {cls:Oper->FCls} {M:List Nat}:∀ (r r0:List Nat),frees cls ops M r0 r=true->∀ r1 i r2,r=r1++i::r2 ->
  ∃ oi,ops[i]?=some oi/\(∀ e∈preds oi,e<i/\(e∈r1∨e∈r0))/\(M.getD i 0 ||| maskOf M oi)=maskOf M oi /\
   ∀ j,j∈r1∨j∈r0->(M.getD i 0).testBit j=true∨∃ oj,ops[j]?=some oj/\oi.apart ops oj=true/\(cls oj).ahead (cls oi)=true
 | [],r0,_,r1,i,r2,he=>by simp at he
 | k::r,r0,h,r1,i,r2,he=>by
  unfold frees at h
  rw [Bool.and_eq_true] at h
  cases r1 with
  | nil=>
   simp only [List.nil_append,List.cons.injEq] at he
   obtain ⟨rfl,rfl⟩:=he
   cases ho:ops[k]? with
   | none=>simp [ho] at h
   | some oi=>
    simp only [ho,Bool.and_eq_true,List.all_eq_true,decide_eq_true_eq,beq_iff_eq,Bool.or_eq_true] at h
    obtain ⟨⟨⟨h1,h2⟩,h3⟩,_⟩:=h
    refine ⟨oi,rfl,fun e he=>⟨(h1 e he).1,.inr (by simpa using (h1 e he).2)⟩,h2,fun j hj=>?_⟩
    have hj:j∈r0:=hj.resolve_left (by simp)
    rcases h3 j hj with h4 | h4
    ·exact .inl h4
    ·refine .inr ?_
     cases hoj:ops[j]? with
     | none=>simp [hoj] at h4
     | some oj=>simp only [hoj,Bool.and_eq_true] at h4;exact ⟨oj,rfl,h4⟩
  | cons k' r1=>
   simp only [List.cons_append,List.cons.injEq] at he
   obtain ⟨rfl,rfl⟩:=he
   obtain ⟨oi,ho,h1,h2,h3⟩:=frees_spec (r1++i::r2) (k::r0) h.2 r1 i r2 rfl
   refine ⟨oi,ho,fun e he=>⟨(h1 e he).1,?_⟩,h2,fun j hj=>h3 j ?_⟩
   ·rcases (h1 e he).2 with h4 | h4
    ·exact .inl (List.mem_cons_of_mem _ h4)
    ·rcases List.mem_cons.1 h4 with rfl | h4
     ·exact .inl (List.mem_cons_self ..)
     ·exact .inr h4
   ·rcases hj with hj | hj
    ·rcases List.mem_cons.1 hj with rfl | hj
     ·exact .inr (List.mem_cons_self ..)
     ·exact .inl hj
    ·exact .inr (List.mem_cons_of_mem _ hj)
theorem ordOk_spec {cls:Oper->FCls} {M:List Nat} {ord:List Nat} (h:ordOk cls ops M ord=true):OrdOk cls ops M ord:=by
 simp only [ordOk,Bool.and_eq_true,List.all_eq_true,List.mem_range,decide_eq_true_eq] at h
 obtain ⟨⟨⟨⟨⟨hs,ha⟩,hl⟩,hlt⟩,hnb⟩,hf⟩:=h
 have hall:∀ i,i<ops.size->i∈ord:=fun i hi=>by simpa using ha i hi
 have sp:=frees_spec ord [] hf
 have at_:∀ i,i<ops.size->∃ r1 r2,ord=r1++i::r2:=fun i hi=>List.append_of_mem (hall i hi)
 have eq_:∀ {i:Nat} {oi oi':Oper},ops[i]?=some oi->ops[i]?=some oi'->oi=oi':=fun h h'=>Option.some.inj (h.symm.trans h')
 have hnd:ord.Nodup:=nodupB_spec hnb
 refine ⟨hs,hnd,hall,hlt,fun i oi hi j hj=>?_,fun i oi hi e he=>?_,fun r1 i r2 hr oi hi e he=>?_,fun r1 i r2 hr oi hi j hj=>?_⟩
 ·obtain ⟨r1,r2,hr⟩:=at_ i (Array.getElem?_eq_some_iff.1 hi).1
  obtain ⟨oi',ho,_,h2,_⟩:=sp r1 i r2 hr
  obtain rfl:=eq_ hi ho
  have h3:(maskOf M oi).testBit j=true:=by rw [<- h2,Nat.testBit_or,hj,Bool.true_or]
  rcases foldl_mask M (preds oi) 0 j h3 with h4 | h4
  ·simp at h4
  ·exact h4
 ·obtain ⟨r1,r2,hr⟩:=at_ i (Array.getElem?_eq_some_iff.1 hi).1
  obtain ⟨oi',ho,h1,_⟩:=sp r1 i r2 hr
  obtain rfl:=eq_ hi ho
  exact (h1 e he).1
 ·obtain ⟨oi',ho,h1,_⟩:=sp r1 i r2 hr
  obtain rfl:=eq_ hi ho
  exact (h1 e he).2.resolve_right (by simp)
 ·obtain ⟨oi',ho,_,_,h3⟩:=sp r1 i r2 hr
  obtain rfl:=eq_ hi ho
  exact h3 j (.inl hj)
theorem closed_maskF {cls:Oper->FCls} {M ord:List Nat} (ok:OrdOk cls ops M ord) {listed:Array Bool} (hc:Closed ops listed) :
  ∀ i,listed.getD i false=true->∀ j,(M.getD i 0).testBit j=true->(∃ oi,ops[i]?=some oi)->listed.getD j false=true:=by
 intro i
 induction i using Nat.strongRecOn with
 | _ i ih=>
  rintro hl j hj ⟨oi,hi⟩
  obtain ⟨e,he,h⟩:=ok.mask i oi hi j hj
  have hle:=hc.2 i oi hi hl e he
  rcases h with rfl | h
  ·exact hle
  ·have hei:=ok.back i oi hi e he
   have hlt:e<ops.size:=Nat.lt_trans hei (Array.getElem?_eq_some_iff.1 hi).1
   exact ih e hei hle j h ⟨_,Array.getElem?_eq_getElem hlt⟩
def restO (listed:Array Bool) (ord:List Nat):List Nat:=ord.filter fun i=>!listed.getD i true
theorem restO_split {listed:Array Bool} {ord:List Nat} (hnd:ord.Nodup) {i:Nat} (hi:i∈ord) (hlt:i<listed.size) (hl:listed.getD i true=false) :
  ∃ o1 o2,ord=o1++i::o2/\restO listed ord=restO listed o1++i::restO listed o2/\restO (listed.setIfInBounds i true) ord=restO listed o1++restO listed o2:=by
 obtain ⟨o1,o2,rfl⟩:=List.append_of_mem hi
 have hnd':=List.nodup_append.1 hnd
 have h1:i∉o1:=fun h=>hnd'.2.2 i h i (List.mem_cons_self ..) rfl
 have h2:i∉o2:=(List.nodup_cons.1 hnd'.2.1).1
 have hself:(listed.setIfInBounds i true).getD i true=true:=by simp [Array.getD_eq_getD_getElem?,hlt]
 have hother:∀ l:List Nat,i∉l->restO (listed.setIfInBounds i true) l=restO listed l:=fun l hl=>List.filter_congr fun j hj=>by
  rw [getD_set_ne true (show i≠j from fun e=>hl (by rw [e];exact hj))]
 refine ⟨o1,o2,rfl,?_,?_⟩
 ·unfold restO;rw [List.filter_append,List.filter_cons,if_pos (by simp [hl])]
 ·rw [<- hother o1 h1,<- hother o2 h2]
  unfold restO
  rw [List.filter_append,List.filter_cons,if_neg (by rw [hself];simp)]
theorem mem_restO {listed:Array Bool} {ord:List Nat} {i:Nat}:i∈restO listed ord↔i∈ord/\listed.getD i true=false:=by
 unfold restO;rw [List.mem_filter];simp
theorem wpAny_ord {cls:Oper->FCls} {n:FZ} {M ord:List Nat} (ok:OrdOk cls ops M ord) {Q:Exit->Act->World->Prop} {K:Act->World->(Nat->Prop)->Prop} (hK:∀ a w U,K a w U->Q .normal a w) :
  ∀ (fuel:Nat) (listed:Array Bool) (a:Act) (w:World) (U:Nat->Prop),(restO listed ord).length=fuel->Closed ops listed->(∀ b,U b->b<w.heap.size) ->
   runF P ops cls n K (restO listed ord) a w U->wpAny P .any ops Q fuel listed a w:=by
 intro fuel
 induction fuel with
 | zero=>
  intro listed a w U hf hc hU h
  have h0:restO listed ord=[]:=List.eq_nil_of_length_eq_zero hf
  rw [h0] at h
  refine ⟨List.eq_nil_iff_forall_not_mem.2 fun i hi=>?_,hK _ _ _ h⟩
  obtain ⟨hl,o,ho,_⟩:=mem_ready.1 hi
  have hlt:=(Array.getElem?_eq_some_iff.1 ho).1
  have:i∈restO listed ord:=mem_restO.2 ⟨ok.all i hlt,hl⟩
  rw [h0] at this
  cases this
 | succ fuel ih=>
  intro listed a w U hf hc hU h
  constructor
  ·intro hr
   exfalso
   cases hrs:restO listed ord with
   | nil=>rw [hrs] at hf;simp at hf
   | cons i r2=>
    have hmem:i∈restO listed ord:=by rw [hrs];exact List.mem_cons_self ..
    obtain ⟨hio,hl⟩:=mem_restO.1 hmem
    have hilt:=ok.lt i hio
    obtain ⟨o1,o2,ho,hsp,_⟩:=restO_split ok.nodup hio (by rw [hc.1];exact hilt) hl
    have h1:restO listed o1=[]:=by
     cases h1:restO listed o1 with
     | nil=>rfl
     | cons j r=>
      exfalso
      rw [hrs,h1] at hsp
      simp only [List.cons_append,List.cons.injEq] at hsp
      have hj:j∈o1:=(mem_restO.1 (show j∈restO listed o1 by rw [h1];exact List.mem_cons_self ..)).1
      have:=(List.nodup_append.1 (ho▸ok.nodup)).2.2 j hj i (List.mem_cons_self ..)
      exact this hsp.1.symm
    have:i∈Region.ready .any ops listed:=by
     refine mem_ready.2 ⟨hl,_,Array.getElem?_eq_getElem hilt,fun e he hb=>?_⟩
     have hpe:e.on∈preds ops[i]:=mem_preds.2 ⟨e,he,hb,rfl⟩
     have hei:=ok.back i _ (Array.getElem?_eq_getElem hilt) e.on hpe
     have hin:=ok.pos o1 i o2 ho _ (Array.getElem?_eq_getElem hilt) e.on hpe
     have hesz:e.on<listed.size:=by rw [hc.1];omega
     cases hle:listed.getD e.on false with
     | true=>rfl
     | false=>
      exfalso
      have:e.on∈restO listed o1:=mem_restO.2 ⟨hin,by rw [getD_tf hesz,hle]⟩
      rw [h1] at this
      cases this
    rw [hr] at this
    cases this
  ·intro i hi
   obtain ⟨hl,oi,hoi,hall⟩:=mem_ready.1 hi
   have hlt:=(Array.getElem?_eq_some_iff.1 hoi).1
   obtain ⟨o1,o2,ho,hs,hs'⟩:=restO_split ok.nodup (ok.all i hlt) (by rw [hc.1];exact hlt) hl
   have hclosed:Closed ops (listed.setIfInBounds i true):=by
    refine ⟨by simp [hc.1],fun k ok' hk hlk e he=>?_⟩
    by_cases hki:k=i
    ·subst hki
     have:ok'=oi:=Option.some.inj (hk.symm.trans hoi)
     subst this
     obtain ⟨x,hx,hb,rfl⟩:=mem_preds.1 he
     exact getD_set_true (hall x hx hb)
    ·rw [getD_set_ne false (Ne.symm hki)] at hlk
     exact getD_set_true (hc.2 k ok' hk hlk e he)
   rw [hs] at h
   have hfr:=runF_front hoi (Region.noSelect_spec ok.nosel) (restO listed o2) K (restO listed o1) a w U (fun j hj=>by
    obtain ⟨hjo,hjl⟩:=mem_restO.1 hj
    rcases ok.free o1 i o2 ho oi hoi j hjo with hm | hm
    ·exfalso
     obtain ⟨e,he,h⟩:=ok.mask i oi hoi j hm
     obtain ⟨x,hx,hb,rfl⟩:=mem_preds.1 he
     have hle:=hall x hx hb
     have hjlt:j<ops.size:=ok.lt j (by rw [ho];exact List.mem_append_left _ hjo)
     have hjsz:j<listed.size:=by rw [hc.1];omega
     rw [getD_tf hjsz] at hjl
     rcases h with h | h
     ·rw [h,hjl] at hle;cases hle
     ·have hei:=ok.back i oi hoi x.on he
      have h2:=closed_maskF ok hc x.on hle j h ⟨_,Array.getElem?_eq_getElem (Nat.lt_trans hei hlt)⟩
      rw [hjl] at h2;cases h2
    ·exact hm) h
   refine wpOp_mono ?_ (wpOp_of_stepF hfr hU)
   rintro a' w' ⟨U',hU',h'⟩
   refine ih _ a' w' U' ?_ hclosed hU' (by rw [hs'];exact h')
   rw [hs'];rw [hs] at hf
   simp at hf ⊢
   omega
theorem wp_region_flt {cls:Oper->FCls} {n:FZ} {M ord:List Nat} (hm:P.follows .mixedOrders=true) (hok:ordOk cls ops M ord=true) {id:Nat} {Q:Exit->Act->World->Prop} {K:Act->World->(Nat->Prop)->Prop}
  (hK:∀ a w U,K a w U->Q .normal a w) {a:Act} {w:World} (h:runF P ops cls n K ord a { w with drawn:=w.drawn+1 } none'):(Code.region id ops true).wp P Q a w:=by
 have ok:=ordOk_spec hok
 have hr:restO (Array.replicate ops.size false) ord=ord:=by
  unfold restO
  rw [List.filter_eq_self]
  intro i hi
  have:=ok.lt i hi
  simp [this]
 have hlen:ord.length=ops.size:=by
  simp only [ordOk,Bool.and_eq_true,decide_eq_true_eq] at hok
  exact hok.1.1.1.2
 refine wp_region_any hm (wpAny_ord ok hK ops.size _ a _ none' (by rw [hr];exact hlen) ⟨by simp,fun i oi hi hl=>?_⟩ (fun b hb=>hb.elim) (by rw [hr];exact h))
 have hlt:=(Array.getElem?_eq_some_iff.1 hi).1
 simp [hlt] at hl
end
end Go.Hx
