/- A region that draws its order comes to what its text order comes to. No condition. -/
import Derived.Orders
import Derived.Tactics
import Derived.Eval
namespace Go.Hx

/-! ### A region that draws its order comes to what its text's order comes to -/

inductive Cls where
  | pure | read | ext | eff
  deriving DecidableEq

def Cls.compat : Cls → Cls → Bool
  | .pure, _ => true
  | _, .pure => true
  | .read, .read => true
  | .read, .ext => true
  | .ext, .read => true
  | _, _ => false

/-- Below block n0 two worlds have the same blocks. (No n0: nothing is said.) -/
def Agree (n0 : Option Nat) (w w' : World) : Prop := match n0 with | none => w'.heap = w.heap | some n => ∀ b, b < n → w'.heap[b]? = w.heap[b]?
theorem Agree.refl (n0 : Option Nat) (w : World) : Agree n0 w w := by cases n0 <;> simp [Agree]
theorem Agree.symm {n0 : Option Nat} {w w' : World} (h : Agree n0 w w') : Agree n0 w' w := by
  cases n0 with
  | none => exact Eq.symm h
  | some n => exact fun b hb => (h b hb).symm
theorem Agree.trans {n0 : Option Nat} {a b c : World} (h : Agree n0 a b) (k : Agree n0 b c) : Agree n0 a c := by
  cases n0 with
  | none => exact Eq.trans k h
  | some n => exact fun i hi => (k i hi).trans (h i hi)

def noEnd : Exit → Act → World → Prop := fun _ _ _ => False

section
variable {P : Program} {ops : Array Oper}

def YieldsR (P : Program) (ops : Array Oper) (n0 : Option Nat) (w : World) (o : Oper) (v : Value) (a : Act) : Prop :=
  (Region.wanted o (yielded ops a.tmps) = true ∧ ∀ w', Agree n0 w w' → (execOp a.eval o).run P w' = .ok (.value v) w') ∨
  (Region.wanted o (yielded ops a.tmps) = false ∧ v = undef)
theorem YieldsR.agree {n0 : Option Nat} {w w' : World} {o : Oper} {v : Value} {a : Act} (h : YieldsR P ops n0 w o v a) (hw : Agree n0 w w') : YieldsR P ops n0 w' o v a := by
  rcases h with ⟨h1, h2⟩ | h
  · exact .inl ⟨h1, fun w2 h3 => h2 w2 (hw.trans h3)⟩
  · exact .inr h

theorem YieldsR.of_same {n0 : Option Nat} {w : World} {o : Oper} {v : Value} {a a' : Act} (hy : YieldsR P ops n0 w o v a) (he : execOp a'.eval o = execOp a.eval o)
    (hw : Region.wanted o (yielded ops a'.tmps) = Region.wanted o (yielded ops a.tmps)) : YieldsR P ops n0 w o v a' := by
  unfold YieldsR at *
  rw [he, hw]
  exact hy

theorem YieldsR.wpOp {n0 : Option Nat} {Q : Exit → Act → World → Prop} {i : Nat} {o : Oper} {v : Value} {a : Act} {w : World} (hi : ops[i]? = some o) (hy : YieldsR P ops n0 w o v a)
    {K : Act → World → Prop} (h : K (a.put o.dst v) w) : wpOp P ops Q i K a w := by
  unfold Go.wpOp
  simp only [hi]
  rcases hy with ⟨hw, hv⟩ | ⟨hw, rfl⟩
  · simp only [hw, if_true, Oper.wp, hv w (.refl _ _), Oper.upon]; exact .inl h
  · simp only [hw, Bool.false_eq_true, if_false]; exact h

theorem yieldsR_unique {n0 : Option Nat} {w : World} {o : Oper} {v v' : Value} {a : Act} (h : YieldsR P ops n0 w o v a) (h' : YieldsR P ops n0 w o v' a) : v = v' := by
  rcases h with ⟨h1, h2⟩ | ⟨h1, h2⟩ <;> rcases h' with ⟨k1, k2⟩ | ⟨k1, k2⟩
  · have e := (h2 w (.refl _ _)).symm.trans (k2 w (.refl _ _))
    injection e with e; injection e
  · rw [h1] at k1; cases k1
  · rw [h1] at k1; cases k1
  · rw [h2, k2]

theorem yields_unique {o : Oper} {v v' : Value} {a : Act} (h : Yields P ops o v a) (h' : Yields P ops o v' a) : v = v' := by
  rcases h with ⟨h1, h2⟩ | ⟨h1, h2⟩ <;> rcases h' with ⟨k1, k2⟩ | ⟨k1, k2⟩
  · have e := (h2 default).symm.trans (k2 default)
    injection e with e; injection e
  · rw [h1] at k1; cases k1
  · rw [h1] at k1; cases k1
  · rw [h2, k2]

/-- One operation, by its class: pure (no look at the world), a read (the world stays), one that leaves what there is as it is, anything else. -/
def stepC (P : Program) (ops : Array Oper) (cls : Oper → Cls) (n0 : Option Nat) (i : Nat) (K : Act → World → Prop) (a : Act) (w : World) : Prop :=
  match ops[i]? with
  | none => False
  | some o =>
    match cls o with
    | .pure => ∃ v, Yields P ops o v a ∧ K (a.put o.dst v) w
    | .read => ∃ v, YieldsR P ops n0 w o v a ∧ K (a.put o.dst v) w
    | .ext => wpOp P ops noEnd i (fun a' w' => Agree n0 w w' ∧ K a' w') a w
    | .eff => wpOp P ops noEnd i K a w

def runC (P : Program) (ops : Array Oper) (cls : Oper → Cls) (n0 : Option Nat) (K : Act → World → Prop) : List Nat → Act → World → Prop
  | [] => K
  | i :: l => stepC P ops cls n0 i (runC P ops cls n0 K l)

theorem stepC_mono {cls : Oper → Cls} {n0 : Option Nat} {i : Nat} {K K' : Act → World → Prop} (hk : ∀ a w, K a w → K' a w) {a : Act} {w : World}
    (h : stepC P ops cls n0 i K a w) : stepC P ops cls n0 i K' a w := by
  unfold stepC at *
  cases ho : ops[i]? with
  | none => simp [ho] at h
  | some o =>
    simp only [ho] at h ⊢
    cases hc : cls o <;> simp only [hc] at h ⊢
    · obtain ⟨v, h1, h2⟩ := h; exact ⟨v, h1, hk _ _ h2⟩
    · obtain ⟨v, h1, h2⟩ := h; exact ⟨v, h1, hk _ _ h2⟩
    · exact wpOp_mono (fun a w h => ⟨h.1, hk _ _ h.2⟩) h
    · exact wpOp_mono hk h

theorem wpOp_end {Q : Exit → Act → World → Prop} {i : Nat} {K : Act → World → Prop} {a : Act} {w : World} (h : wpOp P ops noEnd i K a w) : wpOp P ops Q i K a w := by
  unfold wpOp at *
  cases ho : ops[i]? with
  | none => simpa [ho] using h
  | some o =>
    simp only [ho] at h ⊢
    split
    · rename_i hw
      rw [if_pos hw] at h
      rcases h with h | ⟨_, _, _, h⟩
      case inr => exact h.elim
      refine .inl ?_
      unfold Oper.wp at *
      generalize (execOp a.eval o).run P w = r at *
      cases r with
      | ok n w' =>
        cases n <;> simp only [Oper.upon] at h ⊢ <;> first | exact h | exact h.elim | skip
        case enter f args =>
          refine Calls.mono h fun e w'' he => ?_
          cases e with
          | returned v => exact he
          | panicked c => exact he.elim
          | outgrown => obtain ⟨_, _, hf⟩ := he; exact hf.elim
      | halt x w' => cases x <;> simp only [Oper.upon] at h ⊢ <;> exact h.elim
    · rename_i hw
      rw [if_neg hw] at h
      exact h

theorem wpOp_of_stepC {cls : Oper → Cls} {n0 : Option Nat} {i : Nat} {K : Act → World → Prop} {Q : Exit → Act → World → Prop} {a : Act} {w : World}
    (h : stepC P ops cls n0 i K a w) : wpOp P ops Q i K a w := by
  unfold stepC at h
  cases ho : ops[i]? with
  | none => simp [ho] at h
  | some o =>
    simp only [ho] at h
    cases hc : cls o <;> simp only [hc] at h
    · obtain ⟨v, h1, h2⟩ := h; exact h1.wpOp ho h2
    · obtain ⟨v, h1, h2⟩ := h; exact h1.wpOp ho h2
    · exact wpOp_end (wpOp_mono (fun _ _ h => h.2) h)
    · exact wpOp_end h

/-- The ends of an operation: the frame is the old one with other defers and one value put. -/
theorem wpOp_shape {j : Nat} {oj : Oper} (hj : ops[j]? = some oj) {K : Act → World → Prop} {a : Act} {w : World} (h : wpOp P ops noEnd j K a w) :
    wpOp P ops noEnd j (fun a' w' => (∃ (u : Value) (d : List Deferred), a' = ({ a with defers := d } : Act).put oj.dst u) ∧ K a' w') a w := by
  unfold wpOp at *
  simp only [hj] at h ⊢
  split
  · rename_i hw
    rw [if_pos hw] at h
    rcases h with h | ⟨_, _, _, h⟩
    case inr => exact h.elim
    refine .inl ?_
    unfold Oper.wp at *
    generalize (execOp a.eval oj).run P w = r at *
    cases r with
    | ok n w' =>
      cases n <;> simp only [Oper.upon] at h ⊢
      case value u => exact ⟨⟨u, a.defers, rfl⟩, h⟩
      case skip => exact ⟨⟨undef, a.defers, rfl⟩, h⟩
      case defer d => exact ⟨⟨undef, d :: a.defers, rfl⟩, h⟩
      case enter f args =>
        refine Calls.mono h fun e w'' he => ?_
        cases e with
        | returned u => exact ⟨⟨u, a.defers, rfl⟩, he⟩
        | panicked c => exact he
        | outgrown => exact he
      case row row args => exact Rows.mono h fun u w'' he => ⟨⟨u, a.defers, rfl⟩, he⟩
    | halt x w' => cases x <;> simp only [Oper.upon] at h ⊢ <;> exact h
  · rename_i hw
    rw [if_neg hw] at h
    exact ⟨⟨undef, a.defers, rfl⟩, h⟩

/-- There is an end. -/
theorem wpOp_some {j : Nat} {K : Act → World → Prop} {a : Act} {w : World} (h : wpOp P ops noEnd j K a w) : ∃ a' w', K a' w' := by
  unfold wpOp at h
  cases hj : ops[j]? with
  | none => simp only [hj] at h; exact ⟨_, _, h⟩
  | some oj =>
    simp only [hj] at h
    split at h
    · rcases h with h | ⟨_, _, _, h⟩
      case inr => exact h.elim
      unfold Oper.wp at h
      generalize (execOp a.eval oj).run P w = r at *
      cases r with
      | ok n w' =>
        cases n <;> simp only [Oper.upon] at h <;> first | exact h.elim | exact ⟨_, _, h⟩ | skip
        case enter f args =>
          obtain ⟨e, w'', fr, hR, _⟩ := h []
          cases e with
          | returned v => exact ⟨_, _, hR⟩
          | panicked c => exact hR.elim
          | outgrown => obtain ⟨_, _, hf⟩ := hR; exact hf.elim
        case row row args =>
          obtain ⟨v, w'', hR, _⟩ := h default []
          exact ⟨_, _, hR⟩
      | halt x w' => cases x <;> simp only [Oper.upon] at h <;> exact h.elim
    · exact ⟨_, _, h⟩

/-- What stands behind an operation is taken ahead of it. -/
theorem wpOp_put_last {j : Nat} {oi oj : Oper} (hj : ops[j]? = some oj) (hap : oi.apart ops oj = true) (hsj : ∀ cs b, oj.op ≠ .select cs b)
    {K : Act → World → Prop} {a : Act} {w : World} {v : Value}
    (h : wpOp P ops noEnd j (fun a' w' => K (a'.put oi.dst v) w') a w) : wpOp P ops noEnd j K (a.put oi.dst v) w := by
  obtain ⟨h1, h2, h3⟩ := Oper.apart_spec hap
  unfold wpOp at *
  simp only [hj] at h ⊢
  rw [wanted_put oj a oi.dst v h1]
  split
  · rename_i hw
    rw [if_pos hw] at h
    rcases h with h | ⟨_, _, _, h⟩
    case inr => exact h.elim
    refine .inl ?_
    unfold Oper.wp at *
    rw [execOp_put oj hsj a oi.dst v h1]
    generalize (execOp a.eval oj).run P w = r at *
    cases r with
    | ok n w' =>
      cases n <;> simp only [Oper.upon] at h ⊢
      case value u => rw [Act.put_comm a v u h2]; exact h
      case skip => rw [Act.put_comm a v undef h2]; exact h
      case defer d => rw [Act.put_defers, Act.put_comm _ v undef h2]; exact h
      case enter f args =>
        refine Calls.mono h fun e w'' he => ?_
        cases e with
        | returned u => show K ((a.put oi.dst v).put oj.dst u) w''; rw [Act.put_comm a v u h2]; exact he
        | panicked c => exact he
        | outgrown => exact he
      case row row args => exact Rows.mono h fun u w'' he => by rw [Act.put_comm a v u h2]; exact he
    | halt x w' => cases x <;> simp only [Oper.upon] at h ⊢ <;> exact h
  · rename_i hw
    rw [if_neg hw] at h
    rw [Act.put_comm a v undef h2]
    exact h

/-- What was put ahead of an operation is put behind it. -/
theorem wpOp_put_first {j : Nat} {oi oj : Oper} (hj : ops[j]? = some oj) (hap : oi.apart ops oj = true) (hsj : ∀ cs b, oj.op ≠ .select cs b)
    {K : Act → World → Prop} {a : Act} {w : World} {v : Value}
    (h : wpOp P ops noEnd j K (a.put oi.dst v) w) :
    wpOp P ops noEnd j (fun a' w' => (∃ (u : Value) (d : List Deferred), a' = ({ a with defers := d } : Act).put oj.dst u) ∧ K (a'.put oi.dst v) w') a w := by
  obtain ⟨h1, h2, h3⟩ := Oper.apart_spec hap
  unfold wpOp at *
  simp only [hj] at h ⊢
  rw [wanted_put oj a oi.dst v h1] at h
  split
  · rename_i hw
    rw [if_pos hw] at h
    rcases h with h | ⟨_, _, _, h⟩
    case inr => exact h.elim
    refine .inl ?_
    unfold Oper.wp at *
    rw [execOp_put oj hsj a oi.dst v h1] at h
    generalize (execOp a.eval oj).run P w = r at *
    cases r with
    | ok n w' =>
      cases n <;> simp only [Oper.upon] at h ⊢
      case value u => exact ⟨⟨u, a.defers, rfl⟩, by rw [← Act.put_comm a v u h2]; exact h⟩
      case skip => exact ⟨⟨undef, a.defers, rfl⟩, by rw [← Act.put_comm a v undef h2]; exact h⟩
      case defer d => exact ⟨⟨undef, d :: a.defers, rfl⟩, by rw [← Act.put_comm _ v undef h2, ← Act.put_defers]; exact h⟩
      case enter f args =>
        refine Calls.mono h fun e w'' he => ?_
        cases e with
        | returned u => exact ⟨⟨u, a.defers, rfl⟩, by rw [← Act.put_comm a v u h2]; exact he⟩
        | panicked c => exact he
        | outgrown => exact he
      case row row args => exact Rows.mono h fun u w'' he => ⟨⟨u, a.defers, rfl⟩, by rw [← Act.put_comm a v u h2]; exact he⟩
    | halt x w' => cases x <;> simp only [Oper.upon] at h ⊢ <;> exact h
  · rename_i hw
    rw [if_neg hw] at h
    exact ⟨⟨undef, a.defers, rfl⟩, by rw [← Act.put_comm a v undef h2]; exact h⟩

theorem execOp_defers (o : Oper) (a : Act) (d : List Deferred) : execOp ({ a with defers := d } : Act).eval o = execOp a.eval o := by
  have : ({ a with defers := d } : Act).eval = a.eval := by funext x; cases x <;> rfl
  rw [this]

theorem apart_symm {x y : Oper} (h : x.apart ops y = true) : y.apart ops x = true := by
  obtain ⟨h1, h2, h3⟩ := Oper.apart_spec h
  simp only [Oper.apart, Bool.and_eq_true]
  refine ⟨?_, ?_⟩
  · cases hd : y.dst with
    | none => rfl
    | some d =>
      simp only [Bool.and_eq_true, Bool.not_eq_true', bne_iff_ne, ne_eq]
      exact ⟨by simpa using h3 d hd, fun hc => h2 d hc hd⟩
  · cases hd : x.dst with
    | none => rfl
    | some d => simpa using h1 d hd

/-- Two operations that don't hang on each other, the one that stands first in the text put behind. -/
theorem stepC_swap {cls : Oper → Cls} {n0 : Option Nat} {i j : Nat} {oi oj : Oper} (hi : ops[i]? = some oi) (hj : ops[j]? = some oj)
    (hap : oi.apart ops oj = true) (hcp : (cls oj).compat (cls oi) = true)
    (hsi : ∀ cs b, oi.op ≠ .select cs b) (hsj : ∀ cs b, oj.op ≠ .select cs b)
    {K : Act → World → Prop} {a : Act} {w : World} (h : stepC P ops cls n0 j (stepC P ops cls n0 i K) a w) : stepC P ops cls n0 i (stepC P ops cls n0 j K) a w := by
  obtain ⟨h1, h2, h3⟩ := Oper.apart_spec hap
  have wi : ∀ (a : Act) u, Region.wanted oi (yielded ops (a.put oj.dst u).tmps) = Region.wanted oi (yielded ops a.tmps) := fun a u => wanted_put oi a oj.dst u h3
  have wj : ∀ (a : Act) u, Region.wanted oj (yielded ops (a.put oi.dst u).tmps) = Region.wanted oj (yielded ops a.tmps) := fun a u => wanted_put oj a oi.dst u h1
  have ei : ∀ (a : Act) u, execOp (a.put oj.dst u).eval oi = execOp a.eval oi := fun a u => execOp_put oi hsi a oj.dst u h3
  have ej : ∀ (a : Act) u, execOp (a.put oi.dst u).eval oj = execOp a.eval oj := fun a u => execOp_put oj hsj a oi.dst u h1
  have cm : ∀ (a : Act) (u v : Value), (a.put oi.dst u).put oj.dst v = (a.put oj.dst v).put oi.dst u := fun a u v => Act.put_comm a u v h2
  have di : ∀ d : List Deferred, Region.wanted oi (yielded ops ({ a with defers := d } : Act).tmps) = Region.wanted oi (yielded ops a.tmps) := fun _ => rfl
  -- what a pure operation or a read behind an effect says, ahead of it
  have last : ∀ (Y : World → Value → Act → Prop) (G : World → Prop) (K : Act → World → Prop),
      (∀ w' v d u, G w' → Y w' v (({ a with defers := d } : Act).put oj.dst u) → Y w v a) → (∀ v v', Y w v a → Y w v' a → v = v') →
      wpOp P ops noEnd j (fun a' w' => G w' ∧ ∃ v, Y w' v a' ∧ K (a'.put oi.dst v) w') a w → ∃ v, Y w v a ∧ wpOp P ops noEnd j (fun a' w' => G w' ∧ K a' w') (a.put oi.dst v) w := by
    intro Y G K hb hu h
    obtain ⟨a', w', ⟨v0, d0, rfl⟩, hg, u, hy, _⟩ := wpOp_some (wpOp_shape hj h)
    have hua := hb w' u d0 v0 hg hy
    refine ⟨u, hua, wpOp_put_last hj hap hsj (wpOp_mono ?_ (wpOp_shape hj h))⟩
    rintro a' w' ⟨⟨v1, d1, rfl⟩, hg, u', hu', hK⟩
    have := hu _ _ hua (hb w' u' d1 v1 hg hu')
    subst this
    exact ⟨hg, hK⟩
  have hap' := apart_symm hap
  unfold stepC at h ⊢
  simp only [hi, hj] at h ⊢
  cases ci : cls oi <;> cases cj : cls oj <;> simp only [ci, cj, Cls.compat, Bool.false_eq_true] at hcp h ⊢
  -- oi pure
  · obtain ⟨v, hv, u, hu, h⟩ := h
    exact ⟨u, hu.of_same (ei a v).symm (wi a v).symm, v, hv.of_same (ej a u) (wj a u), by rw [cm]; exact h⟩
  · obtain ⟨v, hv, u, hu, h⟩ := h
    exact ⟨u, hu.of_same (ei a v).symm (wi a v).symm, v, hv.of_same (ej a u) (wj a u), by rw [cm]; exact h⟩
  · exact last (fun _ v a => Yields P ops oi v a) (fun w' => Agree n0 w w') K
      (fun w' v d u _ hy => (hy.of_same (ei _ u).symm (wi _ u).symm).of_same (execOp_defers oi a d).symm rfl) (fun _ _ => yields_unique) h
  · obtain ⟨u, hu, h⟩ := last (fun _ v a => Yields P ops oi v a) (fun _ => True) K
      (fun w' v d u _ hy => (hy.of_same (ei _ u).symm (wi _ u).symm).of_same (execOp_defers oi a d).symm rfl) (fun _ _ => yields_unique) (wpOp_mono (fun _ _ h => ⟨trivial, h⟩) h)
    exact ⟨u, hu, wpOp_mono (fun _ _ h => h.2) h⟩
  -- oi a read
  · obtain ⟨v, hv, u, hu, h⟩ := h
    exact ⟨u, hu.of_same (ei a v).symm (wi a v).symm, v, hv.of_same (ej a u) (wj a u), by rw [cm]; exact h⟩
  · obtain ⟨v, hv, u, hu, h⟩ := h
    exact ⟨u, hu.of_same (ei a v).symm (wi a v).symm, v, hv.of_same (ej a u) (wj a u), by rw [cm]; exact h⟩
  · exact last (fun w v a => YieldsR P ops n0 w oi v a) (fun w' => Agree n0 w w') K
      (fun w' v d u hg hy => ((hy.of_same (ei _ u).symm (wi _ u).symm).of_same (execOp_defers oi a d).symm rfl).agree hg.symm) (fun _ _ => yieldsR_unique) h
  -- oi an extension
  · obtain ⟨v, hv, h⟩ := h
    refine wpOp_mono ?_ (wpOp_put_first hi hap' hsi h)
    rintro a' w' ⟨⟨u, d, rfl⟩, hg, hK⟩
    exact ⟨hg, v, (hv.of_same (execOp_defers oj a d) rfl).of_same (ej _ u) (wj _ u), hK⟩
  · obtain ⟨v, hv, h⟩ := h
    refine wpOp_mono ?_ (wpOp_put_first hi hap' hsi h)
    rintro a' w' ⟨⟨u, d, rfl⟩, hg, hK⟩
    exact ⟨hg, v, ((hv.of_same (execOp_defers oj a d) rfl).of_same (ej _ u) (wj _ u)).agree hg, hK⟩
  -- oi an effect
  · obtain ⟨v, hv, h⟩ := h
    refine wpOp_mono ?_ (wpOp_put_first hi hap' hsi h)
    rintro a' w' ⟨⟨u, d, rfl⟩, hK⟩
    exact ⟨v, (hv.of_same (execOp_defers oj a d) rfl).of_same (ej _ u) (wj _ u), hK⟩

theorem runC_front {cls : Oper → Cls} {n0 : Option Nat} {i : Nat} {oi : Oper} (hi : ops[i]? = some oi) (hsel : ∀ (j : Nat) (o : Oper) cs b, ops[j]? = some o → o.op ≠ .select cs b)
    (r2 : List Nat) (K : Act → World → Prop) : ∀ (r1 : List Nat) (a : Act) (w : World),
      (∀ j ∈ r1, ∃ oj, ops[j]? = some oj ∧ oi.apart ops oj = true ∧ (cls oj).compat (cls oi) = true) →
      runC P ops cls n0 K (r1 ++ i :: r2) a w → stepC P ops cls n0 i (runC P ops cls n0 K (r1 ++ r2)) a w := by
  intro r1
  induction r1 with
  | nil => intro a w _ h; exact h
  | cons j r1 ih =>
    intro a w hr h
    obtain ⟨oj, hj, hap, hcp⟩ := hr j (List.mem_cons_self ..)
    have h' : stepC P ops cls n0 j (stepC P ops cls n0 i (runC P ops cls n0 K (r1 ++ r2))) a w :=
      stepC_mono (fun a w h => ih a w (fun k hk => hr k (List.mem_cons_of_mem _ hk)) h) h
    exact stepC_swap hi hj hap hcp (fun cs b => hsel i oi cs b hi) (fun cs b => hsel j oj cs b hj) h'

/-! What must stand ahead of what: masks, checked row by row. -/
def preds (o : Oper) : List Nat := (o.after.toList.filter (Region.binds .any)).map (·.on)
def maskOf (M : List Nat) (o : Oper) : Nat := (preds o).foldl (fun s e => s ||| (2 ^ e ||| M.getD e 0)) 0

def orderOk (cls : Oper → Cls) (ops : Array Oper) (M : List Nat) : Bool :=
  Region.noSelect ops &&
  (List.range ops.size).all fun i =>
    match ops[i]? with
    | none => false
    | some oi =>
      (preds oi).all (fun e => decide (e < i)) &&
      (M.getD i 0 ||| maskOf M oi == maskOf M oi) &&
      (List.range i).all fun j => (M.getD i 0).testBit j || match ops[j]? with
        | none => false
        | some oj => oi.apart ops oj && (cls oj).compat (cls oi)

theorem foldl_mask (M : List Nat) (l : List Nat) : ∀ (s j : Nat), (l.foldl (fun s e => s ||| (2 ^ e ||| M.getD e 0)) s).testBit j = true →
    s.testBit j = true ∨ ∃ e ∈ l, e = j ∨ (M.getD e 0).testBit j = true := by
  induction l with
  | nil => intro s j h; exact .inl h
  | cons e l ih =>
    intro s j h
    rcases ih _ j h with h | ⟨e', he, h⟩
    · rw [Nat.testBit_or, Nat.testBit_or] at h
      simp only [Bool.or_eq_true] at h
      rcases h with h | h | h
      · exact .inl h
      · refine .inr ⟨e, List.mem_cons_self .., .inl ?_⟩
        rw [Nat.testBit_two_pow] at h
        simpa using h
      · exact .inr ⟨e, List.mem_cons_self .., .inr h⟩
    · exact .inr ⟨e', List.mem_cons_of_mem _ he, h⟩

structure OrderOk (cls : Oper → Cls) (ops : Array Oper) (M : List Nat) : Prop where
  nosel : Region.noSelect ops = true
  back : ∀ i oi, ops[i]? = some oi → ∀ e ∈ preds oi, e < i
  mask : ∀ i oi, ops[i]? = some oi → ∀ j, (M.getD i 0).testBit j = true → ∃ e ∈ preds oi, e = j ∨ (M.getD e 0).testBit j = true
  free : ∀ i oi, ops[i]? = some oi → ∀ j, j < i → (M.getD i 0).testBit j = true ∨ ∃ oj, ops[j]? = some oj ∧ oi.apart ops oj = true ∧ (cls oj).compat (cls oi) = true

theorem orderOk_spec {cls : Oper → Cls} {M : List Nat} (h : orderOk cls ops M = true) : OrderOk cls ops M := by
  simp only [orderOk, Bool.and_eq_true, List.all_eq_true, List.mem_range] at h
  obtain ⟨hs, h⟩ := h
  have key : ∀ i oi, ops[i]? = some oi → ((∀ e ∈ preds oi, e < i) ∧ (M.getD i 0 ||| maskOf M oi) = maskOf M oi) ∧
      ∀ j, j < i → (M.getD i 0).testBit j = true ∨ ∃ oj, ops[j]? = some oj ∧ oi.apart ops oj = true ∧ (cls oj).compat (cls oi) = true := by
    intro i oi hi
    have h1 := h i (Array.getElem?_eq_some_iff.1 hi).1
    simp only [hi, Bool.and_eq_true, List.all_eq_true, decide_eq_true_eq, beq_iff_eq, List.mem_range, Bool.or_eq_true] at h1
    refine ⟨h1.1, fun j hj => ?_⟩
    rcases h1.2 j hj with h2 | h2
    · exact .inl h2
    · refine .inr ?_
      cases hoj : ops[j]? with
      | none => simp [hoj] at h2
      | some oj => simp only [hoj, Bool.and_eq_true] at h2; exact ⟨oj, rfl, h2⟩
  refine ⟨hs, fun i oi hi => (key i oi hi).1.1, fun i oi hi j hj => ?_, fun i oi hi => (key i oi hi).2⟩
  have h2 : (maskOf M oi).testBit j = true := by
    rw [← (key i oi hi).1.2, Nat.testBit_or, hj, Bool.true_or]
  rcases foldl_mask M (preds oi) 0 j h2 with h3 | h3
  · simp at h3
  · exact h3

theorem mem_preds {o : Oper} {e : Nat} : e ∈ preds o ↔ ∃ x ∈ o.after, Region.binds .any x = true ∧ x.on = e := by
  unfold preds
  simp only [List.mem_map, List.mem_filter, Array.mem_toList_iff]
  constructor
  · rintro ⟨x, ⟨h1, h2⟩, h3⟩; exact ⟨x, h1, h2, h3⟩
  · rintro ⟨x, h1, h2, h3⟩; exact ⟨x, ⟨h1, h2⟩, h3⟩

def Closed (ops : Array Oper) (listed : Array Bool) : Prop :=
  listed.size = ops.size ∧ ∀ i oi, ops[i]? = some oi → listed.getD i false = true → ∀ e ∈ preds oi, listed.getD e false = true

theorem closed_mask {cls : Oper → Cls} {M : List Nat} (ok : OrderOk cls ops M) {listed : Array Bool} (hc : Closed ops listed) :
    ∀ i, listed.getD i false = true → ∀ j, (M.getD i 0).testBit j = true → (∃ oi, ops[i]? = some oi) → listed.getD j false = true := by
  intro i
  induction i using Nat.strongRecOn with
  | _ i ih =>
    rintro hl j hj ⟨oi, hi⟩
    obtain ⟨e, he, h⟩ := ok.mask i oi hi j hj
    have hle := hc.2 i oi hi hl e he
    rcases h with rfl | h
    · exact hle
    · have hei := ok.back i oi hi e he
      have hlt : e < ops.size := Nat.lt_trans hei (Array.getElem?_eq_some_iff.1 hi).1
      exact ih e hei hle j h ⟨_, Array.getElem?_eq_getElem hlt⟩

def rest (listed : Array Bool) (n : Nat) : List Nat := (List.range n).filter fun i => !listed.getD i true

theorem rest_split {listed : Array Bool} {n i : Nat} (hn : listed.size = n) (hi : i < n) (hl : listed.getD i true = false) :
    ∃ r1 r2, rest listed n = r1 ++ i :: r2 ∧ rest (listed.setIfInBounds i true) n = r1 ++ r2 ∧ ∀ j ∈ r1, j < i ∧ listed.getD j true = false := by
  have hsp : List.range n = List.range i ++ i :: (List.range (n - i - 1)).map (fun k => i + 1 + k) := by
    have h1 : n = i + (1 + (n - i - 1)) := by omega
    conv => lhs; rw [h1]
    rw [List.range_add, List.range_add]
    simp [List.map_map, Function.comp_def, Nat.add_assoc]
  have hother : ∀ j, j ≠ i → (listed.setIfInBounds i true).getD j true = listed.getD j true := fun j hj => getD_set_ne true (Ne.symm hj)
  have hself : (listed.setIfInBounds i true).getD i true = true := by
    have hlt : i < listed.size := by omega
    simp [Array.getD_eq_getD_getElem?, hlt]
  refine ⟨(List.range i).filter (fun j => !listed.getD j true), ((List.range (n - i - 1)).map (fun k => i + 1 + k)).filter (fun j => !listed.getD j true), ?_, ?_, ?_⟩
  · unfold rest
    rw [hsp, List.filter_append, List.filter_cons, if_pos (by simp [hl])]
  · unfold rest
    rw [hsp, List.filter_append, List.filter_cons, if_neg (by rw [hself]; simp)]
    congr 1
    · exact List.filter_congr fun j hj => by rw [hother j (by have := List.mem_range.1 hj; omega)]
    · refine List.filter_congr fun j hj => ?_
      obtain ⟨k, _, rfl⟩ := List.mem_map.1 hj
      rw [hother _ (by omega)]
  · intro j hj
    rw [List.mem_filter, List.mem_range] at hj
    exact ⟨hj.1, by simpa using hj.2⟩

theorem getD_tf {listed : Array Bool} {i : Nat} (hi : i < listed.size) : listed.getD i true = listed.getD i false := by
  simp [Array.getD_eq_getD_getElem?, hi]

theorem wpAny_text {cls : Oper → Cls} {n0 : Option Nat} {M : List Nat} (ok : OrderOk cls ops M) {Q : Exit → Act → World → Prop} {K : Act → World → Prop} (hK : ∀ a w, K a w → Q .normal a w) :
    ∀ (fuel : Nat) (listed : Array Bool) (a : Act) (w : World), (rest listed ops.size).length = fuel → Closed ops listed →
      runC P ops cls n0 K (rest listed ops.size) a w → wpAny P .any ops Q fuel listed a w := by
  intro fuel
  induction fuel with
  | zero =>
    intro listed a w hf hc h
    have h0 : rest listed ops.size = [] := List.eq_nil_of_length_eq_zero hf
    rw [h0] at h
    refine ⟨List.eq_nil_iff_forall_not_mem.2 fun i hi => ?_, hK _ _ h⟩
    obtain ⟨hl, o, ho, _⟩ := mem_ready.1 hi
    have hlt := (Array.getElem?_eq_some_iff.1 ho).1
    obtain ⟨r1, r2, hr, _⟩ := rest_split hc.1 hlt hl
    rw [h0] at hr
    simp at hr
  | succ fuel ih =>
    intro listed a w hf hc h
    constructor
    · intro hr
      -- the least that isn't listed is ready
      exfalso
      cases hrs : rest listed ops.size with
      | nil => rw [hrs] at hf; simp at hf
      | cons i r2 =>
        have hmem : i ∈ rest listed ops.size := by rw [hrs]; exact List.mem_cons_self ..
        unfold rest at hmem
        rw [List.mem_filter, List.mem_range] at hmem
        have hl : listed.getD i true = false := by simpa using hmem.2
        obtain ⟨r1, r2', hs, _, hlt⟩ := rest_split hc.1 hmem.1 hl
        have hr1 : r1 = [] := by
          cases r1 with
          | nil => rfl
          | cons j r1 =>
            have := hlt j (List.mem_cons_self ..)
            rw [hrs] at hs
            simp only [List.cons_append, List.cons.injEq] at hs
            omega
        have : i ∈ Region.ready .any ops listed := by
          refine mem_ready.2 ⟨hl, _, Array.getElem?_eq_getElem hmem.1, fun e he hb => ?_⟩
          have hei := ok.back i _ (Array.getElem?_eq_getElem hmem.1) e.on (mem_preds.2 ⟨e, he, hb, rfl⟩)
          have hesz : e.on < listed.size := by rw [hc.1]; omega
          cases hle : listed.getD e.on false with
          | true => rfl
          | false =>
            exfalso
            have hin : e.on ∈ rest listed ops.size := by
              unfold rest
              rw [List.mem_filter, List.mem_range]
              exact ⟨by omega, by rw [getD_tf hesz, hle]; rfl⟩
            rw [hs, hr1] at hin
            simp only [List.nil_append, List.mem_cons] at hin
            rcases hin with hin | hin
            · omega
            · -- behind i: all are greater
              have hsorted : (rest listed ops.size).Pairwise (· < ·) := List.Pairwise.filter _ (List.pairwise_lt_range (n := ops.size))
              rw [hs, hr1, List.nil_append, List.pairwise_cons] at hsorted
              have := hsorted.1 _ hin
              omega
        rw [hr] at this
        cases this
    · intro i hi
      obtain ⟨hl, oi, hoi, hall⟩ := mem_ready.1 hi
      have hlt := (Array.getElem?_eq_some_iff.1 hoi).1
      obtain ⟨r1, r2, hs, hs', hr1⟩ := rest_split hc.1 hlt hl
      have hclosed : Closed ops (listed.setIfInBounds i true) := by
        refine ⟨by simp [hc.1], fun k ok' hk hlk e he => ?_⟩
        by_cases hki : k = i
        · subst hki
          have : ok' = oi := Option.some.inj (hk.symm.trans hoi)
          subst this
          obtain ⟨x, hx, hb, rfl⟩ := mem_preds.1 he
          exact getD_set_true (hall x hx hb)
        · rw [getD_set_ne false (Ne.symm hki)] at hlk
          exact getD_set_true (hc.2 k ok' hk hlk e he)
      rw [hs] at h
      have hfr := runC_front hoi (Region.noSelect_spec ok.nosel) r2 K r1 a w (fun j hj => by
        obtain ⟨hji, hjl⟩ := hr1 j hj
        rcases ok.free i oi hoi j hji with hm | hm
        · exfalso
          obtain ⟨e, he, h⟩ := ok.mask i oi hoi j hm
          obtain ⟨x, hx, hb, rfl⟩ := mem_preds.1 he
          have hle := hall x hx hb
          have hjsz : j < listed.size := by rw [hc.1]; omega
          rw [getD_tf hjsz] at hjl
          rcases h with h | h
          · rw [h, hjl] at hle; cases hle
          · have hei := ok.back i oi hoi x.on he
            have h2 := closed_mask ok hc x.on hle j h ⟨_, Array.getElem?_eq_getElem (Nat.lt_trans hei hlt)⟩
            rw [hjl] at h2; cases h2
        · exact hm) h
      refine wpOp_of_stepC (stepC_mono (fun a' w' h' => ih _ a' w' ?_ hclosed (by rw [hs']; exact h')) hfr)
      rw [hs'] ; rw [hs] at hf
      simp at hf ⊢
      omega

theorem wp_region_text {cls : Oper → Cls} {n0 : Option Nat} {M : List Nat} (hm : P.follows .mixedOrders = true) (hok : orderOk cls ops M = true) {id : Nat} {Q : Exit → Act → World → Prop} {K : Act → World → Prop}
    (hK : ∀ a w, K a w → Q .normal a w) {a : Act} {w : World} (h : runC P ops cls n0 K (List.range ops.size) a { w with drawn := w.drawn + 1 }) : (Code.region id ops true).wp P Q a w := by
  have hr : rest (Array.replicate ops.size false) ops.size = List.range ops.size := by
    unfold rest
    rw [List.filter_eq_self]
    intro i hi
    have := List.mem_range.1 hi
    simp [this]
  refine wp_region_any hm (wpAny_text (orderOk_spec hok) hK ops.size _ a _ (by rw [hr]; simp) ⟨by simp, fun i oi hi hl => ?_⟩ (by rw [hr]; exact h))
  have hlt := (Array.getElem?_eq_some_iff.1 hi).1
  simp [hlt] at hl

theorem wpOps_of_runC {cls : Oper → Cls} {n0 : Option Nat} {Q : Exit → Act → World → Prop} {K : Act → World → Prop} (hK : ∀ a w, K a w → Q .normal a w) :
    ∀ (l : List Nat) (a : Act) (w : World), runC P ops cls n0 K l a w → wpOps P ops Q l a w := by
  intro l
  induction l with
  | nil => intro a w h; exact hK _ _ h
  | cons i l ih =>
    intro a w h
    rw [wpOps_cons]
    exact wpOp_of_stepC (stepC_mono ih h)

theorem wp_region_plain {cls : Oper → Cls} {n0 : Option Nat} {id : Nat} {Q : Exit → Act → World → Prop} {K : Act → World → Prop}
    (hK : ∀ a w, K a w → Q .normal a w) {a : Act} {w : World} (h : runC P ops cls n0 K (List.range ops.size) a w) : (Code.region id ops false).wp P Q a w :=
  wp_region (wpOps_of_runC hK _ _ _ h)
end
end Go.Hx
