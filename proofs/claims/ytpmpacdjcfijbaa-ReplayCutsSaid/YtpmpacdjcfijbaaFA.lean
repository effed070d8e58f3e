/- Words and facts that the claim's proof leans on. No condition. -/
import Derived.Test.YtpmpacdjcfijbaaEC
import Derived.Test.YtpmpacdjcfijbaaSA
import Derived.Test.YtpmpacdjcfijbaaSI
import Derived.Test.YtpmpacdjcfijbaaSL
/- A folded circuit is right: its definitions. No condition. -/
set_option linter.unusedVariables false
set_option linter.unusedSimpArgs false
namespace Go.Hx
/-- A chapter of definitions that are right. -/
theorem defG_succ {α : Type} {mx k : Int} {f g : α → Int} (hmx : 0 ≤ mx) (K : List Mk → DR) (L : List α) :
    ∀ (l : List α) (i : Nat) (B : List Mk), L.drop i = l → B.length = (mx + 1).toNat → (∀ (j : Nat) x, i ≤ j → L[j]? = some x → 2 ≤ f x ∧ f x % 2 = 0 ∧ f x ≤ 2 * mx ∧ g x = 0 ∧ (B.getD (f x / 2).toNat (0, 0)).1 = 0) →
      (∀ (j j' : Nat) x x', i ≤ j → j < j' → L[j]? = some x → L[j']? = some x' → f x ≠ f x') →
      ∃ B', defG mx k f g l i B K = K B' ∧ B'.length = B.length ∧ (∀ j : Nat, (∀ (i' : Nat) x, i ≤ i' → L[i']? = some x → (f x / 2).toNat ≠ j) → B'[j]? = B[j]?)
  | [], i, B, hd, hl, hx, hne => ⟨B, rfl, rfl, fun j _ => rfl⟩
  | y :: r, i, B, hd, hl, hx, hne => by
    have hi : i < L.length := by
      refine Decidable.byContradiction fun h => ?_
      rw [List.drop_of_length_le (by omega)] at hd
      cases hd
    have hdc := List.drop_eq_getElem_cons hi
    rw [hd] at hdc
    obtain ⟨hy, hr⟩ := List.cons.inj hdc
    have hLi : L[i]? = some y := by rw [List.getElem?_eq_getElem hi, hy]
    obtain ⟨k1, k2, k3, k4, k5⟩ := hx i y (Nat.le_refl _) hLi
    have hm : mk1 mx B (f y) = 0 := by
      unfold mk1
      rw [if_neg (by omega), if_pos k5]
    obtain ⟨B', e1, e2, e3⟩ := defG_succ hmx K L r (i + 1) (put1 B (f y) k i) hr.symm (by simp [put1, hl]) (fun j x hij hjx => by
      obtain ⟨m1, m2, m3, m4, m5⟩ := hx j x (by omega) hjx
      refine ⟨m1, m2, m3, m4, ?_⟩
      have := hne i j y x (Nat.le_refl _) (by omega) hLi hjx
      unfold put1
      rw [List.getD_eq_getElem?_getD, List.getElem?_set_ne (by omega), ← List.getD_eq_getElem?_getD]
      exact m5) (fun j j' x x' hij hjj => hne j j' x x' (by omega) hjj)
    refine ⟨B', ?_, by rw [e2]; simp [put1], fun j hj => ?_⟩
    · rw [defG, if_pos hm, if_pos k4]
      exact e1
    · rw [e3 j fun i' x hi' hx' => hj i' x (by omega) hx']
      unfold put1
      rw [List.getElem?_set_ne (hj i y (Nat.le_refl _) hLi)]
/-- What is asked of a circuit's definitions. -/
structure DOk (C : Circ) : Prop where
  mx : 0 ≤ C.mx
  i : ∀ (i : Nat) x, C.ins[i]? = some x → 2 ≤ x ∧ x % 2 = 0 ∧ x ≤ 2 * C.mx
  l : ∀ (i : Nat) x, C.lats[i]? = some x → 2 ≤ x.a ∧ x.a % 2 = 0 ∧ x.a ≤ 2 * C.mx ∧ rst x = 0
  g : ∀ (i : Nat) x, C.ands[i]? = some x → 2 ≤ x.a ∧ x.a % 2 = 0 ∧ x.a ≤ 2 * C.mx
  ii : ∀ (i j : Nat) x y, i < j → C.ins[i]? = some x → C.ins[j]? = some y → x ≠ y
  ll : ∀ (i j : Nat) x y, i < j → C.lats[i]? = some x → C.lats[j]? = some y → x.a ≠ y.a
  gg : ∀ (i j : Nat) x y, i < j → C.ands[i]? = some x → C.ands[j]? = some y → x.a ≠ y.a
  il : ∀ (i j : Nat) x y, C.ins[i]? = some x → C.lats[j]? = some y → x ≠ y.a
  ig : ∀ (i j : Nat) x y, C.ins[i]? = some x → C.ands[j]? = some y → x ≠ y.a
  lg : ∀ (i j : Nat) x y, C.lats[i]? = some x → C.ands[j]? = some y → x.a ≠ y.a
theorem DOk.defs {C : Circ} (d : DOk C) : (defs C).2.1 = 0 := by
  have hmx := d.mx
  have rep : ∀ j : Nat, ((List.replicate (C.mx + 1).toNat ((0 : Int), (0 : Int))).getD j (0, 0)).1 = 0 := fun j => by
    rw [List.getD_eq_getElem?_getD, List.getElem?_replicate]
    split <;> rfl
  unfold Go.Hx.defs
  obtain ⟨B1, e1, n1, s1⟩ := defG_succ (k := 1) (f := id) (g := fun _ => 0) hmx (fun B => defG C.mx 2 L3.a rst C.lats 0 B fun B => defG C.mx 3 L3.a (fun _ => 0) C.ands 0 B fun B => (0, 0, B)) C.ins C.ins 0 (List.replicate (C.mx + 1).toNat (0, 0)) rfl (by simp)
    (fun j x _ hx => by obtain ⟨a, b, c⟩ := d.i j x hx; exact ⟨a, b, c, rfl, rep _⟩) (fun j j' x x' _ hjj hx hx' => d.ii j j' x x' hjj hx hx')
  have f1 : ∀ y : Int, 2 ≤ y → y % 2 = 0 → (∀ (i : Nat) x, C.ins[i]? = some x → x ≠ y) → (B1.getD (y / 2).toNat (0, 0)).1 = 0 := fun y h2 he hy => by
    rw [List.getD_eq_getElem?_getD, s1 _ fun i x _ hx => by have := hy i x hx; have := d.i i x hx; simp only [id]; omega, ← List.getD_eq_getElem?_getD]
    exact rep _
  obtain ⟨B2, e2, n2, s2⟩ := defG_succ (k := 2) (f := L3.a) (g := rst) hmx (fun B => defG C.mx 3 L3.a (fun _ => 0) C.ands 0 B fun B => (0, 0, B)) C.lats C.lats 0 B1 rfl (by rw [n1]; simp)
    (fun j x _ hx => by obtain ⟨a, b, c, e⟩ := d.l j x hx; exact ⟨a, b, c, e, f1 _ a b fun i x' hx' => d.il i j x' x hx' hx⟩) (fun j j' x x' _ hjj hx hx' => d.ll j j' x x' hjj hx hx')
  obtain ⟨B3, e3, n3, s3⟩ := defG_succ (k := 3) (f := L3.a) (g := fun _ => 0) hmx (fun B => ((0 : Int), (0 : Int), B)) C.ands C.ands 0 B2 rfl (by rw [n2, n1]; simp)
    (fun j x _ hx => by
      obtain ⟨a, b, c⟩ := d.g j x hx
      refine ⟨a, b, c, rfl, ?_⟩
      rw [List.getD_eq_getElem?_getD, s2 _ fun i x' _ hx' => by have := d.lg i j x' x hx' hx; have := d.l i x' hx'; omega, ← List.getD_eq_getElem?_getD]
      exact f1 _ a b fun i x' hx' => d.ig i j x' x hx' hx) (fun j j' x x' _ hjj hx hx' => d.gg j j' x x' hjj hx hx')
  rw [show ((0 : Nat) : Int) = 0 from rfl] at e1 e2 e3
  rw [e1]
  rw [e2, e3]
end Go.Hx
namespace Go.Proofs.Ytpmpacdjcfijbaa
open Go.Hx
end Go.Proofs.Ytpmpacdjcfijbaa
/- A folded circuit's gates, in full. No condition. -/
set_option linter.unusedVariables false
set_option linter.unusedSimpArgs false
namespace Go.Proofs.Ytpmpacdjcfijbaa
open Go.Hx
/-- What a folded circuit is, in full. -/
structure FoldIs (C F : Circ) (G : List L3) : Prop where
  eq : F = { C with mx := C.mx + 1 + C.cons.length + C.bads.length, ands := C.ands ++ G, bads := (List.range C.bads.length).map (fun i => 2 * (C.mx + 1 + C.cons.length + 1 + (i : Nat))), lats := C.lats ++ [⟨2 * (C.mx + 1), 2 * (C.mx + 1 + C.cons.length), 1⟩], fair := C.fair ++ [2 * (C.mx + 1 + C.cons.length)], cons := [], syms := C.syms.filter fun s => decide (s.k ≠ 99) }
  len : G.length = C.cons.length + C.bads.length
  con : ∀ (i : Nat) x, C.cons[i]? = some x → G[i]? = some ⟨2 * (C.mx + 2 + i), max (2 * (C.mx + 1 + i)) x, min (2 * (C.mx + 1 + i)) x⟩
  bad : ∀ (i : Nat) x, C.bads[i]? = some x → G[C.cons.length + i]? = some ⟨2 * (C.mx + 2 + C.cons.length + i), max x (2 * (C.mx + 1 + C.cons.length)), min x (2 * (C.mx + 1 + C.cons.length))⟩
end Go.Proofs.Ytpmpacdjcfijbaa
/- A folded circuit is right: its sizes, uses, symbols, comments. No condition. -/
set_option linter.unusedVariables false
set_option linter.unusedSimpArgs false
namespace Go.Proofs.Ytpmpacdjcfijbaa
open Go.Hx
section
variable {C F : Circ} {G : List L3} {BC BF : List Mk}
/-- The numbers of its new variables. -/
theorem FoldIs.out (f : FoldIs C F G) {i : Nat} (hi : i < C.cons.length + C.bads.length) : ∃ x, G[i]? = some x ∧ x.a = 2 * (C.mx + 2 + i) := by
  rcases Nat.lt_or_ge i C.cons.length with h | h
  · exact ⟨_, f.con i _ (List.getElem?_eq_getElem h), rfl⟩
  · have := f.bad (i - C.cons.length) _ (List.getElem?_eq_getElem (by omega))
    rw [show C.cons.length + (i - C.cons.length) = i by omega] at this
    exact ⟨_, this, by simp only; omega⟩
end
end Go.Proofs.Ytpmpacdjcfijbaa
/- Which traces a folded circuit takes. No condition. -/
set_option linter.unusedVariables false
set_option linter.unusedSimpArgs false
namespace Go.Proofs.Ytpmpacdjcfijbaa
open Go.Hx
/-- When it is taken. -/
theorem bad_iff2 {C : Circ} {i : Int} {T : Tr} (hc : (chk C).2 = 0) (hf : Fit C T) : (propQ C 98 i T).2 = 0 ↔ (0 ≤ i ∧ i < C.bads.length) ∧ iniF C.lats T.init 0 = none ∧ (∀ m ∈ movs C T.init T.ins, m.ok = true) ∧ i ∈ (lastM (movs C T.init T.ins)).bads := by
  have hR : runR C T = (movs C T.init T.ins, 0) := by unfold runR; rw [if_neg (by simp [hc]), if_pos hf]
  rw [propQ_bad hc]
  by_cases hi : 0 ≤ i ∧ i < C.bads.length
  · rw [if_pos hi]
    unfold badQ
    by_cases hq : (runQ C T).2.2 = 0
    · obtain ⟨_, _, hQ, hin, hbk⟩ := runQ_ok hq
      rw [if_neg (by simp [hq]), hQ]
      rw [brkF_none] at hbk
      simp only
      split
      · rename_i h
        exact iff_of_true rfl ⟨hi, hin, hbk, h⟩
      · rename_i h
        exact iff_of_false (by simp) fun hh => h hh.2.2.2
    · rw [if_pos hq]
      refine iff_of_false hq fun ⟨_, g1, g2, _⟩ => hq ?_
      unfold runQ
      rw [if_neg (by simp [hR]), g1, hR]
      simp only
      rw [(brkF_none (i := 0)).2 g2]
  · rw [if_neg hi]
    exact iff_of_false (by simp) fun hh => hi hh.1
section
variable {C : Circ}
end
end Go.Proofs.Ytpmpacdjcfijbaa
