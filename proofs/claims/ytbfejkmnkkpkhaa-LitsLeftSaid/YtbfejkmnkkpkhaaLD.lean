/- Words and facts that the claim's proof leans on. No condition. -/
import Derived.Test.YtbfejkmnkkpkhaaLC
set_option linter.unusedVariables false
set_option linter.unusedSimpArgs false
namespace Go.Proofs.Ytbfejkmnkkpkhaa
open Go.Hx

/-! ### Plain law: normal forms -/
def NF (l q : List Int) : Prop := q.Pairwise (fun x y => ab x < ab y) ∧ ∀ x, x ∈ q ↔ x ∈ l
def Taut (l : List Int) : Prop := ∃ x, x ∈ l ∧ -x ∈ l
def key (x : Int) : Int := 2 * ab x + if x < 0 then 0 else 1

theorem key_inj {x y : Int} (h : key x = key y) : x = y := by
  unfold key ab at h
  split at h <;> split at h <;> omega
theorem ord_key {x y : Int} : ord x y < 0 ↔ key x < key y := by
  unfold ord key ab
  split <;> split <;> split <;> omega
theorem ord_key' {x y : Int} : ord x y ≤ 0 ↔ key x ≤ key y := by
  unfold ord key ab
  split <;> split <;> split <;> omega
theorem ab_neg (x : Int) : ab (-x) = ab x := by unfold ab; split <;> split <;> omega

theorem sorted_ext : ∀ {q p : List Int}, q.Pairwise (fun x y => ab x < ab y) → p.Pairwise (fun x y => ab x < ab y) → (∀ x, x ∈ q ↔ x ∈ p) → q = p
  | [], [], _, _, _ => rfl
  | [], y :: p, _, _, h => by have := (h y).2 (List.mem_cons_self ..); cases this
  | x :: q, [], _, _, h => by have := (h x).1 (List.mem_cons_self ..); cases this
  | x :: q, y :: p, hq, hp, h => by
    rw [List.pairwise_cons] at hq hp
    have hxy : x = y := by
      rcases List.mem_cons.1 ((h x).1 (List.mem_cons_self ..)) with e | hx
      · exact e
      · rcases List.mem_cons.1 ((h y).2 (List.mem_cons_self ..)) with e | hy
        · exact e.symm
        · have := hq.1 y hy; have := hp.1 x hx; omega
    subst hxy
    congr 1
    refine sorted_ext hq.2 hp.2 fun z => ⟨fun hz => ?_, fun hz => ?_⟩
    · rcases List.mem_cons.1 ((h z).1 (List.mem_cons_of_mem _ hz)) with e | hz'
      · subst e; have := hq.1 z hz; omega
      · exact hz'
    · rcases List.mem_cons.1 ((h z).2 (List.mem_cons_of_mem _ hz)) with e | hz'
      · subst e; have := hp.1 z hz; omega
      · exact hz'
theorem NF.unique {l q p : List Int} (h : NF l q) (k : NF l p) : q = p := sorted_ext h.1 k.1 fun x => (h.2 x).trans (k.2 x).symm
theorem NF.not_taut {l q : List Int} (h : NF l q) (hf : l.all isF = true) : ¬ Taut l := by
  rintro ⟨x, hx, hnx⟩
  have hx0 : x ≠ 0 := (isF_t.1 (List.all_eq_true.1 hf x hx)).1
  obtain ⟨i, hi, hxi⟩ := List.getElem_of_mem ((h.2 x).2 hx)
  obtain ⟨j, hj, hxj⟩ := List.getElem_of_mem ((h.2 (-x)).2 hnx)
  have hp := List.pairwise_iff_getElem.1 h.1
  have e := ab_neg x
  rcases Nat.lt_trichotomy i j with hij | hij | hij
  · have := hp i j hi hj hij; rw [hxi, hxj] at this; omega
  · subst hij; rw [hxi] at hxj; omega
  · have := hp j i hj hi hij; rw [hxi, hxj] at this; omega

/-- A sorted list without its repetitions. -/
theorem ddn_spec {r : List Int} (hr : ∀ i j (hi : i < r.length) (hj : j < r.length), i < j → key r[i] ≤ key r[j]) : ∀ m, m ≤ r.length →
    (ddn r m).Pairwise (fun x y => key x < key y) ∧ (∀ x, x ∈ ddn r m ↔ ∃ i, ∃ hi : i < r.length, i < m ∧ r[i] = x)
  | 0, _ => ⟨List.Pairwise.nil, fun x => ⟨(fun h => by cases h), (fun ⟨i, _, h, _⟩ => by omega)⟩⟩
  | m + 1, hm => by
    obtain ⟨h1, h2⟩ := ddn_spec hr m (by omega)
    have hlt : m < r.length := by omega
    unfold ddn
    split
    · rename_i hc
      obtain ⟨h0, he⟩ := hc
      rw [List.getElem?_eq_getElem hlt, List.getElem?_eq_getElem (by omega)] at he
      have he := Option.some.inj he
      refine ⟨h1, fun x => (h2 x).trans ⟨fun ⟨i, hi, him, hx⟩ => ⟨i, hi, by omega, hx⟩, fun ⟨i, hi, him, hx⟩ => ?_⟩⟩
      by_cases hi2 : i = m
      · subst hi2; exact ⟨i - 1, by omega, by omega, by rw [← he]; exact hx⟩
      · exact ⟨i, hi, by omega, hx⟩
    · rename_i hc
      rw [List.getElem?_eq_getElem hlt] at hc ⊢
      refine ⟨?_, fun x => ?_⟩
      · rw [List.pairwise_append]
        refine ⟨h1, List.pairwise_singleton _ _, fun x hx y hy => ?_⟩
        obtain ⟨i, hi, him, hxi⟩ := (h2 x).1 hx
        simp only [Option.toList_some, List.mem_singleton] at hy
        subst hy
        subst hxi
        have hle := hr i m hi hlt him
        rcases Int.lt_or_eq_of_le hle with h | h
        · exact h
        · exfalso
          apply hc
          refine ⟨by omega, ?_⟩
          rw [List.getElem?_eq_getElem (by omega)]
          congr 1
          apply key_inj
          have a1 : key r[i] ≤ key r[m - 1] := by
            by_cases hi2 : i = m - 1
            · subst hi2; exact Int.le_refl _
            · exact hr i (m - 1) hi (by omega) (by omega)
          have a2 := hr (m - 1) m (by omega) hlt (by omega)
          omega
      · simp only [Option.toList_some, List.mem_append, List.mem_singleton]
        constructor
        · rintro (hx | hx)
          · obtain ⟨i, hi, him, hxi⟩ := (h2 x).1 hx; exact ⟨i, hi, by omega, hxi⟩
          · exact ⟨m, hlt, by omega, hx.symm⟩
        · rintro ⟨i, hi, him, hxi⟩
          by_cases hi2 : i = m
          · subst hi2; exact .inr hxi.symm
          · exact .inl ((h2 x).2 ⟨i, hi, by omega, hxi⟩)

/-- Sorted, without repetitions, none beside its negation. -/
theorem nf_of_sorted {l p : List Int} (hp : p.Pairwise (fun x y => key x < key y)) (hm : ∀ x, x ∈ p ↔ x ∈ l) (hadj : ∀ i (hi : i + 1 < p.length), p[i] ≠ -p[i + 1]) : NF l p := by
  refine ⟨?_, hm⟩
  have hk := List.pairwise_iff_getElem.1 hp
  have hadj2 : ∀ i (hi : i + 1 < p.length), ab p[i] < ab p[i + 1] := by
    intro i hi
    have h1 := hk i (i + 1) (by omega) hi (by omega)
    have h2 := hadj i hi
    revert h1 h2
    generalize p[i] = x
    generalize p[i + 1] = y
    unfold key ab
    split <;> split <;> omega
  rw [List.pairwise_iff_getElem]
  intro i j hi hj hij
  obtain ⟨d, rfl⟩ : ∃ d, j = i + 1 + d := ⟨j - (i + 1), by omega⟩
  clear hij
  induction d with
  | zero => exact hadj2 i hj
  | succ d ih =>
    have := ih (by omega)
    have := hadj2 (i + 1 + d) (by omega)
    simp only [Nat.add_assoc] at *
    omega
theorem taut_of_adj {l p : List Int} (hm : ∀ x, x ∈ p ↔ x ∈ l) {i : Nat} (hi : i + 1 < p.length) (he : p[i] = -p[i + 1]) : Taut l :=
  ⟨p[i + 1], (hm _).1 (List.getElem_mem _), (hm _).1 (he ▸ List.getElem_mem _)⟩
end Go.Proofs.Ytbfejkmnkkpkhaa
