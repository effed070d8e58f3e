/- Plain laws of rows of bits and their words. No condition. -/
import Derived.Test.YtbgjbokcngdnfaaDoorHxT
set_option linter.unusedVariables false
set_option linter.unusedSimpArgs false
namespace Go.Hx

def wv : List Bool → Nat | [] => 0 | b :: l => b.toNat + 2 * wv l
theorem wv_lt (l : List Bool) : wv l < 2 ^ l.length := by
  induction l with
  | nil => decide
  | cons b l ih =>
    rw [wv, List.length_cons, Nat.pow_succ]
    have : b.toNat ≤ 1 := by cases b <;> decide
    omega
theorem wv_snoc (l : List Bool) (b : Bool) : wv (l ++ [b]) = wv l + 2 ^ l.length * b.toNat := by
  induction l with
  | nil => simp [wv]
  | cons a l ih => rw [List.cons_append, wv, wv, ih, List.length_cons, Nat.pow_succ, Nat.mul_add, ← Nat.mul_assoc, Nat.add_assoc, Nat.mul_comm 2 (2 ^ l.length)]
theorem wv_testBit (l : List Bool) (i : Nat) : (wv l).testBit i = l.getD i false := by
  induction l generalizing i with
  | nil => simp [wv]
  | cons b l ih =>
    have h1 : (wv (b :: l)) / 2 = wv l := by rw [wv]; cases b <;> simp <;> omega
    have h0 : (wv (b :: l)) % 2 = b.toNat := by rw [wv]; cases b <;> simp <;> omega
    cases i with
    | zero => rw [Nat.testBit_zero, h0]; cases b <;> rfl
    | succ i => rw [Nat.testBit_succ, h1, ih]; rfl
/-- A number's first bits. -/
def bitsOf (n k : Nat) : List Bool := (List.range k).map fun i => n.testBit i
theorem wv_bitsOf (n k : Nat) : wv (bitsOf n k) = n % 2 ^ k := by
  apply Nat.eq_of_testBit_eq
  intro i
  rw [wv_testBit, Nat.testBit_mod_two_pow]
  unfold bitsOf
  rw [List.getD_eq_getElem?_getD, List.getElem?_map]
  by_cases h : i < k
  · rw [List.getElem?_range h]; simp [h]
  · rw [List.getElem?_eq_none (by simp; omega)]; simp [h]

def chunk (row : List Bool) (j : Nat) : List Bool := (row.drop (64 * j)).take 64
def packN (m : Nat) (row : List Bool) : List Nat := (List.range m).map fun j => wv (chunk row j)
def nw (n : Nat) : Nat := (n + 63) / 64
def packL (row : List Bool) : List Nat := packN (nw row.length) row
theorem packN_len (m : Nat) (row : List Bool) : (packN m row).length = m := by simp [packN]
theorem packN_at {m j : Nat} (row : List Bool) (h : j < m) : (packN m row)[j]? = some (wv (chunk row j)) := by simp [packN, h]
theorem chunk_len (row : List Bool) (j : Nat) : (chunk row j).length = min 64 (row.length - 64 * j) := by simp [chunk]
theorem chunk_lt (row : List Bool) (j : Nat) : wv (chunk row j) < 18446744073709551616 := by
  have h1 := wv_lt (chunk row j)
  have h2 : 2 ^ (chunk row j).length ≤ 2 ^ 64 := Nat.pow_le_pow_right (by omega) (by rw [chunk_len]; omega)
  omega
theorem packN_lt {m : Nat} {row : List Bool} : ∀ x ∈ packN m row, x < 18446744073709551616 := by
  intro x hx
  obtain ⟨j, _, rfl⟩ := List.mem_map.1 hx
  exact chunk_lt row j
theorem chunk_step {row : List Bool} {i : Nat} (hi : i < row.length) (j : Nat) : chunk (row.take (i + 1)) j = if j = i / 64 then chunk (row.take i) j ++ [row[i]] else chunk (row.take i) j := by
  have e : row.take (i + 1) = row.take i ++ [row[i]] := List.take_succ_eq_append_getElem hi
  have hl : (row.take i).length = i := by simp; omega
  unfold chunk
  rw [e]
  rcases Nat.lt_or_ge i (64 * j) with h | h
  · rw [List.drop_eq_nil_of_le (by simp; omega), List.drop_eq_nil_of_le (by omega), if_neg (by omega)]
  · rw [List.drop_append_of_le_length (by omega)]
    split
    · rw [List.take_of_length_le (l := (row.take i).drop (64 * j) ++ [row[i]]) (by rw [List.length_append, List.length_drop, hl]; simp; omega), List.take_of_length_le (l := (row.take i).drop (64 * j)) (by rw [List.length_drop, hl]; omega)]
    · rw [List.take_append_of_le_length (by simp; omega)]
theorem chunk_last {row : List Bool} {i : Nat} (hi : i ≤ row.length) : (chunk (row.take i) (i / 64)).length = i % 64 := by rw [chunk_len, List.length_take]; omega
theorem chunk_bound {row : List Bool} {i : Nat} (hi : i ≤ row.length) : wv (chunk (row.take i) (i / 64)) < 2 ^ (i % 64) := by rw [← chunk_last hi]; exact wv_lt _
theorem packN_step {row : List Bool} {i m : Nat} (hi : i < row.length) : packN m (row.take (i + 1)) = (packN m (row.take i)).set (i / 64) (wv (chunk (row.take i) (i / 64)) + 2 ^ (i % 64) * row[i].toNat) := by
  apply List.ext_getElem?
  intro j
  unfold packN
  rw [List.getElem?_map, List.getElem?_set, List.getElem?_map, List.length_map, List.length_range]
  by_cases hj : j < m
  · rw [List.getElem?_range hj]
    simp only [Option.map_some]
    rw [chunk_step hi]
    by_cases hji : j = i / 64
    · subst hji
      rw [if_pos rfl, if_pos rfl, if_pos hj, wv_snoc, chunk_last (Nat.le_of_lt hi)]
    · rw [if_neg hji, if_neg (fun h => hji h.symm)]
  · rw [List.getElem?_eq_none (by simp; omega)]
    simp only [Option.map_none]
    split
    · rw [if_neg (by omega)]
    · rfl
theorem packN_false {row : List Bool} {i m : Nat} (hi : i < row.length) (hm : i / 64 < m) (hb : row[i] = false) : packN m (row.take (i + 1)) = packN m (row.take i) := by
  rw [packN_step hi, hb]
  simp only [Bool.toNat_false, Nat.mul_zero, Nat.add_zero]
  apply List.ext_getElem?
  intro j
  rw [List.getElem?_set]
  split
  · rename_i h; subst h; rw [packN_len, if_pos hm, packN_at _ hm]
  · rfl
theorem or_add {a k : Nat} (h : a < 2 ^ k) : a ||| 2 ^ k = a + 2 ^ k := by
  have := Nat.two_pow_add_eq_or_of_lt h 1
  rw [Nat.mul_one] at this
  rw [Nat.or_comm, ← this, Nat.add_comm]
theorem packN_zero (m : Nat) : packN m [] = List.replicate m 0 := by
  apply List.ext_getElem?
  intro j
  unfold packN
  rw [List.getElem?_map]
  by_cases hj : j < m
  · rw [List.getElem?_range hj, List.getElem?_replicate, if_pos hj]; simp [chunk, wv]
  · rw [List.getElem?_eq_none (by simp; omega), List.getElem?_replicate, if_neg hj]; rfl
theorem packN_grow {row : List Bool} {m : Nat} (h : row.length ≤ 64 * m) : packN (m + 1) row = packN m row ++ [0] := by
  unfold packN
  rw [List.range_succ, List.map_append]
  congr 1
  simp only [List.map_cons, List.map_nil, chunk]
  rw [List.drop_eq_nil_of_le h]
  rfl

/-! ### The row of some words -/
def bitAt (w : List Nat) (i : Nat) : Bool := (w.getD (i / 64) 0).testBit (i % 64)
def rowOf (w : List Nat) (n : Nat) : List Bool := (List.range n).map fun i => bitAt w i
theorem rowOf_len (w : List Nat) (n : Nat) : (rowOf w n).length = n := by simp [rowOf]
theorem rowOf_at {w : List Nat} {n i : Nat} (h : i < n) : (rowOf w n)[i]? = some (bitAt w i) := by simp [rowOf, h]
theorem chunk_rowOf (w : List Nat) (n j : Nat) : chunk (rowOf w n) j = bitsOf (w.getD j 0) (min 64 (n - 64 * j)) := by
  apply List.ext_getElem?
  intro i
  unfold chunk bitsOf
  by_cases hi : i < 64 ∧ 64 * j + i < n
  · rw [List.getElem?_take_of_lt hi.1, List.getElem?_drop, rowOf_at hi.2, List.getElem?_map, List.getElem?_range (by omega)]
    unfold bitAt
    rw [show (64 * j + i) / 64 = j by omega, show (64 * j + i) % 64 = i by omega]; rfl
  · rw [List.getElem?_eq_none (by simp [rowOf_len]; omega), List.getElem?_eq_none (by simp; omega)]
/-- What the words must be. -/
def fitsW (w : List Nat) (n : Nat) : Bool := decide (w.length = nw n ∧ packL (rowOf w n) = w)
theorem packL_rowOf (w : List Nat) (n : Nat) : packL (rowOf w n) = (List.range (nw n)).map fun j => w.getD j 0 % 2 ^ min 64 (n - 64 * j) := by
  unfold packL packN
  rw [rowOf_len]
  apply List.map_congr_left
  intro j _
  rw [chunk_rowOf, wv_bitsOf]
theorem fits_iff {w : List Nat} {n : Nat} (hw : ∀ x ∈ w, x < 18446744073709551616) (hl : w.length = nw n) : packL (rowOf w n) = w ↔ (n % 64 = 0 ∨ w.getD (w.length - 1) 0 < 2 ^ (n % 64)) := by
  rw [packL_rowOf]
  have hat : ∀ j, j < w.length → w.getD j 0 < 18446744073709551616 := fun j hj => by
    rw [List.getD_eq_getElem?_getD, List.getElem?_eq_getElem hj]
    exact hw _ (List.getElem_mem hj)
  unfold nw at *
  constructor
  · intro h
    by_cases h0 : n % 64 = 0
    · exact .inl h0
    · refine .inr ?_
      have hj : w.length - 1 < w.length := by omega
      have h1 := congrArg (fun l => l.getD (w.length - 1) 0) h
      rw [← h1, List.getD_eq_getElem?_getD, List.getElem?_map, List.getElem?_range (by omega)]
      simp only [Option.map_some, Option.getD_some]
      rw [show min 64 (n - 64 * (w.length - 1)) = n % 64 by omega]
      exact Nat.mod_lt _ (Nat.two_pow_pos _)
  · intro h
    apply List.ext_getElem?
    intro j
    rw [List.getElem?_map]
    by_cases hj : j < w.length
    · rw [List.getElem?_range (by omega), List.getElem?_eq_getElem hj]
      have e : w[j] = w.getD j 0 := by rw [List.getD_eq_getElem?_getD, List.getElem?_eq_getElem hj]; rfl
      simp only [Option.map_some, e, Option.some.injEq]
      apply Nat.mod_eq_of_lt
      rcases Nat.lt_or_ge (n - 64 * j) 64 with h2 | h2
      · rcases h with h | h
        · omega
        · rw [show j = w.length - 1 by omega, show min 64 (n - 64 * (w.length - 1)) = n % 64 by omega]; exact h
      · rw [show min 64 (n - 64 * j) = 64 by omega]; exact hat j hj
    · rw [List.getElem?_eq_none (l := List.range ((n + 63) / 64)) (by rw [List.length_range]; omega), List.getElem?_eq_none (l := w) (by omega)]; rfl

/-- Row to words and back. -/
theorem rowOf_packL (row : List Bool) : rowOf (packL row) row.length = row := by
  apply List.ext_getElem?
  intro i
  by_cases hi : i < row.length
  · rw [rowOf_at hi, List.getElem?_eq_getElem hi]
    unfold bitAt packL
    rw [List.getD_eq_getElem?_getD, packN_at _ (by unfold nw; omega), Option.getD_some, wv_testBit, List.getD_eq_getElem?_getD]
    unfold chunk
    rw [List.getElem?_take_of_lt (by omega), List.getElem?_drop, show 64 * (i / 64) + i % 64 = i by omega, List.getElem?_eq_getElem hi]; rfl
  · rw [List.getElem?_eq_none (by simp [rowOf_len]; omega), List.getElem?_eq_none (by omega)]
theorem fits_packL (row : List Bool) : fitsW (packL row) row.length = true := by
  unfold fitsW
  rw [rowOf_packL]
  simp [packL, packN_len]
end Go.Hx
