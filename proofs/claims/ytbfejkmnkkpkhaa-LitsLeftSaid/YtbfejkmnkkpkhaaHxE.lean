/- Words and facts that the claim's proof leans on. No condition. -/
import Derived.Test.YtbfejkmnkkpkhaaHxD
set_option linter.unusedVariables false
set_option linter.unusedSimpArgs false
namespace Go.Hx

section
variable {P : Program} {N : Nat} {a : Act} {s : SF}

theorem get_out {x : Operand} {K : Value → Prop} (hk : Knows N a s) (h : get s x K) : ∃ v, a.eval x = v ∧ K v := by
  unfold get at h
  cases hx : s.ev x with
  | none => simp [hx] at h
  | some v => simp only [hx] at h; exact ⟨v, hk.ev hx, h⟩
theorem getI_out {k : IntKind} {x : Operand} {K : Int → Prop} (hk : Knows N a s) (h : getI k s x K) : ∃ n, a.eval x = .int k n ∧ K n := by
  unfold getI at h
  split at h
  · rename_i k' n hx
    cases hkk : k' == k with
    | false => simp [hkk] at h
    | true =>
      simp only [hkk] at h
      obtain rfl : k' = k := by simpa using hkk
      exact ⟨n, hk.ev hx, h⟩
  · exact h.elim
theorem getZ_out {x : Operand} {K : Int → Prop} (hk : Knows N a s) (h : getZ s x K) : ∃ k n, a.eval x = .int k n ∧ K n := by
  unfold getZ at h
  split at h
  · rename_i k' n hx; exact ⟨k', n, hk.ev hx, h⟩
  · exact h.elim
theorem getB_out {x : Operand} {K : Bool → Prop} (hk : Knows N a s) (h : getB s x K) : ∃ n, a.eval x = .bool n ∧ K n := by
  unfold getB at h
  split at h
  · rename_i n hx; exact ⟨n, hk.ev hx, h⟩
  · exact h.elim
theorem getS_out {x : Operand} {K : ByteArray → Prop} (hk : Knows N a s) (h : getS s x K) : ∃ n, a.eval x = .string n ∧ K n := by
  unfold getS at h
  split at h
  · rename_i n hx; exact ⟨n, hk.ev hx, h⟩
  · exact h.elim
theorem getSl_out {x : Operand} {K : Option Addr → Nat → Nat → Prop} (hk : Knows N a s) (h : getSl s x K) : ∃ p n c, a.eval x = .slice p n c ∧ K p n c := by
  unfold getSl at h
  split at h
  · rename_i p n c hx; exact ⟨p, n, c, hk.ev hx, h⟩
  · exact h.elim
theorem getP_out {x : Operand} {K : Option Addr → Prop} (hk : Knows N a s) (h : getP s x K) : ∃ p, a.eval x = .pointer p ∧ K p := by
  unfold getP at h
  split at h
  · rename_i p hx; exact ⟨p, hk.ev hx, h⟩
  · exact h.elim
theorem getM_out {x : Operand} {K : Option Nat → Prop} (hk : Knows N a s) (h : getM s x K) : ∃ p, a.eval x = .map p ∧ K p := by
  unfold getM at h
  split at h
  · rename_i p hx; exact ⟨p, hk.ev hx, h⟩
  · exact h.elim
theorem getA_out {x : Operand} {K : Array Value → Prop} (hk : Knows N a s) (h : getA s x K) : ∃ p, a.eval x = .agg p ∧ K p := by
  unfold getA at h
  split at h
  · rename_i p hx; exact ⟨p, hk.ev hx, h⟩
  · exact h.elim
theorem getT_out {x : Operand} {K : Array Value → Prop} (hk : Knows N a s) (h : getT s x K) : ∃ p, a.eval x = .tuple p ∧ K p := by
  unfold getT at h
  split at h
  · rename_i p hx; exact ⟨p, hk.ev hx, h⟩
  · exact h.elim
theorem getAll_out (hk : Knows N a s) : ∀ {xs : List Operand} {K : List Value → Prop}, getAll s xs K → ∃ vs, xs.map a.eval = vs ∧ K vs
  | [], K, h => ⟨[], rfl, h⟩
  | x :: r, K, h => by
    obtain ⟨v, hv, h⟩ := get_out hk (show get s x _ from h)
    obtain ⟨vs, hvs, h⟩ := getAll_out hk h
    exact ⟨v :: vs, by simp [hv, hvs], h⟩
theorem AtP_out {p : Option Addr} {K : Addr → Prop} (h : AtP p K) : ∃ ad, p = some ad ∧ K ad := by
  cases p with
  | none => exact h.elim
  | some ad => exact ⟨ad, rfl, h⟩
theorem loc_out {lo : Option Operand} {K : Int → Prop} (hk : Knows N a s) (h : loc s lo K) :
    (lo = none ∧ K 0) ∨ ∃ x k n, lo = some x ∧ a.eval x = .int k n ∧ K n := by
  cases lo with
  | none => exact .inl ⟨rfl, h⟩
  | some x => obtain ⟨k, n, h1, h2⟩ := getZ_out hk (show getZ s x K from h); exact .inr ⟨x, k, n, rfl, h1, h2⟩
theorem hic_out {hi : Option Operand} {m : Nat} {K : Int → Prop} (hk : Knows N a s) (h : hic s hi m K) :
    (hi = none ∧ K m) ∨ ∃ x k n, hi = some x ∧ a.eval x = .int k n ∧ K n := by
  cases hi with
  | none => exact .inl ⟨rfl, h⟩
  | some x => obtain ⟨k, n, h1, h2⟩ := getZ_out hk (show getZ s x K from h); exact .inr ⟨x, k, n, rfl, h1, h2⟩
theorem partsC_out (hk : Knows N a s) : ∀ {l : List (Nat × Nat × Operand)} {K : List (Nat × Nat × Value) → Prop},
    partsC s l K → K (l.map fun x => (x.1, x.2.1, a.eval x.2.2))
  | [], K, h => h
  | (o, n, x) :: l, K, h => by
    obtain ⟨v, hv, h⟩ := get_out hk (show get s x _ from h)
    have := partsC_out hk h
    simpa [hv] using this

theorem writeL_length (c : List Value) (off : Nat) (vs : List Value) (h : off + vs.length ≤ c.length) : (writeL c off vs).length = c.length := by
  unfold writeL
  simp
  omega
theorem writeL_nil (c : List Value) (off : Nat) : writeL c off [] = c := by simp [writeL]
theorem writeL_cons (c : List Value) (off : Nat) (v : Value) (vs : List Value) (h : off < c.length) : writeL c off (v :: vs) = writeL (c.set off v) (off + 1) vs := by
  unfold writeL
  have h1 : (c.set off v).take (off + 1) = c.take off ++ [v] := by
    rw [List.set_eq_take_append_cons_drop, if_pos h, List.take_append]
    simp [List.length_take, Nat.min_eq_left (Nat.le_of_lt h), List.take_take, Nat.min_eq_right (Nat.le_succ off)]
  have h2 : (c.set off v).drop (off + 1 + vs.length) = c.drop (off + (v :: vs).length) := by
    rw [List.drop_set_of_lt (by omega)]
    congr 1
    simp; omega
  rw [h1, h2]
  simp
theorem foldl_writeL (off : Nat) : ∀ (vs : List Value) (k : Nat) (cs : Array Value), off + k + vs.length ≤ cs.size →
    ((vs.zipIdx k).foldl (fun cs (p : Value × Nat) => cs.setIfInBounds (off + p.2) p.1) cs).toList = writeL cs.toList (off + k) vs := by
  intro vs
  induction vs with
  | nil => intro k cs h; simp [writeL]
  | cons v vs ih =>
    intro k cs h
    simp only [List.length_cons] at h
    rw [List.zipIdx_cons, List.foldl_cons, ih (k + 1) _ (by simp; omega), writeL_cons _ _ _ _ (by simp; omega)]
    simp [Nat.add_assoc]
theorem fill_of {place : Nat → Option (Nat × Nat)} {ev : Operand → Value} : ∀ {ps : List (Nat × Operand)} {l : List (Nat × Nat × Operand)} {cells c : List Value},
    partsOf P place ps = some l → fillL cells (l.map fun x => (x.1, x.2.1, ev x.2.2)) = some c →
    Instr.fill place cells.toArray (ps.map fun p => (p.1, ev p.2)) = some c.toArray
  | [], l, cells, c, hl, h => by
    obtain rfl : l = [] := by simpa [partsOf] using hl.symm
    have : cells = c := by simpa [fillL] using h
    simp [Instr.fill, this]
  | (i, x) :: ps, l, cells, c, hl, h => by
    simp only [partsOf] at hl
    split at hl
    · rename_i o n l' hp hr
      obtain rfl : (o, n, x) :: l' = l := by simpa using hl
      simp only [List.map_cons, fillL] at h
      split at h
      · rename_i hc
        simp only [Bool.and_eq_true, beq_iff_eq, decide_eq_true_eq] at hc
        simp only [List.map_cons, Instr.fill, hp]
        rw [if_neg (by simp [hc.1]; omega)]
        have e : ((ev x).cells.zipIdx.foldl (fun cs (p : Value × Nat) => cs.setIfInBounds (o + p.2) p.1) cells.toArray) = (writeL cells o (ev x).cells.toList).toArray := by
          apply Array.toList_inj.1
          rw [← Array.foldl_toList, Array.toList_zipIdx, foldl_writeL o _ 0 _ (by simp [hc.1]; omega)]
          simp
        rw [e]
        exact fill_of hr h
      · cases h
    · cases hl

theorem PIf_out {p : Prop} {A B : Prop} (h : PIf p A B) : (p ∧ A) ∨ (¬ p ∧ B) := by
  by_cases hp : p
  · exact .inl ⟨hp, h.1 hp⟩
  · exact .inr ⟨hp, h.2 hp⟩

end
end Go.Hx
