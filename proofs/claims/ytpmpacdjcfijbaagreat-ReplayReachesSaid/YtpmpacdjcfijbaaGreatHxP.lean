/- A row that the library writes over, told by the heap. No condition. -/
import Derived.Test.YtpmpacdjcfijbaaGreatHxK
import Derived.Sort.Grow
import Derived.Lib.SlicesCompact
set_option linter.unusedVariables false
set_option linter.unusedSimpArgs false
namespace Go.Hx
open Go.Sort
section
variable {P : Program} {α : Type} [Inhabited α] {enc : α → Value} {w : World} {ad : Addr} {n c : Nat} {l : List α}
theorem Own.holds (o : Own 1 w.heap (some ad) n c (l.map enc)) : ad = ⟨ad.block, ad.off, none⟩ ∧ Holds enc w ad.block ad.off l.toArray ∧ ad.block < w.heap.size ∧ l.length = n := by
  obtain ⟨blk, off, sp⟩ := ad
  obtain ⟨hsp, cs, e, hb, hle⟩ := o.mem
  simp only at hsp hb hle
  subst hsp
  have hlen : l.length = n := by have := o.rd.len; simpa using this
  refine ⟨rfl, ?_, (Array.getElem?_eq_some_iff.1 hb).1, hlen⟩
  intro j hj
  have hj' : j < l.length := by simpa using hj
  have hrd := o.rd.read j (enc l[j]) (by simp [hj'])
  rw [cellH_row hb rfl] at hrd
  constructor
  · rw [cell_eq]
    unfold cellH
    simp only [hb, Option.isSome_none, Bool.false_eq_true, if_false]
    rw [hrd]
    rw [getElem!_pos l.toArray j hj]; simp
  · unfold World.frozen?
    simp only [hb]
    simp
theorem putCells_atP {off : Nat} {d : Array α} {cs : Array Value} {i : Nat} (hi : i < d.size) (hc : off + d.size ≤ cs.size) : (putCells enc off d cs)[off + i]? = some (enc d[i]) := by
  unfold putCells
  rw [Array.getElem?_mapIdx, Array.getElem?_eq_getElem (by omega)]
  simp only [Option.map_some]
  rw [if_pos (by omega), show off + i - off = i by omega, getElem!_pos d i hi]
theorem Own.putR (o : Own 1 w.heap (some ad) n c (l.map enc)) {d : List α} (hd : d.length = l.length) (k : Nat) (os : Array Obj) {w' : World} (hw : w' = grow (putRow enc (Sort.ahead w k) ad.block ad.off d.toArray) os) :
    Same w w' ∧ Upd (atb (some ad)) w.heap w'.heap ∧ Own 1 w'.heap (some ad) n c (d.map enc) := by
  obtain ⟨blk, off, sp⟩ := ad
  obtain ⟨hsp, cs, e, hb, hle⟩ := o.mem
  simp only at hsp hb hle hw
  subst hsp
  have hblk := (Array.getElem?_eq_some_iff.1 hb).1
  have hlen : l.length = n := by have := o.rd.len; simpa using this
  have hcap := o.cap
  have hheap : w'.heap = w.heap.modify blk (onCells (putCells enc off d.toArray)) ++ os := by rw [hw]; rfl
  have hold : ∀ b, b < w.heap.size → w'.heap[b]? = if blk = b then some (.cells (putCells enc off d.toArray cs) e (0, 0)) else w.heap[b]? := by
    intro b hbb
    rw [hheap, Array.getElem?_append_left (by simpa using hbb), Array.getElem?_modify]
    split
    · rename_i hbe
      subst hbe
      rw [hb]; rfl
    · rfl
  refine ⟨?_, ⟨?_, fun b hbb hne => ?_⟩, ?_⟩
  · rw [hw]; exact ⟨rfl, rfl, rfl, Nat.le_add_right _ _⟩
  · rw [hheap]; simp
  · rw [hold b hbb, if_neg fun hbe => hne ⟨_, rfl, hbe.symm⟩]
  · have hrow := hold blk hblk
    rw [if_pos rfl] at hrow
    have hpsz : (putCells enc off d.toArray cs).size = cs.size := by unfold putCells; simp
    refine ⟨⟨fun i v hv => ?_, ?_⟩, hcap, rfl, _, e, hrow, by rw [hpsz]; exact hle⟩
    · rw [cellH_row hrow rfl]
      have hi := (List.getElem?_eq_some_iff.1 hv).1
      simp only [List.length_map] at hi
      rw [putCells_atP (by simpa using hi) (by simp; omega)]
      simpa [hi] using hv
    · rw [List.length_map, hd, Nat.mul_one]; exact hlen
end
/-- A call that leaves the world. -/
theorem callsH_still {P : Program} {f : FuncId} {args : Array Value} {h : Heap} {v : Value} (hc : ∀ w : World, w.heap = h → Calls P f args w fun e w' => e = .returned v ∧ w' = w) : CallsH P f args h (Ret v h) :=
  fun w hw => (hc w hw).mono fun e w' ⟨he, hw'⟩ => by subst hw'; exact ⟨v, he, .refl _, rfl, hw⟩
/-! ### Compact of a row that rises -/
open Go.Lib
theorem mem_compact {l : List Int} {x : Int} : x ∈ compact l ↔ x ∈ l := by
  unfold compact compactUpTo
  simp only [List.mem_map, List.mem_filter, List.mem_range]
  constructor
  · rintro ⟨i, ⟨hi, _⟩, rfl⟩
    rw [getElem!_pos l.toArray i (by simpa using hi)]
    simp
  · intro hx
    obtain ⟨i, hi, he⟩ := List.getElem_of_mem hx
    induction i with
    | zero => exact ⟨0, ⟨hi, by simp [keeps]⟩, by rw [getElem!_pos l.toArray 0 (by simpa using hi)]; simpa using he⟩
    | succ i ih =>
      by_cases hk : keeps l.toArray (i + 1) = true
      · exact ⟨i + 1, ⟨hi, hk⟩, by rw [getElem!_pos l.toArray (i + 1) (by simpa using hi)]; simpa using he⟩
      · refine ih (by omega) ?_
        rw [← he]
        simp [keeps] at hk
        rw [List.getElem?_eq_getElem hi, List.getElem?_eq_getElem (show i < l.length by omega)] at hk
        simpa using hk.symm
theorem compact_lt {l : List Int} (h : l.Pairwise (· ≤ ·)) : (compact l).Pairwise (· < ·) := by
  unfold compact compactUpTo
  rw [List.pairwise_map, List.pairwise_filter]
  refine (List.pairwise_lt_range (n := l.length)).imp_of_mem fun {i j} hi hj hij hki hkj => ?_
  rw [List.mem_range] at hi hj
  rw [getElem!_pos l.toArray i (by simpa using hi), getElem!_pos l.toArray j (by simpa using hj)]
  simp only [List.getElem_toArray]
  rw [List.pairwise_iff_getElem] at h
  have h1 : l[j - 1] ≤ l[j] := h (j - 1) j (by omega) hj (by omega)
  have h2 : l[i] ≤ l[j - 1] := by
    rcases Nat.lt_or_ge i (j - 1) with hh | hh
    · exact h i (j - 1) hi (by omega) hh
    · have : i = j - 1 := by omega
      subst this; exact Int.le_refl _
  have h3 : l[j] ≠ l[j - 1] := by
    have hj0 : j ≠ 0 := by omega
    simp [keeps, hj0] at hkj
    rw [List.getElem?_eq_getElem hj, List.getElem?_eq_getElem (show j - 1 < l.length by omega)] at hkj
    simpa using hkj
  omega
theorem compact_len {l : List Int} : (compact l).length ≤ l.length := by
  unfold compact compactUpTo
  rw [List.length_map]
  exact Nat.le_trans (List.length_filter_le _ _) (by simp)
/-- Rising rows of the same members are one. -/
theorem rise_ext : ∀ {a b : List Int}, a.Pairwise (· < ·) → b.Pairwise (· < ·) → (∀ x, x ∈ a ↔ x ∈ b) → a = b
  | [], [], _, _, _ => rfl
  | [], y :: b, _, _, h => by have := (h y).2 (List.mem_cons_self ..); cases this
  | x :: a, [], _, _, h => by have := (h x).1 (List.mem_cons_self ..); cases this
  | x :: a, y :: b, ha, hb, h => by
    rw [List.pairwise_cons] at ha hb
    have e : x = y := by
      rcases List.mem_cons.1 ((h x).1 (List.mem_cons_self ..)) with h1 | h1
      · exact h1
      · rcases List.mem_cons.1 ((h y).2 (List.mem_cons_self ..)) with h2 | h2
        · exact h2.symm
        · have := ha.1 y h2; have := hb.1 x h1; omega
    subst e
    rw [rise_ext ha.2 hb.2 fun z => ?_]
    constructor
    · intro hz
      rcases List.mem_cons.1 ((h z).1 (List.mem_cons_of_mem _ hz)) with h1 | h1
      · subst h1; have := ha.1 z hz; omega
      · exact h1
    · intro hz
      rcases List.mem_cons.1 ((h z).2 (List.mem_cons_of_mem _ hz)) with h1 | h1
      · subst h1; have := hb.1 z hz; omega
      · exact h1
end Go.Hx
