/- Words and facts that the claim's proof leans on. No condition. -/
import Derived.Test.YtbfejkmnkkpkhaaHxM
import Derived.Shelf.SlSortCmp.NoneTotal
set_option linter.unusedVariables false
set_option linter.unusedSimpArgs false
namespace Go.Hx
open Go.Shelf Go.RowKit Go.Lib Go.Sort Go.Proofs

/-! ### The library's sort, told by the heap -/
section
variable {P : Program} {α : Type} [Inhabited α]

theorem world_of_same {w w' : World} (hs : Same w w') (hh : w'.heap = w.heap) : ∃ q, w' = w.drewN q := by
  obtain ⟨h1, t1, d1, o1, p1⟩ := w
  obtain ⟨h2, t2, d2, o2, p2⟩ := w'
  obtain ⟨ht, ho, hp, hd⟩ := hs
  simp only at ht ho hp hd hh
  subst ht ho hp hh
  refine ⟨d2 - d1, ?_⟩
  unfold World.drewN
  simp only [World.mk.injEq, true_and, and_true]
  omega

theorem cmpReads_of {enc : α → Value} {cf : α → α → Int} {g : Nat} (hc : ∀ x y h, CallsH P g #[enc x, enc y] h (Ret (.int .i64 (cf x y)) h)) (blk off size : Nat) (w : World) :
    CmpReads P g #[] enc cf blk off size w := fun m os dk _ x y => (hc x y _ _ rfl).mono fun e w' ⟨v, he, hs, hv, hh⟩ => ⟨by rw [he, hv], world_of_same hs hh⟩

theorem putCells_at {enc : α → Value} {off : Nat} {d : Array α} {c : Array Value} {i : Nat} (hi : i < d.size) (hc : off + d.size ≤ c.size) : (putCells enc off d c)[off + i]? = some (enc d[i]) := by
  unfold putCells
  rw [Array.getElem?_mapIdx, Array.getElem?_eq_getElem (by omega)]
  simp only [Option.map_some]
  rw [if_pos (by omega), show off + i - off = i by omega, getElem!_pos d i hi]

/-- 'data' sorted by a closure that looks at its arguments alone. -/
theorem pdqH {ρ : Ren} (L : SlLaysF.n14 P ρ) {enc : α → Value} (h1 : OneCell enc) {cf : α → α → Int} (hO : SWO (ltOf cf)) (hT : ∀ x y, ltOf cf x y = false → ltOf cf y x = false → x = y) {g : Nat}
    (hg : callOk P g = true) (hc : ∀ x y h, CallsH P g #[enc x, enc y] h (Ret (.int .i64 (cf x y)) h)) {h : Heap} {ad : Addr} {n c lim : Nat} {l : List α} (o : Own 1 h (some ad) n c (l.map enc))
    (hn : n < 4611686018427387904) (hl : lim < 4611686018427387904) :
    CallsH P (ρ.f 14) #[.slice (some ad) n c, .int .i64 (0 : Nat), .int .i64 n, .int .i64 lim, .func (.func g) #[] #[]] h fun v h' =>
      v = .tuple #[] ∧ Upd (atb (some ad)) h h' ∧ Own 1 h' (some ad) n c ((l.mergeSort fun x y => !ltOf cf y x).map enc) := by
  intro w hw
  subst hw
  obtain ⟨blk, off, sp⟩ := ad
  obtain ⟨hsp, cs, e, hb, hle⟩ := o.mem
  simp only at hsp hb hle
  subst hsp
  have hblk := (Array.getElem?_eq_some_iff.1 hb).1
  have hlen : l.length = n := by have := o.rd.len; simpa using this
  have hcap := o.cap
  have hH : Holds enc w blk off l.toArray := by
    intro j hj
    have hj' : j < l.length := by simpa using hj
    have hrd := o.rd.read j (enc l[j]) (by simp [hj'])
    rw [cellH_row hb rfl] at hrd
    constructor
    · rw [cell_eq]
      unfold cellH
      simp only [hb, Option.isSome_none, Bool.false_eq_true, if_false]
      rw [hrd]
      rw [getElem!_pos l.toArray j hj]; simp
    · unfold World.frozen?
      simp only [hb]
      simp
  have eg : ∀ args w, (callFunc g args).run P w = .ok (.enter g args) w := by
    intro args w
    unfold callOk at hg
    cases hf : P.funcs[g]? with
    | none => simp [hf] at hg
    | some fn =>
      simp only [hf, Bool.and_eq_true, Bool.not_eq_true'] at hg
      have hbd : fn.body.isNone = false := by
        have := hg.1
        cases hbb : fn.body <;> simp_all
      unfold callFunc
      simp only [Sem.run_bind, run_program, Result.andThen_ok, hf, hg.2, Bool.false_eq_true, if_false, hbd, Sem.run_pure]
  have hsz : l.toArray.size = n := by simpa using hlen
  have hp := Any.pdqsortCmpFunc_all L enc cf g #[] hO blk off c l.toArray w eg (cmpReads_of hc blk off _ w).lays ⟨h1, hH, hblk⟩ (n + 1) 0 n lim l.toArray w (by omega) rfl (SW.start hH) (Nat.zero_le _) (by omega) (by omega) hl (Or.inl rfl)
  rw [hsz] at hp
  refine hp.mono fun e' w' ⟨he, n', os, hw'⟩ => ⟨_, he, ?_⟩
  have hs := pdq_sorts (ltOf cf) hO l.toArray 0 n lim true true (Nat.zero_le _) (by omega) (Or.inl rfl)
  rw [← hsz] at hs
  have hd := sorted_unique_holds hO hT _ _ hs.1 hs.2
  have hsz2 := hs.1.1
  rw [hsz] at hs hd hsz2
  generalize pdq (ltOf cf) l.toArray 0 n lim true true = d' at hs hd hw' hsz2
  subst hw'
  have hheap : (sortWorld enc w blk off n' d' os).heap = w.heap.modify blk (onCells (putCells enc off d')) ++ os := rfl
  have hold : ∀ b, b < w.heap.size → (sortWorld enc w blk off n' d' os).heap[b]? = if blk = b then some (.cells (putCells enc off d' cs) e (0, 0)) else w.heap[b]? := by
    intro b hbb
    rw [hheap, Array.getElem?_append_left (by simpa using hbb), Array.getElem?_modify]
    split
    · rename_i hbe
      subst hbe
      rw [hb]; rfl
    · rfl
  refine ⟨⟨rfl, rfl, rfl, Nat.le_add_right _ _⟩, rfl, ⟨?_, fun b hbb hne => ?_⟩, ?_⟩
  · rw [hheap]; simp
  · rw [hold b hbb, if_neg fun hbe => hne ⟨_, rfl, hbe.symm⟩]
  · have hrow := hold blk hblk
    rw [if_pos rfl] at hrow
    have hpsz : (putCells enc off d' cs).size = cs.size := by unfold putCells; simp
    refine ⟨⟨fun i v hv => ?_, ?_⟩, hcap, rfl, _, e, hrow, by rw [hpsz]; exact hle⟩
    · rw [cellH_row hrow rfl]
      rw [← show d'.toList = l.mergeSort (fun x y => !ltOf cf y x) from hd] at hv
      have hi := (List.getElem?_eq_some_iff.1 hv).1
      simp only [List.length_map, Array.length_toList] at hi
      rw [putCells_at hi (by omega)]
      simpa [hi] using hv
    · rw [List.length_map, List.length_mergeSort, Nat.mul_one]; exact hlen
end
end Go.Hx
