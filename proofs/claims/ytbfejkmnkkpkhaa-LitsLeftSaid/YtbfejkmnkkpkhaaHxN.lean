/- Maps from whole numbers to 1, told by the heap. No condition. -/
import Derived.Test.YtbfejkmnkkpkhaaHxM
set_option linter.unusedVariables false
set_option linter.unusedSimpArgs false
namespace Go.Hx

def ent (k : Int) (i : Nat) : MapEntry := { key := .int .i64 k, val := .int .i64 1, born := i }
def mkE (ks : List Int) : List MapEntry := ks.zipIdx.map fun p => ent p.1 p.2
theorem mkE_len (ks : List Int) : (mkE ks).length = ks.length := by simp [mkE]
theorem mkE_at {ks : List Int} {i : Nat} (h : i < ks.length) : (mkE ks)[i]? = some (ent ks[i] i) := by simp [mkE, h]
theorem mkE_snoc (ks : List Int) (x : Int) : mkE (ks ++ [x]) = mkE ks ++ [ent x ks.length] := by simp [mkE, List.zipIdx_append]
theorem mem_mkE {ks : List Int} {e : MapEntry} (h : e ∈ mkE ks) : ∃ i, ∃ hi : i < ks.length, e = ent ks[i] i := by
  obtain ⟨i, hi, rfl⟩ := List.getElem_of_mem h
  rw [mkE_len] at hi
  have := mkE_at hi
  rw [List.getElem?_eq_getElem (by rw [mkE_len]; exact hi)] at this
  exact ⟨i, hi, Option.some.inj this⟩
theorem same_int (x y : Int) : Instr.sameNow (.int .i64) (.int .i64 x) (.int .i64 y) = some (decide (x = y)) := by
  unfold Instr.sameNow
  simp only [if_true]
  congr 1
theorem find_int (x : Int) : ∀ (ks : List Int) (o i : Nat), (∃ j, ∃ hj : j < ks.length, Instr.findNow (.int .i64) (.int .i64 x) ((ks.zipIdx o).map fun p => ent p.1 p.2) i = some (some (i + j, .int .i64 1)) ∧ ks[j] = x) ∨
    (Instr.findNow (.int .i64) (.int .i64 x) ((ks.zipIdx o).map fun p => ent p.1 p.2) i = some none ∧ x ∉ ks)
  | [], o, i => .inr ⟨rfl, by simp⟩
  | k :: ks, o, i => by
    rw [List.zipIdx_cons, List.map_cons, Instr.findNow]
    show _ ∨ _
    have hs : Instr.sameNow (.int .i64) (.int .i64 x) (ent k o).key = some (decide (x = k)) := same_int x k
    rw [hs]
    by_cases hx : x = k
    · rw [decide_eq_true hx]
      exact .inl ⟨0, by simp, rfl, hx.symm⟩
    · rw [decide_eq_false hx]
      rcases find_int x ks (o + 1) (i + 1) with ⟨j, hj, h1, h2⟩ | ⟨h1, h2⟩
      · exact .inl ⟨j + 1, by simpa using hj, by simp only; rw [h1, show i + 1 + j = i + (j + 1) by omega], by simpa using h2⟩
      · exact .inr ⟨h1, by simp [hx, h2]⟩
/-- The map at 'b' has just these keys, in this order; all are 1. -/
def IsMap (h : Heap) (b : Nat) (ks : List Int) : Prop := h[b]? = some (.map (mkE ks).toArray ks.length)
theorem IsMap.lt {h : Heap} {b : Nat} {ks : List Int} (m : IsMap h b ks) : b < h.size := (Array.getElem?_eq_some_iff.1 m).1
theorem IsMap.upd {S : Nat → Prop} {h h' : Heap} {b : Nat} {ks : List Int} (m : IsMap h b ks) (u : Upd S h h') (hs : ¬ S b) : IsMap h' b ks := by
  unfold IsMap; rw [u.2 b m.lt hs]; exact m
theorem IsMap.look {h : Heap} {b : Nat} {ks : List Int} (m : IsMap h b ks) (x : Int) {A : Prop} {C : Value → Prop} (hA : x ∉ ks → A) (hC : x ∈ ks → C (.int .i64 1)) : MapLook (.int .i64) (.int .i64 x) h (some b) none A C := by
  refine ⟨_, _, m, ?_⟩
  rcases find_int x ks 0 0 with ⟨j, hj, h1, h2⟩ | ⟨h1, h2⟩
  · exact ⟨_, h1, hC (h2 ▸ List.getElem_mem hj)⟩
  · exact ⟨_, h1, hA h2⟩
theorem IsMap.put {h : Heap} {b : Nat} {ks : List Int} (m : IsMap h b ks) (x : Int) {K : Heap → Prop} (hK : ∀ h' ks', IsMap h' b ks' → Upd (fun i => i = b) h h' → (∀ y, y ∈ ks' ↔ y ∈ ks ∨ y = x) → ks'.length ≤ ks.length + 1 → K h') :
    MapPut (.int .i64) (.int .i64 x) (.int .i64 1) h (some b) K := by
  refine ⟨_, _, m, ?_⟩
  rcases find_int x ks 0 0 with ⟨j, hj, h1, h2⟩ | ⟨h1, h2⟩
  · refine ⟨_, h1, ?_⟩
    have hat : (mkE ks).toArray[0 + j]? = some (ent ks[j] j) := by rw [Nat.zero_add, List.getElem?_toArray]; exact mkE_at hj
    simp only
    refine ⟨by rw [hat, h2]; simp [ent, Instr.sameBits], hK _ ks ?_ (set_upd _ _ _) (fun y => ⟨.inl, fun hy => hy.elim id fun e => by rw [e, ← h2]; exact List.getElem_mem hj⟩) (by omega)⟩
    unfold IsMap
    rw [set_at m.lt]
    congr 2
    apply Array.ext_getElem?
    intro i
    rw [Nat.zero_add, Array.getElem?_modify]
    split
    · rename_i hji
      subst hji
      rw [List.getElem?_toArray, mkE_at hj, h2]
      rfl
    · rfl
  · refine ⟨_, h1, hK _ (ks ++ [x]) ?_ (set_upd _ _ _) (fun y => by simp) (by simp)⟩
    unfold IsMap
    rw [set_at m.lt, mkE_snoc, List.length_append]
    simp [ent]
/-- An iterator over it. -/
def IsIter (h : Heap) (it b : Nat) (n : Nat) (seen : Array Nat) : Prop := ∃ last, h[it]? = some (.mapIter (some b) n seen last) ∧ last = n
theorem IsMap.range {h : Heap} {b : Nat} {ks : List Int} (m : IsMap h b ks) {K : Heap → Prop} (hK : ∀ h', IsMap h' b ks → IsIter h' h.size b ks.length #[] → Ext h h' → K h') : MapRange h (some b) K :=
  ⟨_, _, m, hK _ (by unfold IsMap; rw [Array.getElem?_push, if_neg (Nat.ne_of_lt m.lt)]; exact m) ⟨_, push_at _ _, rfl⟩ (Ext.push _ _)⟩
/-- A step: over, when all were seen; else at one that was not. -/
theorem IsMap.next {h : Heap} {b it : Nat} {ks : List Int} {seen : Array Nat} (m : IsMap h b ks) (i : IsIter h it b ks.length seen) (hne : it ≠ b) {over : Prop} {step : MapEntry → Heap → Prop}
    (ho : (∀ k, k < ks.length → k ∈ seen) → over)
    (hs : ∀ k (hk : k < ks.length), k ∉ seen → ∀ h', IsMap h' b ks → IsIter h' it b ks.length (seen.push k) → Upd (fun j => j = it) h h' →
      (∀ C : MapEntry → Prop, C (ent ks[k] k) → MEntryS h' it C) → step (ent ks[k] k) h') : MNextS h it over step := by
  obtain ⟨last, hi, rfl⟩ := i
  unfold MNextS
  rw [hi]
  refine ⟨_, _, m, ?_, fun hall => ?_, fun e he hsn => ?_⟩
  · by_cases h0 : ks.length = 0
    · rw [List.length_eq_zero_iff.1 h0]; simp [mkE]
    · have : ((mkE ks).toArray.all fun e => decide (e.born ≥ ks.length)) = false := by
        have h1 := mkE_at (ks := ks) (i := 0) (by omega)
        have h2 : ent (ks[0]'(by omega)) 0 ∈ (mkE ks).toArray := by simpa using List.mem_of_getElem? h1
        cases hq : (mkE ks).toArray.all fun e => decide (e.born ≥ ks.length) with
        | false => rfl
        | true =>
          have := Array.all_eq_true_iff_forall_mem.1 hq _ h2
          have h3 : (0 : Nat) ≥ ks.length := of_decide_eq_true this
          omega
      rw [this]; simp
  · refine ho fun k hk => ?_
    have hmem : ent ks[k] k ∈ (mkE ks).toArray := by simpa using List.mem_of_getElem? (mkE_at hk)
    cases hc : seen.contains k with
    | true => simpa using hc
    | false =>
      have := hall _ hmem hc
      simp [ent] at this
      omega
  · obtain ⟨k, hk, rfl⟩ := mem_mkE (by simpa using he)
    have hns : k ∉ seen := by simpa [ent] using hsn
    have hlt := (Array.getElem?_eq_some_iff.1 hi).1
    have m' : IsMap (h.setIfInBounds it (.mapIter (some b) ks.length (seen.push (ent ks[k] k).born) ks.length)) b ks := m.upd (set_upd _ _ _) fun e => hne e.symm
    refine hs k hk hns _ m' ⟨_, set_at hlt _, rfl⟩ (set_upd _ _ _) fun C hC => ?_
    unfold MEntryS
    rw [set_at hlt]
    refine ⟨_, _, k, ent ks[k] k, m', by simp [ent], rfl, ?_, hC⟩
    rw [List.find?_toArray]
    rw [List.find?_eq_some_iff_getElem]
    refine ⟨by simp [ent], k, by rw [mkE_len]; exact hk, ?_, fun j hj => ?_⟩
    · have := mkE_at hk
      rw [List.getElem?_eq_getElem (by rw [mkE_len]; exact hk)] at this
      exact Option.some.inj this
    · have := mkE_at (ks := ks) (i := j) (by omega)
      rw [List.getElem?_eq_getElem (by rw [mkE_len]; omega)] at this
      rw [Option.some.inj this]
      simp [ent]; omega
end Go.Hx
