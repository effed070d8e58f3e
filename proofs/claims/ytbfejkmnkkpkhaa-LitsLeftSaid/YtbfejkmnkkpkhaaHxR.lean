/- What a row's arguments read as, told by the heap: slices of whole numbers and of truths. No condition. -/
import Derived.Test.YtbfejkmnkkpkhaaHxM
import Derived.ChangeSlices
import Derived.Deep.Grids
import Derived.SizedLaws
import Derived.Below
import Derived.Carry
set_option linter.unusedVariables false
set_option linter.unusedSimpArgs false
namespace Go.Hx
open Go.ChangeShapes Go.WideShapes Go.RowKit

theorem below_of {w w' : World} (hs : Same w w') (hx : Ext w.heap w'.heap) : Below w.heap.size w w' := ⟨hs.os, hs.tape, hs.output, hx.1, fun k hk => hx.2 k hk fun h => h⟩

section
variable {H : Type} {enc : TypeId × Value → H} {P : Program} {W : World} {base : Nat} {held : Bool} {t e : TypeId} {ts : List TypeId} {ds : List (DataW H)} {j : Nat} {r : Reach} {b0 : Nat} {v : Value} {d : DataW H} {ps : List MemPlace}

/-- A slice of whole numbers. -/
theorem row_ints {k : IntKind} (hu : P.underlying t = some (.slice e)) (he : P.underlying e = some (.int k)) (hc : P.cellsOf e = 1) (hok : Value.okWide P W r b0 t v)
    (hsz : (DataW.weightsEach P ts ds).all (· ≤ reachBytes) = true) (ht : ts[j]? = some t) (hd : ds[j]? = some d)
    (h : DataW.Trod enc P W base (fun _ => true) held t v d ps) : ∃ (a : Option Addr) (len cap : Nat) (l : List Int), v = .slice a len cap ∧ Rd W.heap a len (l.map (Value.int k)) ∧ len ≤ cap ∧ len * P.bytesOf e ≤ 140737488351232 ∧ ∀ n ∈ l, (Lit.int k n).wf = true := by
  obtain ⟨a, len, cap, rfl⟩ := okWide_slice hu hok
  obtain ⟨fuel, hf⟩ := h
  rcases open_ints hu he hc hf with ⟨hcs, _⟩ | ⟨x, l, c, zs, hcs, _, hl, _, hz, hx, hcell, hwf⟩
  · simp [Value.cells] at hcs
    obtain ⟨rfl, rfl, rfl⟩ := hcs
    exact ⟨none, 0, 0, [], rfl, .nil, Nat.le_refl _, by simp, fun n hn => by cases hn⟩
  · simp [Value.cells] at hcs
    obtain ⟨rfl, rfl, rfl⟩ := hcs
    obtain ⟨hx, _⟩ := Prod.mk.inj hx
    subst hx
    simp only [if_true] at hz
    refine ⟨some x, len, cap, zs.take len, rfl, ⟨fun i u hu2 => ?_, by simp; omega⟩, hl, ?_, fun n hn => hwf n (List.mem_of_mem_take hn)⟩
    · have hi := (List.getElem?_eq_some_iff.1 hu2).1
      simp at hi
      have := hcell i (by omega)
      rw [cell_eq] at this
      rw [this]
      have hi2 : i < zs.length := by omega
      rw [List.getElem?_map, List.getElem?_take_of_lt (by omega), List.getElem?_eq_getElem hi2] at hu2
      rw [List.getD_eq_getElem?_getD, List.getElem?_eq_getElem hi2]
      simpa using hu2
    · have z := sized_slice hsz ht hd hu
      have h1 : (lits (H := H) k (zs.take len)).length + (lits (H := H) k (zs.drop len)).length = zs.length := by simp [lits]; omega
      rw [h1] at z
      exact Nat.le_trans (Nat.mul_le_mul_right _ (by omega)) z

/-- A slice of truths. -/
theorem row_bools (hu : P.underlying t = some (.slice e)) (he : P.underlying e = some .bool) (hc : P.cellsOf e = 1) (hok : Value.okWide P W r b0 t v)
    (hsz : (DataW.weightsEach P ts ds).all (· ≤ reachBytes) = true) (ht : ts[j]? = some t) (hd : ds[j]? = some d)
    (h : DataW.Trod enc P W base (fun _ => true) held t v d ps) : ∃ (a : Option Addr) (len cap : Nat) (l : List Bool), v = .slice a len cap ∧ Rd W.heap a len (bools l) ∧ len ≤ cap ∧ len * P.bytesOf e ≤ 140737488351232 := by
  obtain ⟨a, len, cap, rfl⟩ := okWide_slice hu hok
  obtain ⟨fuel, hf⟩ := h
  rcases Deep.open_bools hu he hc hf with ⟨hcs, _⟩ | ⟨x, l, c, B, hcs, _, hl, _, hx, hcell⟩
  · simp [Value.cells] at hcs
    obtain ⟨rfl, rfl, rfl⟩ := hcs
    exact ⟨none, 0, 0, [], rfl, .nil, Nat.le_refl _, by simp⟩
  · simp [Value.cells] at hcs
    obtain ⟨rfl, rfl, rfl⟩ := hcs
    obtain ⟨hx, _⟩ := Prod.mk.inj hx
    subst hx
    refine ⟨some x, len, cap, (List.range len).map B, rfl, ⟨fun i u hu2 => ?_, by simp⟩, hl, ?_⟩
    · have hi := (List.getElem?_eq_some_iff.1 hu2).1
      simp at hi
      have := hcell i (by omega)
      rw [cell_eq] at this
      rw [this]
      simpa [hi] using hu2
    · have z := sized_slice hsz ht hd hu
      simp only [List.length_map, List.length_range] at z
      exact Nat.le_trans (Nat.mul_le_mul_right _ (by omega)) z
end
theorem wf_i64 {n : Int} (h : (Lit.int .i64 n).wf = true) : -9223372036854775808 ≤ n ∧ n ≤ 9223372036854775807 := by
  simp [Lit.wf] at h
  have e1 : IntKind.i64.min = -9223372036854775808 := rfl
  have e2 : IntKind.i64.max = 9223372036854775807 := rfl
  omega
end Go.Hx
