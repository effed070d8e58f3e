/- Words and facts that the claim's proof leans on. No condition. -/
import Derived.Test.YtbgjbokcngdnfaaDoorWH
set_option linter.unusedVariables false
set_option linter.unusedSimpArgs false
namespace Go.Proofs.YtbgjbokcngdnfaaDoor
open Go.Hx

/-! ### Shifts -/
def shB (row : List Bool) (by_ : Int) (i : Nat) : Bool := if (i : Int) < by_ then false else row.getD ((i : Int) - by_).toNat false
def shR (row : List Bool) (by_ : Int) : List Bool := (List.range row.length).map (shB row by_)
def shL (w : List Nat) (n by_ : Int) : List Nat := if unE w n = 0 then packL (shR (rowOf w n.toNat) by_) else []
theorem shR_len (row : List Bool) (by_ : Int) : (shR row by_).length = row.length := by simp [shR]
theorem shR_at {row : List Bool} {by_ : Int} {i : Nat} (h : i < row.length) : (shR row by_)[i]? = some (shB row by_ i) := by simp [shR, h]
theorem getD_ge {l : List Bool} {i : Nat} (h : l.length ≤ i) : l.getD i false = false := by rw [List.getD_eq_getElem?_getD, List.getElem?_eq_none h]; rfl
theorem un_cases {w : List Nat} {n : Int} (h : unE w n = 0) : 0 ≤ n ∧ n ≤ 16384 ∧ unL w n = rowOf w n.toNat := by
  have h2 := h
  unfold unE at h
  split at h
  · omega
  · exact ⟨by omega, by omega, by unfold unL; rw [if_pos h2]⟩
theorem shR_zero {row : List Bool} {by_ : Int} (h : (row.length : Int) ≤ by_ ∨ by_ ≤ -(row.length : Int)) : shR row by_ = List.replicate row.length false := by
  apply List.ext_getElem?
  intro i
  by_cases hi : i < row.length
  · rw [shR_at hi, List.getElem?_replicate, if_pos hi]
    unfold shB
    split
    · rfl
    · rw [getD_ge (by omega)]
  · rw [List.getElem?_eq_none (by rw [shR_len]; omega), List.getElem?_eq_none (by simp; omega)]
theorem c40 {wA : Option Addr} {wN wC : Nat} {w : List Nat} {h : Heap} (r : Rd h wA wN (w.map w64v)) (hw : ∀ x ∈ w, x < 18446744073709551616) (n by_ : Int) (hb0 : -9223372036854775808 ≤ by_) (hb1 : by_ ≤ 9223372036854775807) :
    CallsH Tryd.prog 40 #[.slice wA wN wC, .int .i64 n, .int .i64 by_] h (SlT w64v h (shL w n by_) (.int .i64 (unE w n))) := by
  refine run40 wA wN wC n by_ _ h ((c38 r hw n).mono ?_)
  rintro v h1 ⟨a, c, rfl, f⟩
  refine ⟨_, _, _, _, rfl, fun hE => ?_, fun hE => ?_⟩
  · obtain ⟨h0n, hn, hL⟩ := un_cases hE
    obtain ⟨k, rfl⟩ : ∃ k : Nat, n = k := ⟨n.toNat, by omega⟩
    rw [hL] at f ⊢
    rw [Int.toNat_natCast] at f ⊢
    have hS : shL w k by_ = packL (shR (rowOf w k) by_) := by unfold shL; rw [if_pos hE, Int.toNat_natCast]
    rw [hE, hS]
    rw [rowOf_len] at f ⊢
    have hrow : (rowOf w k).length = k := rowOf_len _ _
    generalize rowOf w k = row at f hrow ⊢
    have fin : ∀ h3, Fr h 1 h3 (some ⟨h1.size, 0, none⟩) k k (bools (shR row by_)) → CallsH Tryd.prog 50 #[.slice (some ⟨h1.size, 0, none⟩) k k] h3 fun v h4 => ∃ (A : Option Addr), ∃ (N : Nat), ∃ (C : Nat), v = (.slice A N C) ∧ SlT w64v h (packL (shR row by_)) (.int .i64 0) (.tuple #[.slice A N C, .int .i64 0]) h4 := fun h3 f3 => by
      refine (c50 f3.rd (by omega)).mono ?_
      rintro v h4 ⟨a, c, rfl, f4⟩
      exact ⟨_, _, _, rfl, _, _, rfl, f4.base f3.ext⟩
    unfold J40_0
    refine ⟨by omega, by omega, by omega, ?_⟩
    simp only [Int.toNat_natCast]
    have f2 : Fr h 1 (Array.push h1 (Obj.cells (zeroRow #[Value.bool false] (k * 1)).toArray 4)) (some ⟨h1.size, 0, none⟩) k k (bools (List.replicate k false)) := by
      rw [zeroRow_one, Nat.mul_one]
      have := Fr.lit f.ext (List.replicate k (Value.bool false)) 4 k (by simp)
      simpa [bools] using this
    have fz := f.upd (Ext.push h1 (Obj.cells (zeroRow #[Value.bool false] (k * 1)).toArray 4))
    have rz := fz.rd
    generalize Array.push h1 (Obj.cells (zeroRow #[Value.bool false] (k * 1)).toArray 4) = h2 at f2 fz rz ⊢
    have hzero : ((row.length : Int) ≤ by_ ∨ by_ ≤ -(row.length : Int)) → Fr h 1 h2 (some ⟨h1.size, 0, none⟩) k k (bools (shR row by_)) := fun hz => by rw [shR_zero hz, hrow]; exact f2
    have e0 : IntKind.wrap .i64 (0 - (k : Int)) = -(k : Int) := by rw [w64 (by omega) (by omega)]; omega
    have hneg : by_ < 0 → -(k : Int) < by_ → (0 ≤ ((IntKind.wrap .i64 (0 - by_)) : Int) ∧ ((IntKind.wrap .i64 (0 - by_)) : Int) ≤ ((k : Nat) : Int) ∧ (((k : Nat) : Int) : Int) ≤ (c : Nat) ∧ ∃ ys1 : List Value, ReadL h2 (cutA 1 a c (Int.toNat (IntKind.wrap .i64 (0 - by_)))) ys1 ∧ ys1.length = (min (k - Int.toNat (IntKind.wrap .i64 (0 - by_))) k) * 1 ∧ StoreH h2 (Addr.mk (h1).size 0 none) ys1 fun h_5 => CallsH Tryd.prog 50 #[(.slice (some (Addr.mk (h1).size 0 none)) k k)] h_5 fun v2 h_6 =>
       ∃ (A2 : Option Addr), ∃ (N2 : Nat), ∃ (C2 : Nat), v2 = (.slice A2 N2 C2) ∧ SlT w64v h (packL (shR row by_)) (.int .i64 0) (.tuple #[(.slice A2 N2 C2), (.int .i64 0)]) h_6) := fun hlt hgt => by
      have e1 : IntKind.wrap .i64 (0 - by_) = -by_ := by rw [w64 (by omega) (by omega)]; omega
      rw [e1]
      have hcap := fz.own.cap
      have hm : min (k - (-by_).toNat) k = k - (-by_).toNat := by omega
      have hcut := rz.cutA (sz := 1) (c := c) (-by_).toNat (k - (-by_).toNat) (by omega) (by omega)
      rw [Nat.mul_one] at hcut
      refine ⟨by omega, by omega, by omega, _, hcut.read, by rw [hcut.len, hm, Nat.mul_one], ?_⟩
      rw [← addr_add0 ⟨h1.size, 0, none⟩]
      refine Fr.write f2 0 _ (bools (shR row by_)) (by rw [hcut.len]; omega) ?_ (by simp [bools, shR_len, hrow]) ?_ fun h3 f3 => by rw [addr_add0]; exact fin h3 f3
      · rw [← List.map_drop, ← List.map_take]; exact bools_one
      · intro i hi
        rw [hcut.len, ← List.map_drop, ← List.map_take]
        simp only [bools, List.getElem?_map, Nat.sub_zero, Nat.zero_le, true_and, Nat.zero_add]
        rw [shR_at (by omega)]
        unfold shB
        rw [if_neg (by omega)]
        split
        · rename_i h5
          rw [List.getElem?_take_of_lt h5, List.getElem?_drop, List.getElem?_eq_getElem (by omega)]
          simp only [Option.map_some]
          rw [getD_lt (by omega)]
          congr 3
          omega
        · rename_i h5
          rw [List.getElem?_replicate, if_pos hi, getD_ge (by omega)]
    refine ⟨fun hge => ⟨fun hlt => ?_, fun hlt => ⟨fun h5 => by omega, fun _ => fin h2 (hzero (.inl (by omega)))⟩⟩, fun hge => ⟨fun hlt => ⟨fun hgt => hneg hlt (by rw [e0] at hgt; exact hgt), fun hgt => fin h2 (hzero (.inr (by rw [e0] at hgt; omega)))⟩, fun h5 => by omega⟩⟩
    have htk := rz.take (k - by_.toNat) (by omega)
    refine ⟨by omega, by omega, by omega, _, htk.read, by rw [htk.len]; omega, ?_⟩
    unfold cutA
    rw [if_neg (by omega)]
    refine CpyH.some ?_
    rw [Nat.mul_one]
    refine Fr.write f2 _ _ (bools (shR row by_)) (by rw [htk.len]; omega) ?_ (by simp [bools, shR_len, hrow]) ?_ fun h3 f3 => fin h3 f3
    · rw [← List.map_take]; exact bools_one
    · intro i hi
      rw [htk.len, ← List.map_take]
      simp only [bools, List.getElem?_map]
      rw [shR_at (by omega)]
      unfold shB
      split
      · rename_i h5
        rw [if_neg (by omega), List.getElem?_replicate, if_pos hi]
      · rename_i h5
        rw [if_pos (by omega), List.getElem?_take_of_lt (by omega), List.getElem?_eq_getElem (by omega)]
        simp only [Option.map_some]
        rw [getD_lt (by omega)]
        congr 3
        omega
  · unfold shL; rw [if_neg hE]; exact .nil f.ext

theorem c41 {wA : Option Addr} {wN wC : Nat} {w : List Nat} {h : Heap} (r : Rd h wA wN (w.map w64v)) (hw : ∀ x ∈ w, x < 18446744073709551616) (n by_ : Int) (hb0 : -9223372036854775808 ≤ by_) (hb1 : by_ ≤ 9223372036854775807) :
    CallsH Tryd.prog 41 #[.slice wA wN wC, .int .i64 n, .int .i64 by_] h (SlT w64v h (shL w n by_) (.int .i64 (unE w n))) := by
  have hno : (n < 0 ∨ 16384 < n) → SlT w64v h (shL w n by_) (.int .i64 (unE w n)) (.tuple #[.slice none 0 0, .int .i64 1]) h := fun hn => by
    have : unE w n = 1 := by unfold unE; rw [if_pos hn]
    unfold shL; rw [this]; exact .nil (.refl _)
  refine run41 wA wN wC n by_ _ h ⟨fun q1 => hno (.inl q1), fun q1 => ⟨fun q2 => hno (.inr q2), fun q2 => (c39 r hw n).mono ?_⟩⟩
  rintro v h1 ⟨a, c, rfl, f⟩
  refine ⟨_, _, _, _, rfl, fun hE => ?_, fun hE => ?_⟩
  · obtain ⟨h0n, hn, hL⟩ := un_cases hE
    obtain ⟨k, rfl⟩ : ∃ k : Nat, n = k := ⟨n.toNat, by omega⟩
    rw [hL] at f ⊢
    rw [Int.toNat_natCast] at f ⊢
    have hS : shL w k by_ = packL (shR (rowOf w k) by_) := by unfold shL; rw [if_pos hE, Int.toNat_natCast]
    rw [hE, hS]
    rw [rowOf_len] at f ⊢
    have hrow : (rowOf w k).length = k := rowOf_len _ _
    generalize rowOf w k = row at f hrow ⊢
    unfold J41_1
    refine ⟨by omega, by omega, by omega, ?_⟩
    simp only [Int.toNat_natCast]
    refine ⟨fun st h' m => ∃ i : Nat, st = (i : Int) ∧ i ≤ k ∧ Fr h 1 h' (some ⟨h1.size, 0, none⟩) k k (fillV Value.bool (shB row by_) k i (.bool false)) ∧ Rd h' a k (bools row) ∧ m = k - i, ⟨k, 0, rfl, by omega, ?_, (f.upd (Ext.push h1 _)).rd, rfl⟩, ?_⟩
    · rw [fill_zero, zeroRow_one, Nat.mul_one]
      exact Fr.lit f.ext (List.replicate k (.bool false)) 4 k (by simp)
    have alt : ∀ ad, a = some ad → ad.block < h1.size := fun ad ha => by subst ha; exact f.own.lt
    rintro st h' m ⟨i, rfl, hi, g, rr, rfl⟩
    refine ⟨fun hlt => ?_, fun hge => ?_⟩
    · have hik : i < k := by omega
      have e0 : IntKind.wrap .i64 (0 - (k : Int)) = -(k : Int) := by rw [w64 (by omega) (by omega)]; omega
      unfold J41_3
      simp only [Int.toNat_natCast, e_succ (show i < 4611686018427387904 by omega)]
      have skip : shB row by_ i = false → ∃ m', m' < k - i ∧ ∃ i1 : Nat, ((i + 1 : Nat) : Int) = (i1 : Int) ∧ i1 ≤ k ∧ Fr h 1 h' (some ⟨h1.size, 0, none⟩) k k (fillV Value.bool (shB row by_) k i1 (.bool false)) ∧ Rd h' a k (bools row) ∧ m' = k - i1 := fun hb => by
        refine ⟨_, by omega, i + 1, rfl, by omega, ?_, rr, rfl⟩
        rw [← fill_step hik, hb]
        have : (fillV Value.bool (shB row by_) k i (.bool false)).set i (.bool false) = fillV Value.bool (shB row by_) k i (.bool false) := by
          apply List.ext_getElem?
          intro j
          rw [List.getElem?_set]
          split
          · rename_i hj; subst hj
            rw [if_pos (by rw [fill_len hi]; exact hik)]
            unfold fillV
            rw [List.getElem?_append_right (by simp), List.getElem?_replicate, if_pos (by simp; omega)]
          · rfl
        rw [this]; exact g
      refine ⟨fun h5 => ⟨fun h6 => ?_, fun h6 => skip ?_⟩, fun h5 => skip ?_⟩
      · have e1 : IntKind.wrap .i64 ((i : Int) - by_) = (i : Int) - by_ := by rw [w64 (by omega) (by omega)]
        rw [e1]
        refine ⟨fun h7 => ⟨fun h8 => ⟨by omega, by omega, rr.geti (by omega) (by omega) fun ad hl hc => ⟨_, hc, by omega, by omega, ?_⟩⟩, fun h8 => skip ?_⟩, fun h7 => skip ?_⟩
        · refine g.at1 (j := (i : Int)) (by omega) (by omega) rfl fun h'' u g' => ⟨_, by omega, i + 1, rfl, by omega, ?_, rr.upd u fun ad ha ⟨y, hy, e⟩ => ?_, rfl⟩
          · rw [← fill_step hik, show shB row by_ i = row[((i : Int) - by_).toNat] by unfold shB; rw [if_neg (by omega), getD_lt hl]]
            exact g'
          · cases hy
            have := alt ad ha
            simp only at e
            omega
        · unfold shB; rw [if_neg (by omega), getD_ge (by omega)]
        · unfold shB; rw [if_pos (by omega)]
      · unfold shB; rw [if_pos (by omega)]
      · rw [e0] at h5; unfold shB; rw [if_neg (by omega), getD_ge (by omega)]
    · have hik : i = k := by omega
      subst hik
      rw [fill_full] at g
      unfold J41_2
      simp only [Int.toNat_natCast]
      have e5 : (List.range i).map (shB row by_) = shR row by_ := by unfold shR; rw [hrow]
      rw [e5] at g
      refine (c51 g.rd (by omega)).mono ?_
      rintro v h4 ⟨a4, c4, rfl, f4⟩
      exact ⟨_, _, _, rfl, _, _, rfl, f4.base g.ext⟩
  · unfold shL; rw [if_neg hE]; exact .nil f.ext
end Go.Proofs.YtbgjbokcngdnfaaDoor
