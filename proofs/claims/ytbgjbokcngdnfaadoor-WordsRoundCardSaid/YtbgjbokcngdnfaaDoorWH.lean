/- Words and facts that the claim's proof leans on. No condition. -/
import Derived.Test.YtbgjbokcngdnfaaDoorWG
set_option linter.unusedVariables false
set_option linter.unusedSimpArgs false
namespace Go.Proofs.YtbgjbokcngdnfaaDoor
open Go.Hx

/-! ### The row of a number -/
def rwB (ix n : Int) : Bool := decide (0 ≤ n ∧ n ≤ 62 ∧ 0 ≤ ix ∧ ix < 2 ^ n.toNat)
def rwL (ix n : Int) : List Bool := if rwB ix n then bitsOf ix.toNat n.toNat else []
def rwE (ix n : Int) : Int := if rwB ix n then 0 else 1
theorem rw_no {ix n : Int} (h : ¬ (0 ≤ n ∧ n ≤ 62 ∧ 0 ≤ ix ∧ ix < 2 ^ n.toNat)) {h0 : Heap} : SlT Value.bool h0 (rwL ix n) (.int .i64 (rwE ix n)) (.tuple #[.slice none 0 0, .int .i64 1]) h0 := by
  unfold rwL rwE rwB
  rw [decide_eq_false h]
  exact .nil (.refl _)
theorem rw_yes {x n : Nat} (hn : n ≤ 62) (hx : x < 2 ^ n) : rwB x n = true := by
  unfold rwB
  rw [decide_eq_true]
  refine ⟨by omega, by omega, by omega, ?_⟩
  rw [Int.toNat_natCast, show (2 : Int) ^ n = ((2 ^ n : Nat) : Int) by simp]
  omega
theorem testBit_shift (x i : Nat) (hx : x < 9223372036854775808) (hi : i ≤ 62) : bop .and .i64 ((x : Int) / 2 ^ i) 1 = 1 ↔ x.testBit i = true := by
  rw [show (2 : Int) ^ i = ((2 ^ i : Nat) : Int) by simp, show (x : Int) / ((2 ^ i : Nat) : Int) = ((x / 2 ^ i : Nat) : Int) by simp]
  have := bop_and (x / 2 ^ i) 1 (Nat.lt_of_le_of_lt (Nat.div_le_self _ _) hx) (by omega)
  rw [Nat.and_one_is_mod] at this
  rw [show (1 : Int) = ((1 : Nat) : Int) from rfl, this, Nat.testBit_eq_decide_div_mod_eq, decide_eq_true_iff]
  omega
theorem c36 (ix n : Int) (h : Heap) (hix : ix ≤ 9223372036854775807) : CallsH Tryd.prog 36 #[.int .i64 ix, .int .i64 n] h (SlT Value.bool h (rwL ix n) (.int .i64 (rwE ix n))) := by
  refine run36 ix n _ h ⟨fun h1 => rw_no (by omega), fun h1 => ⟨fun h2 => rw_no (by omega), fun h2 => ⟨fun h3 => rw_no (by omega), fun h3 => ⟨by omega, ?_⟩⟩⟩⟩
  obtain ⟨k, rfl⟩ : ∃ k : Nat, n = k := ⟨n.toNat, by omega⟩
  obtain ⟨x, rfl⟩ : ∃ x : Nat, ix = x := ⟨ix.toNat, by omega⟩
  rw [Int.toNat_natCast, show min k (IntKind.bits .i64) = k by simp only [IntKind.bits]; omega, show (2 : Int) ^ k = ((2 ^ k : Nat) : Int) by simp, show (x : Int) / ((2 ^ k : Nat) : Int) = ((x / 2 ^ k : Nat) : Int) by simp]
  have hpos := Nat.two_pow_pos k
  refine ⟨fun h4 => ?_, fun h4 => rw_no fun hh => h4 ?_⟩
  · have hx : x < 2 ^ k := by
      have h5 : x / 2 ^ k = 0 := by omega
      rcases Nat.lt_or_ge x (2 ^ k) with h6 | h6
      · exact h6
      · have := Nat.div_pos h6 hpos; omega
    have hy := rw_yes (by omega) hx
    unfold J36_0
    refine ⟨by omega, by omega, by omega, ?_⟩
    simp only [Int.toNat_natCast]
    refine ⟨fun st h' m => ∃ i : Nat, st = (i : Int) ∧ i ≤ k ∧ Fr h 1 h' (some ⟨h.size, 0, none⟩) k k (fillV Value.bool (fun i => x.testBit i) k i (.bool false)) ∧ m = k - i, ⟨k, 0, rfl, by omega, by rw [fill_zero]; exact Fr.zeros _ _ _, rfl⟩, ?_⟩
    rintro st h' m ⟨i, rfl, hi, f, rfl⟩
    refine ⟨fun hlt => ?_, fun hge => ?_⟩
    · have hik : i < k := by omega
      unfold J36_2
      simp only [Int.toNat_natCast, e_succ (show i < 4611686018427387904 by omega)]
      rw [show min i (IntKind.bits .i64) = i by simp only [IntKind.bits]; omega, testBit_shift x i (by omega) (by omega)]
      have fin : ∀ b, x.testBit i = b → StoreH h' ((Addr.mk h.size 0 none).add (i * 1)) [.bool b] fun h_8 => ∃ m', m' < k - i ∧ ∃ i1 : Nat, ((i + 1 : Nat) : Int) = (i1 : Int) ∧ i1 ≤ k ∧ Fr h 1 h_8 (some ⟨h.size, 0, none⟩) k k (fillV Value.bool (fun i => x.testBit i) k i1 (.bool false)) ∧ m' = k - i1 := fun b hb =>
        f.at1 (j := (i : Int)) (by omega) (by omega) rfl fun h'' u f' => ⟨_, by omega, i + 1, rfl, by omega, by rw [← fill_step hik, hb]; exact f', rfl⟩
      refine ⟨by omega, fun hb => ⟨by omega, by omega, fin true hb⟩, fun hb => ⟨by omega, by omega, fin false (by simpa using hb)⟩⟩
    · have hik : i = k := by omega
      subst hik
      unfold J36_1 SlT rwL rwE
      rw [hy]
      simp only [Int.toNat_natCast, if_true]
      rw [fill_full] at f
      have e : (bitsOf x i).length = i := by simp [bitsOf]
      rw [e]
      exact ⟨_, _, rfl, f⟩
  · obtain ⟨_, _, _, hx⟩ := hh
    rw [Int.toNat_natCast, show (2 : Int) ^ k = ((2 ^ k : Nat) : Int) by simp] at hx
    rw [Nat.div_eq_of_lt (by omega)]; rfl
theorem half_i64 (q : Nat) (h : q < 9223372036854775808) : IntKind.wrap .i64 (Int.tdiv (q : Int) 2) = ((q / 2 : Nat) : Int) := by
  rw [Int.tdiv_eq_ediv_of_nonneg (by omega), w64 (by omega) (by omega)]; omega
theorem mod2_i64 (q : Nat) : Int.tmod (q : Int) 2 = ((q % 2 : Nat) : Int) := by rw [Int.tmod_eq_emod_of_nonneg (by omega)]; omega
theorem c61 (x n : Nat) (h : Heap) (hn : n ≤ 62) (hx : x < 9223372036854775808) : CallsH Tryd.prog 61 #[.int .i64 x, .int .i64 n] h (Sl Value.bool h (bitsOf x n)) := by
  refine run61 x n _ h ⟨by omega, by omega, by omega, ?_⟩
  simp only [Int.toNat_natCast]
  refine ⟨fun st h' m => ∃ i : Nat, st = (((x / 2 ^ i : Nat) : Int), (i : Int)) ∧ i ≤ n ∧ Fr h 1 h' (some ⟨h.size, 0, none⟩) n n (fillV Value.bool (fun i => x.testBit i) n i (.bool false)) ∧ m = n - i, ⟨n, 0, by simp, by omega, by rw [fill_zero]; exact Fr.zeros _ _ _, rfl⟩, ?_⟩
  rintro st h' m ⟨i, rfl, hi, f, rfl⟩
  have hle : x / 2 ^ i ≤ x := Nat.div_le_self _ _
  refine ⟨fun hlt => ?_, fun hge => ?_⟩
  · simp only at hlt
    have hik : i < n := by omega
    have e1 : IntKind.wrap .i64 (Int.tdiv ((x / 2 ^ i : Nat) : Int) 2) = ((x / 2 ^ (i + 1) : Nat) : Int) := by
      rw [half_i64 _ (Nat.lt_of_le_of_lt hle hx), Nat.div_div_eq_div_mul, ← Nat.pow_succ]
    have e2 : Int.tmod ((x / 2 ^ i : Nat) : Int) 2 = ((x / 2 ^ i % 2 : Nat) : Int) := mod2_i64 _
    unfold J61_1
    simp only [Int.toNat_natCast, e_succ (show i < 4611686018427387904 by omega), e1, e2]
    have fin : ∀ b, x.testBit i = b → StoreH h' ((Addr.mk h.size 0 none).add (i * 1)) [.bool b] fun h_8 => ∃ m', m' < n - i ∧ ∃ i1 : Nat, (((x / 2 ^ (i + 1) : Nat) : Int), ((i + 1 : Nat) : Int)) = (((x / 2 ^ i1 : Nat) : Int), (i1 : Int)) ∧ i1 ≤ n ∧ Fr h 1 h_8 (some ⟨h.size, 0, none⟩) n n (fillV Value.bool (fun i => x.testBit i) n i1 (.bool false)) ∧ m' = n - i1 := fun b hb =>
      f.at1 (j := (i : Int)) (by omega) (by omega) rfl fun h'' u f' => ⟨_, by omega, i + 1, rfl, by omega, by rw [← fill_step hik, hb]; exact f', rfl⟩
    refine ⟨fun hb => ⟨by omega, by omega, fin true ?_⟩, fun hb => ⟨by omega, by omega, fin false ?_⟩⟩
    · rw [Nat.testBit_eq_decide_div_mod_eq, decide_eq_true (by omega)]
    · rw [Nat.testBit_eq_decide_div_mod_eq, decide_eq_false (by omega)]
  · simp only at hge
    have hik : i = n := by omega
    subst hik
    unfold J61_0 Sl
    rw [fill_full] at f
    have e : (bitsOf x i).length = i := by simp [bitsOf]
    rw [e]
    simp only [Int.toNat_natCast]
    exact ⟨_, _, rfl, f⟩
theorem c37 (ix n : Int) (h : Heap) (hix : ix ≤ 9223372036854775807) : CallsH Tryd.prog 37 #[.int .i64 ix, .int .i64 n] h (SlT Value.bool h (rwL ix n) (.int .i64 (rwE ix n))) := by
  refine run37 ix n _ h ⟨fun h1 => rw_no (by omega), fun h1 => ⟨fun h2 => rw_no (by omega), fun h2 => ⟨fun h3 => rw_no (by omega), fun h3 => ?_⟩⟩⟩
  obtain ⟨k, rfl⟩ : ∃ k : Nat, n = k := ⟨n.toNat, by omega⟩
  obtain ⟨x, rfl⟩ : ∃ x : Nat, ix = x := ⟨ix.toNat, by omega⟩
  refine use (c53 k (by omega) h) ⟨_, rfl, ?_⟩
  rw [show IntKind.wrap .u64 (x : Int) = x by rw [wr_u64]; omega]
  refine ⟨fun h4 => rw_no fun hh => ?_, fun h4 => (c61 x k h (by omega) (by omega)).mono ?_⟩
  · obtain ⟨_, _, _, hx⟩ := hh
    rw [Int.toNat_natCast, show (2 : Int) ^ k = ((2 ^ k : Nat) : Int) by simp] at hx
    omega
  · rintro v h' ⟨a, c, rfl, f⟩
    have hy := rw_yes (x := x) (n := k) (by omega) (by omega)
    refine ⟨_, _, _, rfl, ?_⟩
    unfold SlT rwL rwE
    rw [hy]
    exact ⟨_, _, rfl, f⟩

/-! ### The row of some words -/
def unE (w : List Nat) (n : Int) : Int := if n < 0 ∨ 16384 < n then 1 else if fitsW w n.toNat then 0 else 4
def unL (w : List Nat) (n : Int) : List Bool := if unE w n = 0 then rowOf w n.toNat else []
theorem un_no1 {w : List Nat} {n : Int} (hn : n < 0 ∨ 16384 < n) {h0 : Heap} : SlT Value.bool h0 (unL w n) (.int .i64 (unE w n)) (.tuple #[.slice none 0 0, .int .i64 1]) h0 := by
  have : unE w n = 1 := by unfold unE; rw [if_pos hn]
  unfold unL; rw [this]; exact .nil (.refl _)
theorem un_no4 {w : List Nat} {n : Int} (hn : ¬ (n < 0 ∨ 16384 < n)) (hf : fitsW w n.toNat = false) {h0 h1 : Heap} (x : Ext h0 h1) : SlT Value.bool h0 (unL w n) (.int .i64 (unE w n)) (.tuple #[.slice none 0 0, .int .i64 4]) h1 := by
  have : unE w n = 4 := by unfold unE; rw [if_neg hn, hf]; rfl
  unfold unL; rw [this]; exact .nil x
theorem un_yes {w : List Nat} {k : Nat} (hn : k ≤ 16384) (hf : fitsW w k = true) : unE w k = 0 ∧ unL w k = rowOf w k := by
  have : unE w k = 0 := by unfold unE; rw [if_neg (by omega), Int.toNat_natCast, hf]; rfl
  exact ⟨this, by unfold unL; rw [if_pos this]; rfl⟩
theorem fits_eq {w : List Nat} {k : Nat} (hw : ∀ x ∈ w, x < 18446744073709551616) (hl : w.length = nw k) : fitsW w k = decide (k % 64 = 0 ∨ w.getD (w.length - 1) 0 < 2 ^ (k % 64)) := by
  unfold fitsW
  rw [decide_eq_decide]
  exact ⟨fun h => (fits_iff hw hl).1 h.2, fun h => ⟨hl, (fits_iff hw hl).2 h⟩⟩
theorem fits_len {w : List Nat} {k : Nat} (hl : ¬ w.length = nw k) : fitsW w k = false := by
  unfold fitsW
  rw [decide_eq_false]
  exact fun h => hl h.1

theorem c38 {wA : Option Addr} {wN wC : Nat} {w : List Nat} {h : Heap} (r : Rd h wA wN (w.map w64v)) (hw : ∀ x ∈ w, x < 18446744073709551616) (n : Int) :
    CallsH Tryd.prog 38 #[.slice wA wN wC, .int .i64 n] h (SlT Value.bool h (unL w n) (.int .i64 (unE w n))) := by
  have hlen : w.length = wN := by have := r.len; rwa [List.length_map] at this
  refine run38 wA wN wC n _ h ⟨fun h1 => un_no1 (by omega), fun h1 => ⟨fun h2 => un_no1 (by omega), fun h2 => ?_⟩⟩
  obtain ⟨k, rfl⟩ : ∃ k : Nat, n = k := ⟨n.toNat, by omega⟩
  refine use (c62 k (by omega) h) ⟨_, rfl, fun h3 => ?_, fun h3 => un_no4 (by omega) (fits_len (by rw [Int.toNat_natCast]; omega)) (.refl _)⟩
  have hl : w.length = nw k := by omega
  have hfe := fits_eq hw hl
  have hgood : fitsW w k = true → J38_1 Tryd.prog (SlT Value.bool h (unL w k) (.int .i64 (unE w k))) wA wN wC k h := fun hf => by
    obtain ⟨hE, hL⟩ := un_yes (by omega) hf
    rw [hE, hL]
    unfold J38_1
    refine ⟨by omega, by omega, by omega, ?_⟩
    simp only [Int.toNat_natCast]
    refine ⟨fun st h' m => ∃ i : Nat, st = (i : Int) ∧ i ≤ k ∧ Fr h 1 h' (some ⟨h.size, 0, none⟩) k k (fillV Value.bool (bitAt w) k i (.bool false)) ∧ m = k - i, ⟨k, 0, rfl, by omega, by rw [fill_zero]; exact Fr.zeros _ _ _, rfl⟩, ?_⟩
    rintro st h' m ⟨i, rfl, hi, f, rfl⟩
    refine ⟨fun hlt => ?_, fun hge => ?_⟩
    · have hik : i < k := by omega
      unfold J38_3
      refine use (c63 (r.ext f.ext) hw i (by unfold nw at hl; omega) (by omega)) ⟨_, rfl, by omega, ?_⟩
      simp only [Int.toNat_natCast, e_succ (show i < 4611686018427387904 by omega)]
      exact ⟨by omega, f.at1 (j := (i : Int)) (by omega) (by omega) rfl fun h'' u f' => ⟨_, by omega, i + 1, rfl, by omega, by rw [← fill_step hik]; exact f', rfl⟩⟩
    · have hik : i = k := by omega
      subst hik
      unfold J38_2 SlT
      rw [fill_full] at f
      rw [rowOf_len]
      simp only [Int.toNat_natCast]
      exact ⟨_, _, rfl, f⟩
  rw [and63 k (by omega)]
  refine ⟨fun h4 => hgood (by rw [hfe, decide_eq_true (.inl (by omega))]), fun h4 => ?_⟩
  have hne : 0 < wN := by unfold nw at hl; omega
  have e1 : IntKind.wrap .i64 ((wN : Int) - 1) = ((wN - 1 : Nat) : Int) := by rw [w64 (by unfold nw at hl; omega) (by unfold nw at hl; omega)]; omega
  rw [e1]
  refine ⟨by omega, by omega, r.geti (by omega) (by omega) fun ad hl2 hc => ⟨_, hc, by omega, ?_⟩⟩
  simp only [Int.toNat_natCast] at hl2 hc ⊢
  have hg : w.getD (w.length - 1) 0 = w[wN - 1] := by rw [hlen]; exact getD_lt hl2 0
  rw [hg] at hfe
  rw [show min (k % 64) (IntKind.bits .u64) = k % 64 by simp only [IntKind.bits]; omega, show ((w[wN - 1] : Nat) : Int) / 2 ^ (k % 64) = ((w[wN - 1] / 2 ^ (k % 64) : Nat) : Int) by simp]
  have hpos := Nat.two_pow_pos (k % 64)
  refine ⟨fun h5 => hgood ?_, fun h5 => un_no4 (by omega) ?_ (.refl _)⟩
  · rw [hfe, decide_eq_true]
    refine .inr ?_
    rcases Nat.lt_or_ge w[wN - 1] (2 ^ (k % 64)) with h6 | h6
    · exact h6
    · have := Nat.div_pos h6 hpos; omega
  · rw [Int.toNat_natCast, hfe, decide_eq_false]
    rintro (h6 | h6)
    · omega
    · rw [Nat.div_eq_of_lt h6] at h5; exact h5 rfl

theorem c39 {wA : Option Addr} {wN wC : Nat} {w : List Nat} {h : Heap} (r : Rd h wA wN (w.map w64v)) (hw : ∀ x ∈ w, x < 18446744073709551616) (n : Int) :
    CallsH Tryd.prog 39 #[.slice wA wN wC, .int .i64 n] h (SlT Value.bool h (unL w n) (.int .i64 (unE w n))) := by
  have hlen : w.length = wN := by have := r.len; rwa [List.length_map] at this
  refine run39 wA wN wC n _ h ⟨fun h1 => un_no1 (by omega), fun h1 => ⟨fun h2 => un_no1 (by omega), fun h2 => ?_⟩⟩
  obtain ⟨k, rfl⟩ : ∃ k : Nat, n = k := ⟨n.toNat, by omega⟩
  have e0 : IntKind.wrap .i64 (Int.tdiv (IntKind.wrap .i64 ((k : Int) + 63)) 64) = ((nw k : Nat) : Int) := by
    rw [w64 (x := (k : Int) + 63) (by omega) (by omega), Int.tdiv_eq_ediv_of_nonneg (by omega), w64 (by omega) (by omega)]; unfold nw; omega
  unfold J39_0
  rw [e0]
  refine ⟨fun h3 => ?_, fun h3 => un_no4 (by omega) (fits_len (by rw [Int.toNat_natCast]; omega)) (.refl _)⟩
  have hl : w.length = nw k := by omega
  unfold J39_1
  refine ⟨by omega, by omega, by omega, ?_⟩
  simp only [Int.toNat_natCast]
  refine ⟨fun st h' m => ∃ i : Nat, st = (i : Int) ∧ i ≤ k ∧ Fr h 1 h' (some ⟨h.size, 0, none⟩) k k (fillV Value.bool (bitAt w) k i (.bool false)) ∧ m = k - i, ⟨k, 0, rfl, by omega, by rw [fill_zero]; exact Fr.zeros _ _ _, rfl⟩, ?_⟩
  rintro st h' m ⟨i, rfl, hi, f, rfl⟩
  refine ⟨fun hlt => ?_, fun hge => ?_⟩
  · have hik : i < k := by omega
    have hiw : i / 64 < wN := by unfold nw at hl; omega
    have e4 : Int.tmod (i : Int) 64 = ((i % 64 : Nat) : Int) := by rw [Int.tmod_eq_emod_of_nonneg (by omega)]; omega
    have e5 : IntKind.wrap .i64 (Int.tdiv (i : Int) 64) = ((i / 64 : Nat) : Int) := by rw [Int.tdiv_eq_ediv_of_nonneg (by omega), w64 (by omega) (by omega)]; omega
    unfold J39_3
    simp only [Int.toNat_natCast, e_succ (show i < 4611686018427387904 by omega), e4, e5]
    refine ⟨by omega, by omega, (r.ext f.ext).geti (j := ((i / 64 : Nat) : Int)) (by omega) (by omega) fun ad hl2 hc => ⟨?_, _, hc, use (c53 (i % 64) (by omega) h') ⟨_, rfl, fun _ _ => rfl, ?_, ?_⟩⟩⟩
    · rw [add_block]; have := cellH_lt hc; rwa [add_block] at this
    · have := Nat.two_pow_pos (i % 64); omega
    simp only [Int.toNat_natCast] at hl2 hc ⊢
    have hx := hw _ (List.getElem_mem hl2)
    have hdl : w[i / 64] / 2 ^ (i % 64) ≤ w[i / 64] := Nat.div_le_self _ _
    have e6 : Int.tmod (IntKind.wrap .u64 (Int.tdiv ((w[i / 64] : Nat) : Int) ((2 ^ (i % 64) : Nat) : Int))) 2 = ((w[i / 64] / 2 ^ (i % 64) % 2 : Nat) : Int) := by
      rw [Int.tdiv_eq_ediv_of_nonneg (by omega), show ((w[i / 64] : Nat) : Int) / ((2 ^ (i % 64) : Nat) : Int) = ((w[i / 64] / 2 ^ (i % 64) : Nat) : Int) by simp, wr_u64, Int.tmod_eq_emod_of_nonneg (by omega)]; omega
    rw [e6]
    have hbit : bitAt w i = decide (w[i / 64] / 2 ^ (i % 64) % 2 = 1) := by unfold bitAt; rw [getD_lt hl2, Nat.testBit_eq_decide_div_mod_eq]
    have fin : ∀ b, bitAt w i = b → StoreH h' ((Addr.mk h.size 0 none).add (i * 1)) [.bool b] fun h_8 => ∃ m', m' < k - i ∧ ∃ i1 : Nat, ((i + 1 : Nat) : Int) = (i1 : Int) ∧ i1 ≤ k ∧ Fr h 1 h_8 (some ⟨h.size, 0, none⟩) k k (fillV Value.bool (bitAt w) k i1 (.bool false)) ∧ m' = k - i1 := fun b hb =>
      f.at1 (j := (i : Int)) (by omega) (by omega) rfl fun h'' u f' => ⟨_, by omega, i + 1, rfl, by omega, by rw [← fill_step hik, hb]; exact f', rfl⟩
    refine ⟨fun hb => ⟨by omega, by omega, fin true ?_⟩, fun hb => ⟨by omega, by omega, fin false ?_⟩⟩
    · rw [hbit, decide_eq_true (by omega)]
    · rw [hbit, decide_eq_false (by omega)]
  · have hik : i = k := by omega
    subst hik
    rw [fill_full] at f
    unfold J39_2
    simp only [Int.toNat_natCast]
    refine (c51 (row := rowOf w i) f.rd (by omega)).mono ?_
    rintro v h4 ⟨a, c, rfl, f4⟩
    have x4 : Ext h h4 := f.ext.trans f4.ext
    refine ⟨_, _, _, rfl, use (c19 f4.rd (r.ext x4) (by unfold packL; rw [packN_len, rowOf_len]; unfold nw; omega)) ⟨_, rfl, ?_⟩⟩
    by_cases hpk : packL (rowOf w i) = w
    · rw [decide_eq_true hpk]
      obtain ⟨hE, hL⟩ := un_yes (w := w) (k := i) (by omega) (by unfold fitsW; rw [decide_eq_true ⟨hl, hpk⟩])
      rw [hE, hL]
      unfold SlT
      rw [rowOf_len]
      exact ⟨_, _, rfl, f.upd f4.ext⟩
    · rw [decide_eq_false hpk]
      exact un_no4 (by omega) (by rw [Int.toNat_natCast]; unfold fitsW; rw [decide_eq_false fun hh => hpk hh.2]) x4
end Go.Proofs.YtbgjbokcngdnfaaDoor
