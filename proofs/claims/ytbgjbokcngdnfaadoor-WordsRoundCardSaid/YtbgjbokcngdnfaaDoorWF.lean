/- Words and facts that the claim's proof leans on. No condition. -/
import Derived.Test.YtbgjbokcngdnfaaDoorWB
import Derived.Test.YtbgjbokcngdnfaaDoorWP
set_option linter.unusedVariables false
set_option linter.unusedSimpArgs false
namespace Go.Proofs.YtbgjbokcngdnfaaDoor
open Go.Hx

abbrev w64v (n : Nat) : Value := .int .u64 (n : Int)
theorem w64_one {l : List Nat} : ∀ y ∈ l.map w64v, y.oneCell' = true := by intro y hy; obtain ⟨x, _, rfl⟩ := List.mem_map.1 hy; rfl
/-- A slice in new memory, and a tuple of one and another value. -/
def Sl {α : Type} (f : α → Value) (h : Heap) (l : List α) (v : Value) (h' : Heap) : Prop := ∃ a c, v = .slice a l.length c ∧ Fr h 1 h' a l.length c (l.map f)
def SlT {α : Type} (f : α → Value) (h : Heap) (l : List α) (t : Value) (v : Value) (h' : Heap) : Prop := ∃ a c, v = .tuple #[.slice a l.length c, t] ∧ Fr h 1 h' a l.length c (l.map f)
theorem SlT.nil {α : Type} {f : α → Value} {h h' : Heap} {t : Value} (x : Ext h h') : SlT f h [] t (.tuple #[.slice none 0 0, t]) h' := ⟨none, 0, rfl, .nil x⟩
theorem and63 (n : Nat) (h : n < 9223372036854775808) : bop .and .i64 (n : Int) 63 = ((n % 64 : Nat) : Int) := by
  have := bop_and n 63 h (by omega)
  rw [show (63 : Nat) = 2 ^ 6 - 1 from rfl, Nat.and_two_pow_sub_one_eq_mod] at this
  exact this
theorem div64 (n : Nat) : (n : Int) / ((2 ^ 6 : Nat) : Int) = ((n / 64 : Nat) : Int) := by simp

theorem c62 (n : Nat) (hn : n ≤ 1073741824) (h : Heap) : CallsH Tryd.prog 62 #[.int .i64 n] h (Ret (.int .i64 (nw n : Nat)) h) := by
  refine run62 n _ h ⟨?_, rfl⟩
  rw [w64 (by omega) (by omega), show ((n : Int) + 63) = ((n + 63 : Nat) : Int) by omega, div64]; rfl
theorem c53 (n : Nat) (hn : n ≤ 63) (h : Heap) : CallsH Tryd.prog 53 #[.int .i64 n] h (Ret (.int .u64 ((2 ^ n : Nat) : Int)) h) := by
  refine run53 n _ h ?_
  refine ⟨fun st h' m => ∃ k : Nat, st = (((2 ^ k : Nat) : Int), (k : Int)) ∧ h' = h ∧ k ≤ n ∧ m = n - k, ⟨n, 0, rfl, rfl, by omega, rfl⟩, ?_⟩
  rintro st _ m ⟨k, rfl, rfl, hk, rfl⟩
  refine ⟨fun hlt => ⟨_, ?_, k + 1, ?_, rfl, ?_, rfl⟩, fun hge => ?_⟩
  · simp only at hlt; omega
  · have h1 : 2 ^ k ≤ 2 ^ 62 := Nat.pow_le_pow_right (by omega) (by simp only at hlt; omega)
    rw [wr_u64, w64 (by simp only; omega) (by simp only; omega)]
    congr 1
    rw [Nat.pow_succ]; simp only; omega
  · simp only at hlt; omega
  · simp only at hge
    rw [show k = n by omega]
    exact ⟨rfl, rfl⟩
theorem c63 {wA : Option Addr} {wN wC : Nat} {w : List Nat} {h : Heap} (r : Rd h wA wN (w.map w64v)) (hw : ∀ x ∈ w, x < 18446744073709551616) (i : Nat) (hi : i / 64 < wN) (hs : i < 1073741824) :
    CallsH Tryd.prog 63 #[.slice wA wN wC, .int .i64 i] h (Ret (.bool (bitAt w i)) h) := by
  refine run63 wA wN wC i _ h ?_
  unfold VC63
  rw [div64, and63 i (by omega)]
  refine ⟨by omega, by omega, r.geti (by omega) (by omega) fun ad hl hc => ⟨_, hc, by omega, ?_⟩⟩
  simp only [Int.toNat_natCast] at hc hl ⊢
  have hb : w.getD (i / 64) 0 = w[i / 64] := by rw [List.getD_eq_getElem?_getD, List.getElem?_eq_getElem hl]; rfl
  have hx := hw _ (List.getElem_mem hl)
  rw [show min (i % 64) (IntKind.bits .u64) = i % 64 by simp only [IntKind.bits]; omega, show ((w[i / 64] : Nat) : Int) / 2 ^ (i % 64) = ((w[i / 64] / 2 ^ (i % 64) : Nat) : Int) by simp]
  have h1 := and64 (w[i / 64] / 2 ^ (i % 64)) 1 (Nat.lt_of_le_of_lt (Nat.div_le_self _ _) hx) (by omega)
  rw [Nat.and_one_is_mod] at h1
  rw [show (1 : Int) = ((1 : Nat) : Int) from rfl, h1]
  have hbit : bitAt w i = decide (w[i / 64] / 2 ^ (i % 64) % 2 = 1) := by unfold bitAt; rw [hb, Nat.testBit_eq_decide_div_mod_eq]
  refine ⟨fun h5 => ⟨?_, rfl⟩, fun h5 => ⟨?_, rfl⟩⟩
  · rw [hbit, decide_eq_true (by omega)]
  · rw [hbit, decide_eq_false (by omega)]

theorem getD_at {l : List Bool} {k : Nat} {b : Bool} (h : l[k]? = some b) : ∃ hk : k < l.length, l[k] = b := List.getElem?_eq_some_iff.1 h
theorem c50 {rA : Option Addr} {rN rC : Nat} {row : List Bool} {h : Heap} (r : Rd h rA rN (bools row)) (hn : rN ≤ 1073741824) : CallsH Tryd.prog 50 #[.slice rA rN rC] h (Sl w64v h (packL row)) := by
  have hlen : row.length = rN := by have := r.len; rwa [List.length_map] at this
  refine run50 rA rN rC _ h (use (c62 rN hn h) ⟨_, rfl, by omega, by omega, by unfold nw; omega, ?_⟩)
  simp only [Int.toNat_natCast]
  have f0 : Fr h 1 (Array.push h (Obj.cells (zeroRow #[Value.int IntKind.u64 0] (nw rN * 1)).toArray 35)) (some ⟨h.size, 0, none⟩) (nw rN) (nw rN) ((packN (nw rN) []).map w64v) := by
    rw [packN_zero, List.map_replicate]; exact Fr.zeros _ _ _
  refine ⟨fun st h' m => ∃ k : Nat, st = (k : Int) ∧ k ≤ rN ∧ Fr h 1 h' (some ⟨h.size, 0, none⟩) (nw rN) (nw rN) ((packN (nw rN) (row.take k)).map w64v) ∧ m = rN - k, ⟨rN, 0, rfl, by omega, by simpa using f0, rfl⟩, ?_⟩
  rintro st h' m ⟨k, rfl, hk, f, rfl⟩
  refine ⟨fun hlt => ?_, fun hge => ?_⟩
  · have hk2 : k < row.length := by omega
    have hm : k / 64 < nw rN := by unfold nw; omega
    unfold J50_1
    simp only [Int.toNat_natCast]
    rw [and63 k (by omega), div64]
    have r' := r.ext f.ext
    refine ⟨by omega, by omega, r'.geti (j := (k : Int)) (by omega) (by omega) fun ad hl hc => ⟨_, hc, ?_⟩⟩
    simp only [Int.toNat_natCast] at hl hc ⊢
    have e2 : IntKind.wrap .i64 ((k : Int) + 1) = ((k + 1 : Nat) : Int) := by rw [w64 (by omega) (by omega)]; omega
    cases hb : row[k] with
    | false => exact ⟨_, by omega, k + 1, e2, by omega, by rw [packN_false hk2 hm hb]; exact f, rfl⟩
    | true =>
      have hc2 := f.rd.getN (packN_at (row.take k) hm)
      have hbd := chunk_bound (row := row) (i := k) (by omega)
      have hp : 2 ^ (k % 64) ≤ 2 ^ 63 := Nat.pow_le_pow_right (by omega) (by omega)
      have e3 : bop .or .u64 ((wv (chunk (row.take k) (k / 64)) : Nat) : Int) (IntKind.wrap .u64 (1 * 2 ^ min (k % 64) (IntKind.bits .u64))) = ((wv (chunk (row.take k) (k / 64)) + 2 ^ (k % 64) : Nat) : Int) := by
        rw [show min (k % 64) (IntKind.bits .u64) = k % 64 by simp only [IntKind.bits]; omega, Int.one_mul, show (2 : Int) ^ (k % 64) = ((2 ^ (k % 64) : Nat) : Int) by simp,
          show IntKind.wrap .u64 ((2 ^ (k % 64) : Nat) : Int) = ((2 ^ (k % 64) : Nat) : Int) by rw [wr_u64]; omega, or64 _ _ (by omega) (by omega), or_add hbd]
      refine ⟨by omega, by omega, _, hc2, by omega, by omega, by omega, ?_⟩
      simp only [e3, e2]
      refine f.at1 (j := ((k / 64 : Nat) : Int)) (by omega) (by omega) rfl fun h'' u f' => ⟨_, by omega, k + 1, rfl, by omega, ?_, rfl⟩
      rw [packN_step hk2, hb, Bool.toNat_true, Nat.mul_one, List.map_set]
      simp only [Int.toNat_natCast] at f'
      exact f'
  · have hk3 : k = rN := by omega
    subst hk3
    have e1 : (packL row).length = nw k := by unfold packL; rw [packN_len, hlen]
    unfold Sl
    rw [e1]
    refine ⟨_, _, rfl, ?_⟩
    rw [List.take_of_length_le (by omega)] at f
    unfold packL
    rw [hlen]
    simpa using f

theorem c51 {rA : Option Addr} {rN rC : Nat} {row : List Bool} {h : Heap} (r : Rd h rA rN (bools row)) (hn : rN ≤ 1073741824) : CallsH Tryd.prog 51 #[.slice rA rN rC] h (Sl w64v h (packL row)) := by
  have hlen : row.length = rN := by have := r.len; rwa [List.length_map] at this
  refine run51 rA rN rC _ h ?_
  refine ⟨fun st h' m => ∃ (k : Nat) (a : Option Addr) (c : Nat), st = ((a, nw k, c), (k : Int)) ∧ k ≤ rN ∧ Fr h 1 h' a (nw k) c ((packN (nw k) (row.take k)).map w64v) ∧ m = rN - k, ⟨rN, 0, none, 0, rfl, by omega, .nil (.refl _), rfl⟩, ?_⟩
  rintro st h' m ⟨k, a, c, rfl, hk, f, rfl⟩
  refine ⟨fun hlt => ?_, fun hge => ?_⟩
  · simp only at hlt
    have hk2 : k < row.length := by omega
    have e2 : IntKind.wrap .i64 ((k : Int) + 1) = ((k + 1 : Nat) : Int) := by rw [w64 (by omega) (by omega)]; omega
    have e4 : Int.tmod (k : Int) 64 = ((k % 64 : Nat) : Int) := by rw [Int.tmod_eq_emod_of_nonneg (by omega)]; omega
    have e5 : IntKind.wrap .i64 (Int.tdiv (k : Int) 64) = ((k / 64 : Nat) : Int) := by rw [Int.tdiv_eq_ediv_of_nonneg (by omega), w64 (by omega) (by omega)]; omega
    have body : ∀ a c h2, Fr h 1 h2 a (nw (k + 1)) c ((packN (nw (k + 1)) (row.take k)).map w64v) → J51_2 Tryd.prog rA rN k (fun st' h'_1 => ∃ m', m' < rN - k ∧ ∃ (k : Nat) (a : Option Addr) (c : Nat), st' = ((a, nw k, c), (k : Int)) ∧ k ≤ rN ∧ Fr h 1 h'_1 a (nw k) c ((packN (nw k) (row.take k)).map w64v) ∧ m' = rN - k) a (nw (k + 1)) c h2 := fun a c h2 f2 => by
      have hm : k / 64 < nw (k + 1) := by unfold nw; omega
      unfold J51_2
      have r' := r.ext f2.ext
      refine ⟨by omega, by omega, r'.geti (by omega) (by omega) fun ad hl hc => ⟨_, hc, ?_⟩⟩
      simp only [Int.toNat_natCast, e5, e4, e2] at hl hc ⊢
      cases hb : row[k] with
      | false => exact ⟨_, by omega, k + 1, a, c, rfl, by omega, by rw [packN_false hk2 hm hb]; exact f2, rfl⟩
      | true =>
        have hbd := chunk_bound (row := row) (i := k) (by omega)
        have hp : 2 ^ (k % 64) ≤ 2 ^ 63 := Nat.pow_le_pow_right (by omega) (by omega)
        obtain ⟨ad, rfl⟩ := f2.rd.some (by omega)
        have hc2 := f2.rd.getN (packN_at (row.take k) hm)
        refine ⟨by omega, by omega, by rw [add_block]; exact f2.own.lt, _, hc2, use (c53 (k % 64) (by omega) h2) ⟨_, rfl, fun _ _ => rfl, by omega, by omega, ?_⟩⟩
        rw [show IntKind.wrap .u64 (((wv (chunk (row.take k) (k / 64)) : Nat) : Int) + ((2 ^ (k % 64) : Nat) : Int)) = ((wv (chunk (row.take k) (k / 64)) + 2 ^ (k % 64) : Nat) : Int) by rw [wr_u64]; omega]
        refine f2.set1 (j := ((k / 64 : Nat) : Int)) (by omega) (by omega) rfl fun h'' u f' => ⟨_, by omega, k + 1, _, _, rfl, by omega, ?_, rfl⟩
        rw [packN_step hk2, hb, Bool.toNat_true, Nat.mul_one, List.map_set]
        simp only [Int.toNat_natCast] at f'
        exact f'
    unfold J51_1
    simp only [e4]
    refine ⟨fun h0 => ?_, fun h0 => ?_⟩
    · have hnw : nw (k + 1) = nw k + 1 := by unfold nw; omega
      refine app1 f (v := .int .u64 0) rfl (by unfold nw; omega) fun a' c' h'' f' => ?_
      rw [← hnw] at f' ⊢
      refine body a' c' h'' ?_
      rw [hnw, packN_grow (by rw [List.length_take]; unfold nw; omega), List.map_append]
      rw [hnw] at f'
      exact f'
    · have hnw : nw (k + 1) = nw k := by unfold nw; omega
      have := body a c h'
      rw [hnw] at this
      exact this f
  · simp only at hge
    have hk3 : k = rN := by omega
    subst hk3
    have e1 : (packL row).length = nw k := by unfold packL; rw [packN_len, hlen]
    refine ⟨a, c, by rw [e1], ?_⟩
    rw [e1]
    rw [List.take_of_length_le (by omega)] at f
    unfold packL
    rw [hlen]
    exact f

def pkL (row : List Bool) : List Nat := if 16384 < row.length then [] else packL row
def pkE (row : List Bool) : Int := if 16384 < row.length then 2 else 0
theorem c20 {rA : Option Addr} {rN rC : Nat} {row : List Bool} {h : Heap} (r : Rd h rA rN (bools row)) : CallsH Tryd.prog 20 #[.slice rA rN rC] h (SlT w64v h (pkL row) (.int .i64 (pkE row))) := by
  have hlen : row.length = rN := by have := r.len; rwa [List.length_map] at this
  refine run20 rA rN rC _ h ⟨fun h1 => ?_, fun h1 => (c50 r (by omega)).mono ?_⟩
  · unfold pkL pkE; rw [if_pos (by omega), if_pos (by omega)]; exact .nil (.refl _)
  · rintro v h' ⟨a, c, rfl, f⟩
    unfold pkL pkE; rw [if_neg (by omega), if_neg (by omega)]
    exact ⟨_, _, _, rfl, _, _, rfl, f⟩
theorem c21 {rA : Option Addr} {rN rC : Nat} {row : List Bool} {h : Heap} (r : Rd h rA rN (bools row)) : CallsH Tryd.prog 21 #[.slice rA rN rC] h (SlT w64v h (pkL row) (.int .i64 (pkE row))) := by
  have hlen : row.length = rN := by have := r.len; rwa [List.length_map] at this
  refine run21 rA rN rC _ h ⟨fun h1 => ?_, fun h1 => (c51 r (by omega)).mono ?_⟩
  · unfold pkL pkE; rw [if_pos (by omega), if_pos (by omega)]; exact .nil (.refl _)
  · rintro v h' ⟨a, c, rfl, f⟩
    unfold pkL pkE; rw [if_neg (by omega), if_neg (by omega)]
    exact ⟨_, _, _, rfl, _, _, rfl, f⟩

/-- A row's number. -/
def ixV (row : List Bool) : Value := if 62 < row.length then .tuple #[.int .i64 0, .int .i64 2] else .tuple #[.int .i64 (wv row), .int .i64 0]
theorem wv_62 {row : List Bool} (h : row.length ≤ 62) : wv row < 4611686018427387904 := Nat.lt_of_lt_of_le (wv_lt row) (Nat.le_trans (Nat.pow_le_pow_right (by omega) h) (by decide))
theorem c24 {rA : Option Addr} {rN rC : Nat} {row : List Bool} {h : Heap} (r : Rd h rA rN (bools row)) : CallsH Tryd.prog 24 #[.slice rA rN rC] h (Xt (ixV row) h) := by
  have hlen : row.length = rN := by have := r.len; rwa [List.length_map] at this
  refine run24 rA rN rC _ h ⟨fun h1 => ?_, fun h1 => ⟨fun h2 => ?_, fun h2 => (c50 r (by omega)).mono ?_⟩⟩
  · unfold ixV; rw [if_pos (by omega)]; exact ⟨rfl, .refl _⟩
  · unfold ixV; rw [if_neg (by omega), List.length_eq_zero_iff.1 (by omega : row.length = 0)]; exact ⟨rfl, .refl _⟩
  · rintro v h' ⟨a, c, rfl, f⟩
    have hpl : (packL row).length = 1 := by unfold packL; rw [packN_len]; unfold nw; omega
    have hx : (packL row)[0]? = some (wv row) := by
      unfold packL
      rw [packN_at _ (by unfold nw; omega)]
      congr 2
      unfold chunk
      rw [Nat.mul_zero, List.drop_zero, List.take_of_length_le (by omega)]
    obtain ⟨ad, rfl⟩ := f.rd.some (by omega)
    have hv := wv_62 (row := row) (by omega)
    refine ⟨_, _, _, rfl, by omega, by omega, _, f.rd.getN hx, ?_, f.ext⟩
    unfold ixV; rw [if_neg (by omega), w64 (by omega) (by omega)]
theorem c25 {rA : Option Addr} {rN rC : Nat} {row : List Bool} {h : Heap} (r : Rd h rA rN (bools row)) : CallsH Tryd.prog 25 #[.slice rA rN rC] h (Xt (ixV row) h) := by
  have hlen : row.length = rN := by have := r.len; rwa [List.length_map] at this
  refine run25 rA rN rC _ h ⟨fun h1 => ?_, fun h1 => ?_⟩
  · unfold ixV; rw [if_pos (by omega)]; exact ⟨rfl, .refl _⟩
  · refine ⟨fun st h' m => ∃ k : Nat, st = ((wv (row.take k) : Int), (k : Int)) ∧ h' = h ∧ k ≤ rN ∧ m = rN - k, ⟨rN, 0, rfl, rfl, by omega, rfl⟩, ?_⟩
    rintro st _ m ⟨k, rfl, rfl, hk, rfl⟩
    rename_i h'
    refine ⟨fun hlt => ?_, fun hge => ?_⟩
    · simp only at hlt
      have hk2 : k < row.length := by omega
      refine ⟨by simp only; omega, by simp only; omega, r.geti (by simp only; omega) (by simp only; omega) fun ad hl hc => ⟨_, hc, ?_⟩⟩
      simp only [Int.toNat_natCast] at hl hc ⊢
      have e2 : IntKind.wrap .i64 ((k : Int) + 1) = ((k + 1 : Nat) : Int) := by rw [w64 (by omega) (by omega)]; omega
      have hs : wv (row.take (k + 1)) = wv (row.take k) + 2 ^ k * row[k].toNat := by
        rw [List.take_succ_eq_append_getElem hk2, wv_snoc, List.length_take, show min k row.length = k by omega]
      have h3 := wv_62 (row := row.take (k + 1)) (by simp; omega)
      have h4 := wv_62 (row := row.take k) (by simp; omega)
      have hp : 2 ^ k ≤ 2 ^ 61 := Nat.pow_le_pow_right (by omega) (by omega)
      cases hb : row[k] with
      | false =>
        rw [hb] at hs
        exact ⟨_, by omega, k + 1, by rw [e2, hs]; simp, by trivial, by omega, rfl⟩
      | true =>
        rw [hb] at hs
        refine BIf.t (use (c53 k (by omega) h') ⟨_, rfl, _, by omega, k + 1, ?_, by trivial, by omega, rfl⟩)
        rw [Bool.toNat_true, Nat.mul_one] at hs
        rw [e2, hs]
        generalize 2 ^ k = p at *
        rw [w64 (x := (p : Int)) (by omega) (by omega), w64 (by omega) (by omega)]
        simp
    · simp only at hge
      refine ⟨?_, .refl _⟩
      unfold ixV
      rw [if_neg (by omega), List.take_of_length_le (by omega)]

theorem c19 {aA bA : Option Addr} {aN aC bN bC : Nat} {a b : List Nat} {h : Heap} (ra : Rd h aA aN (a.map w64v)) (rb : Rd h bA bN (b.map w64v)) (hn : aN ≤ 4611686018427387904) : CallsH Tryd.prog 19 #[.slice aA aN aC, .slice bA bN bC] h (Ret (.bool (decide (a = b))) h) := by
  have hla : a.length = aN := by have := ra.len; rwa [List.length_map] at this
  have hlb : b.length = bN := by have := rb.len; rwa [List.length_map] at this
  refine run19 aA aN aC bA bN bC _ h ⟨fun h1 => ?_, fun h1 => ?_⟩
  · refine ⟨fun st h' m => ∃ k : Nat, st = (k : Int) ∧ h' = h ∧ k ≤ aN ∧ a.take k = b.take k ∧ m = aN - k, ⟨aN, 0, rfl, rfl, by omega, rfl, rfl⟩, ?_⟩
    rintro st _ m ⟨k, rfl, rfl, hk, ht, rfl⟩
    rename_i h'
    refine ⟨fun hlt => ?_, fun hge => ?_⟩
    · refine ⟨by omega, by omega, ra.geti (by omega) (by omega) fun ad hl hc => ⟨_, hc, by omega, by omega, rb.geti (by omega) (by omega) fun ad2 hl2 hc2 => ⟨_, hc2, ?_⟩⟩⟩
      simp only [Int.toNat_natCast] at hl hl2 ⊢
      have e2 : IntKind.wrap .i64 ((k : Int) + 1) = ((k + 1 : Nat) : Int) := by rw [w64 (by omega) (by omega)]; omega
      refine ⟨fun he => ⟨_, by omega, k + 1, e2, by trivial, by omega, ?_, rfl⟩, fun hne => ⟨?_, rfl⟩⟩
      · rw [List.take_succ_eq_append_getElem hl, List.take_succ_eq_append_getElem hl2, ht, show a[k] = b[k] by omega]
      · rw [decide_eq_false]
        rintro rfl
        exact hne rfl
    · rw [List.take_of_length_le (by omega), List.take_of_length_le (by omega)] at ht
      exact ⟨by rw [decide_eq_true ht], rfl⟩
  · refine ⟨?_, rfl⟩
    rw [decide_eq_false]
    rintro rfl
    omega
theorem c26 {aA bA : Option Addr} {aN aC bN bC : Nat} {a b : List Bool} {h : Heap} (ra : Rd h aA aN (bools a)) (rb : Rd h bA bN (bools b)) (hn : aN ≤ 4611686018427387904) : CallsH Tryd.prog 26 #[.slice aA aN aC, .slice bA bN bC] h (Ret (.bool (decide (a = b))) h) := by
  have hla : a.length = aN := by have := ra.len; rwa [List.length_map] at this
  have hlb : b.length = bN := by have := rb.len; rwa [List.length_map] at this
  refine run26 aA aN aC bA bN bC _ h ⟨fun h1 => ?_, fun h1 => ?_⟩
  · refine ⟨fun st h' m => ∃ k : Nat, st = (k : Int) ∧ h' = h ∧ k ≤ aN ∧ a.take k = b.take k ∧ m = aN - k, ⟨aN, 0, rfl, rfl, by omega, rfl, rfl⟩, ?_⟩
    rintro st _ m ⟨k, rfl, rfl, hk, ht, rfl⟩
    rename_i h'
    refine ⟨fun hlt => ?_, fun hge => ?_⟩
    · refine ⟨by omega, by omega, ra.geti (by omega) (by omega) fun ad hl hc => ⟨_, hc, by omega, by omega, rb.geti (by omega) (by omega) fun ad2 hl2 hc2 => ⟨_, hc2, ?_⟩⟩⟩
      simp only [Int.toNat_natCast] at hl hl2 ⊢
      have e2 : IntKind.wrap .i64 ((k : Int) + 1) = ((k + 1 : Nat) : Int) := by rw [w64 (by omega) (by omega)]; omega
      refine ⟨fun he => ⟨_, by omega, k + 1, e2, by trivial, by omega, ?_, rfl⟩, fun hne => ⟨?_, rfl⟩⟩
      · rw [List.take_succ_eq_append_getElem hl, List.take_succ_eq_append_getElem hl2, ht, he]
      · rw [decide_eq_false]
        rintro rfl
        exact hne rfl
    · rw [List.take_of_length_le (by omega), List.take_of_length_le (by omega)] at ht
      exact ⟨by rw [decide_eq_true ht], rfl⟩
  · refine ⟨?_, rfl⟩
    rw [decide_eq_false]
    rintro rfl
    omega
end Go.Proofs.YtbgjbokcngdnfaaDoor
