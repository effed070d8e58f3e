/- Words and facts that the claim's proof leans on. No condition. -/
import Derived.Test.YtbgjbokcngdnfaaDoorWI
import Derived.Test.YtbgjbokcngdnfaaDoorWQ
set_option linter.unusedVariables false
set_option linter.unusedSimpArgs false
namespace Go.Proofs.YtbgjbokcngdnfaaDoor
open Go.Hx

/-! ### Bits that are 1 -/
theorem natdiv (n k : Nat) : (n : Int) / ((k : Nat) : Int) = ((n / k : Nat) : Int) := by simp
theorem c64 (n : Nat) (hn : n < 18446744073709551616) (h : Heap) : CallsH Tryd.prog 64 #[.int .u64 n] h (Ret (.int .i64 (pc n : Nat)) h) := by
  refine run64 n _ h ?_
  obtain ⟨bs, hl, hb, hv, hs⟩ := pop_bytes n hn
  have a1 := Nat.and_le_right (n := n / 2) (m := 6148914691236517205)
  have a2 := Nat.and_le_right (n := n) (m := 6148914691236517205)
  have e1 : IntKind.wrap .u64 ((bop .and .u64 ((n : Int) / ((2 ^ 1 : Nat) : Int)) 6148914691236517205) + (bop .and .u64 (n : Int) 6148914691236517205)) = ((p1 n : Nat) : Int) := by
    rw [natdiv, show (6148914691236517205 : Int) = ((6148914691236517205 : Nat) : Int) from rfl, and64 _ _ (by omega) (by omega), and64 _ _ hn (by omega), wr_u64]
    unfold p1
    rw [show (2 ^ 1 : Nat) = 2 from rfl]
    omega
  have h1 : p1 n ≤ 12297829382473034410 := by unfold p1; omega
  have b1 := Nat.and_le_right (n := p1 n / 4) (m := 3689348814741910323)
  have b2 := Nat.and_le_right (n := p1 n) (m := 3689348814741910323)
  have e2 : IntKind.wrap .u64 ((bop .and .u64 (((p1 n : Nat) : Int) / ((2 ^ 2 : Nat) : Int)) 3689348814741910323) + (bop .and .u64 ((p1 n : Nat) : Int) 3689348814741910323)) = ((p2 (p1 n) : Nat) : Int) := by
    rw [natdiv, show (3689348814741910323 : Int) = ((3689348814741910323 : Nat) : Int) from rfl, and64 _ _ (by omega) (by omega), and64 _ _ (by omega) (by omega), wr_u64]
    unfold p2
    rw [show (2 ^ 2 : Nat) = 4 from rfl]
    omega
  have h2 : p2 (p1 n) ≤ 7378697629483820646 := by unfold p2; omega
  have e3 : bop .and .u64 (IntKind.wrap .u64 ((((p2 (p1 n) : Nat) : Int) / ((2 ^ 4 : Nat) : Int)) + ((p2 (p1 n) : Nat) : Int))) 1085102592571150095 = ((p3 (p2 (p1 n)) : Nat) : Int) := by
    rw [natdiv, show (2 ^ 4 : Nat) = 16 from rfl, show IntKind.wrap .u64 (((p2 (p1 n) / 16 : Nat) : Int) + ((p2 (p1 n) : Nat) : Int)) = ((p2 (p1 n) / 16 + p2 (p1 n) : Nat) : Int) by rw [wr_u64]; omega,
      show (1085102592571150095 : Int) = ((1085102592571150095 : Nat) : Int) from rfl, and64 _ _ (by omega) (by omega)]
    rfl
  have h3 : p3 (p2 (p1 n)) ≤ 1085102592571150095 := Nat.and_le_right
  unfold VC64
  rw [e1, e2, e3]
  rw [hv] at h3 ⊢
  match bs, hl, hb, hs, h3 with
  | [b0, b1, b2, b3, b4, b5, b6, b7], _, hb, hs, h3 =>
    simp only [List.mem_cons, List.not_mem_nil, or_false, forall_eq_or_imp, forall_eq] at hb
    obtain ⟨i0, i1, i2, i3, i4, i5, i6, i7⟩ := hb
    generalize hX : v256 [b0, b1, b2, b3, b4, b5, b6, b7] = X at h3 ⊢
    obtain ⟨Y, hY⟩ : ∃ Y, Y = X + X / 256 := ⟨_, rfl⟩
    obtain ⟨Z, hZ⟩ : ∃ Z, Z = Y + Y / 65536 := ⟨_, rfl⟩
    obtain ⟨U, hU⟩ : ∃ U, U = Z + Z / 4294967296 := ⟨_, rfl⟩
    obtain ⟨hf, hu⟩ := pop_final i0 i1 i2 i3 i4 i5 i6 i7 hX.symm hY hZ hU
    have f1 : IntKind.wrap .u64 ((X : Int) + ((X : Int) / ((2 ^ 8 : Nat) : Int))) = (Y : Int) := by rw [natdiv, wr_u64, hY, show (2 ^ 8 : Nat) = 256 from rfl]; omega
    have f2 : IntKind.wrap .u64 ((Y : Int) + ((Y : Int) / ((2 ^ 16 : Nat) : Int))) = (Z : Int) := by rw [natdiv, wr_u64, hZ, show (2 ^ 16 : Nat) = 65536 from rfl]; omega
    have f3 : IntKind.wrap .u64 ((Z : Int) + ((Z : Int) / ((2 ^ 32 : Nat) : Int))) = (U : Int) := by rw [natdiv, wr_u64, hU, show (2 ^ 32 : Nat) = 4294967296 from rfl]; omega
    rw [f1, f2, f3, w64 (by omega) (by omega)]
    have := bop_and U 127 hu (by omega)
    rw [show (127 : Nat) = 2 ^ 7 - 1 from rfl, Nat.and_two_pow_sub_one_eq_mod] at this
    refine ⟨?_, rfl⟩
    rw [show (127 : Int) = ((2 ^ 7 - 1 : Nat) : Int) from rfl, this, show (2 ^ 7 : Nat) = 128 from rfl, hf, ← hs]
    simp [Nat.add_assoc]

def ones (w : List Nat) : Nat := (w.map pc).sum
theorem ones_take {w : List Nat} {k : Nat} (h : k < w.length) : ones (w.take (k + 1)) = ones (w.take k) + pc w[k] := by
  unfold ones; rw [List.take_succ_eq_append_getElem h, List.map_append, List.sum_append]; simp
theorem ones_le (w : List Nat) : ones w ≤ 64 * w.length := by
  induction w with
  | nil => simp [ones]
  | cons x w ih => have := pc_le x; simp only [ones, List.map_cons, List.sum_cons, List.length_cons] at *; omega
theorem c42 {wA : Option Addr} {wN wC : Nat} {w : List Nat} {h : Heap} (r : Rd h wA wN (w.map w64v)) (hw : ∀ x ∈ w, x < 18446744073709551616) (hn : wN ≤ 140737488355328) : CallsH Tryd.prog 42 #[.slice wA wN wC] h (Ret (.int .i64 (ones w : Nat)) h) := by
  have hlen : w.length = wN := by have := r.len; rwa [List.length_map] at this
  refine run42 wA wN wC _ h ?_
  refine ⟨fun st h' m => ∃ k : Nat, st = (((ones (w.take k) : Nat) : Int), (k : Int)) ∧ h' = h ∧ k ≤ wN ∧ m = wN - k, ⟨wN, 0, rfl, rfl, by omega, rfl⟩, ?_⟩
  rintro st _ m ⟨k, rfl, rfl, hk, rfl⟩
  rename_i h'
  refine ⟨fun hlt => ?_, fun hge => ?_⟩
  · simp only at hlt
    unfold J42_1
    refine ⟨by simp only; omega, by simp only; omega, r.geti (j := (k : Int)) (by omega) (by omega) fun ad hl hc => ⟨_, hc, ?_⟩⟩
    simp only [Int.toNat_natCast] at hl hc ⊢
    have h1 := ones_take hl
    have h2 := ones_le (w.take (k + 1))
    rw [List.length_take] at h2
    refine use (c64 _ (hw _ (List.getElem_mem hl)) h') ⟨_, rfl, _, by omega, k + 1, ?_, by trivial, by omega, rfl⟩
    rw [h1] at h2 ⊢
    rw [w64 (by omega) (by omega), w64 (by omega) (by omega)]
    simp
  · simp only at hge
    unfold J42_0
    rw [List.take_of_length_le (by omega)]
    exact ⟨rfl, rfl⟩
theorem c43 {wA : Option Addr} {wN wC : Nat} {w : List Nat} {h : Heap} (r : Rd h wA wN (w.map w64v)) (hw : ∀ x ∈ w, x < 18446744073709551616) (hn : wN ≤ 140737488355328) : CallsH Tryd.prog 43 #[.slice wA wN wC] h (Ret (.int .i64 (ones w : Nat)) h) := by
  have hlen : w.length = wN := by have := r.len; rwa [List.length_map] at this
  refine run43 wA wN wC _ h ?_
  refine ⟨fun st h' m => ∃ k : Nat, st = (((ones (w.take k) : Nat) : Int), (k : Int)) ∧ h' = h ∧ k ≤ wN ∧ m = wN - k, ⟨wN, 0, rfl, rfl, by omega, rfl⟩, ?_⟩
  rintro st _ m ⟨k, rfl, rfl, hk, rfl⟩
  rename_i h'
  refine ⟨fun hlt => ?_, fun hge => ?_⟩
  · simp only at hlt
    unfold J43_1
    refine ⟨by simp only; omega, by simp only; omega, r.geti (j := (k : Int)) (by omega) (by omega) fun ad hl hc => ⟨_, hc, ?_⟩⟩
    simp only [Int.toNat_natCast] at hl hc ⊢
    have h1 := ones_take hl
    have h2 := ones_le (w.take (k + 1))
    rw [List.length_take] at h2
    have hx := hw _ (List.getElem_mem hl)
    refine ⟨fun st h2 m => ∃ (x acc j : Nat), st = ((acc : Int), (x : Int)) ∧ h2 = h' ∧ x < 2 ^ j ∧ x < 18446744073709551616 ∧ acc + fsum 1 j x = ones (w.take (k + 1)) ∧ m = x, ⟨w[k], w[k], ones (w.take k), 64, rfl, rfl, by omega, hx, h1.symm, rfl⟩, ?_⟩
    rintro st _ m ⟨x, acc, j, rfl, rfl, hxj, hx2, hacc, rfl⟩
    refine ⟨fun hpos => ?_, fun hz => ?_⟩
    · simp only at hpos
      cases j with
      | zero => simp at hxj; omega
      | succ j =>
        rw [fsum, Nat.pow_one] at hacc
        rw [Nat.pow_succ] at hxj
        refine ⟨m / 2, by omega, m / 2, acc + m % 2, j, ?_, rfl, by omega, by omega, by omega, rfl⟩
        simp only
        rw [mod2_i64, w64 (x := ((m % 2 : Nat) : Int)) (by omega) (by omega), w64 (by omega) (by omega), Int.tdiv_eq_ediv_of_nonneg (by omega), wr_u64]
        congr 1
        omega
    · simp only at hz
      have : m = 0 := by omega
      subst this
      rw [pc_zero, Nat.add_zero] at hacc
      unfold J43_2
      simp only
      rw [e_succ (by omega), hacc]
      exact ⟨_, by omega, k + 1, rfl, by trivial, by omega, rfl⟩
  · simp only at hge
    unfold J43_0
    rw [List.take_of_length_le (by omega)]
    exact ⟨rfl, rfl⟩

/-! ### Two lists of words -/
def op2 (meet : Bool) (x y : Nat) : Nat := if meet then x &&& y else x ^^^ y
theorem op2_lt {meet : Bool} {x y : Nat} (hx : x < 18446744073709551616) (hy : y < 18446744073709551616) : op2 meet x y < 18446744073709551616 := by
  unfold op2; split
  · exact Nat.lt_of_le_of_lt Nat.and_le_left hx
  · exact Nat.xor_lt_two_pow (n := 64) hx hy
def mxE (a b : List Nat) : Int := if 16384 < a.length ∨ 16384 < b.length then 2 else if a.length = b.length then 0 else 4
def mxG (meet : Bool) (a b : List Nat) (i : Nat) : Nat := op2 meet (a.getD i 0) (b.getD i 0)
def mxL (meet : Bool) (a b : List Nat) : List Nat := if mxE a b = 0 then (List.range a.length).map (mxG meet a b) else []
theorem getD_ltN {l : List Nat} {i : Nat} (h : i < l.length) : l.getD i 0 = l[i] := getD_lt h 0
theorem c46 {aA bA : Option Addr} {aN aC bN bC : Nat} {a b : List Nat} {h : Heap} (ra : Rd h aA aN (a.map w64v)) (rb : Rd h bA bN (b.map w64v)) (meet : Bool) (fv : FuncId) (ha : ∀ x ∈ a, x < 18446744073709551616) (hb : ∀ x ∈ b, x < 18446744073709551616)
    (hok : callOk Tryd.prog fv = true) (cf : ∀ (x y : Nat) (h' : Heap), x < 18446744073709551616 → y < 18446744073709551616 → CallsH Tryd.prog fv #[w64v x, w64v y] h' (Ret (w64v (op2 meet x y)) h')) :
    CallsH Tryd.prog 46 #[.slice aA aN aC, .slice bA bN bC, .func (.func fv) #[] #[]] h (SlT w64v h (mxL meet a b) (.int .i64 (mxE a b))) := by
  have hla : a.length = aN := by have := ra.len; rwa [List.length_map] at this
  have hlb : b.length = bN := by have := rb.len; rwa [List.length_map] at this
  have hno : ∀ e, mxE a b = e → e ≠ 0 → SlT w64v h (mxL meet a b) (.int .i64 (mxE a b)) (.tuple #[.slice none 0 0, .int .i64 e]) h := fun e he h0 => by
    unfold mxL; rw [he, if_neg h0]; exact .nil (.refl _)
  refine run46 aA aN aC bA bN bC _ _ h ⟨fun h1 => hno 2 (by unfold mxE; rw [if_pos (by omega)]) (by omega), fun h1 => ⟨fun h2 => hno 2 (by unfold mxE; rw [if_pos (by omega)]) (by omega), fun h2 => ⟨fun h3 => ?_, fun h3 => hno 4 (by unfold mxE; rw [if_neg (by omega), if_neg (by omega)]) (by omega)⟩⟩⟩
  have hE : mxE a b = 0 := by unfold mxE; rw [if_neg (by omega), if_pos (by omega)]
  unfold J46_1
  refine ⟨by omega, by omega, by omega, ?_⟩
  simp only [Int.toNat_natCast]
  refine ⟨fun st h' m => ∃ k : Nat, st = (k : Int) ∧ k ≤ aN ∧ Fr h 1 h' (some ⟨h.size, 0, none⟩) aN aN (fillV w64v (mxG meet a b) aN k (.int .u64 0)) ∧ m = aN - k, ⟨aN, 0, rfl, by omega, by rw [fill_zero]; exact Fr.zeros _ _ _, rfl⟩, ?_⟩
  rintro st h' m ⟨k, rfl, hk, f, rfl⟩
  refine ⟨fun hlt => ?_, fun hge => ?_⟩
  · have hka : k < a.length := by omega
    have hkb : k < b.length := by omega
    unfold J46_3
    refine ⟨by omega, by omega, (ra.ext f.ext).geti (j := (k : Int)) (by omega) (by omega) fun ad hl hc => ⟨_, hc, by omega, by omega, (rb.ext f.ext).geti (j := (k : Int)) (by omega) (by omega) fun ad2 hl2 hc2 => ⟨_, hc2, ?_⟩⟩⟩
    simp only [Int.toNat_natCast, e_succ (show k < 4611686018427387904 by omega)] at hl hl2 ⊢
    refine CallV.func hok (use (cf a[k] b[k] h' (ha _ (List.getElem_mem hl)) (hb _ (List.getElem_mem hl2))) ⟨_, rfl, by omega, by omega, ?_⟩)
    refine f.at1 (j := (k : Int)) (by omega) (by omega) rfl fun h'' u f' => ⟨_, by omega, k + 1, rfl, by omega, ?_, rfl⟩
    rw [← fill_step (by omega), show mxG meet a b k = op2 meet a[k] b[k] by unfold mxG; rw [getD_ltN hka, getD_ltN hkb]]
    exact f'
  · have hk3 : k = aN := by omega
    subst hk3
    rw [fill_full] at f
    unfold J46_2 SlT mxL
    rw [if_pos hE, hE]
    simp only [Int.toNat_natCast, List.length_map, List.length_range]
    rw [hla]
    exact ⟨_, _, rfl, f⟩
theorem c47 (x y : Nat) (h : Heap) (hx : x < 18446744073709551616) (hy : y < 18446744073709551616) : CallsH Tryd.prog 47 #[w64v x, w64v y] h (Ret (w64v (op2 true x y)) h) := by
  refine run47 x y _ h ⟨?_, rfl⟩
  rw [and64 x y hx hy]; rfl
theorem c49 (x y : Nat) (h : Heap) (hx : x < 18446744073709551616) (hy : y < 18446744073709551616) : CallsH Tryd.prog 49 #[w64v x, w64v y] h (Ret (w64v (op2 false x y)) h) := by
  refine run49 x y _ h ⟨?_, rfl⟩
  rw [xor64 x y hx hy]; rfl
theorem op2_bit (meet : Bool) (x y k : Nat) : (op2 meet x y).testBit k = if meet then (x.testBit k && y.testBit k) else (x.testBit k ^^ y.testBit k) := by
  unfold op2; split <;> simp
theorem mod_succ (x k : Nat) : x % 2 ^ (k + 1) = x % 2 ^ k + 2 ^ k * (x.testBit k).toNat := by
  rw [Nat.mod_pow_succ, Nat.testBit_eq_decide_div_mod_eq]
  rcases Nat.mod_two_eq_zero_or_one (x / 2 ^ k) with h | h <;> rw [h] <;> simp
theorem bif_mix {meet ta tb : Bool} {N1 N0 : Prop} (h1 : (if meet then (ta && tb) else (ta ^^ tb)) = true → N1) (h0 : (if meet then (ta && tb) else (ta ^^ tb)) = false → N0) :
    BIf meet (PIf (((ta.toNat + tb.toNat : Nat) : Int) = 2) N1 (BIf (!meet) (PIf (((ta.toNat + tb.toNat : Nat) : Int) = 1) N1 N0) N0)) (BIf (!meet) (PIf (((ta.toNat + tb.toNat : Nat) : Int) = 1) N1 N0) N0) := by
  cases meet <;> cases ta <;> cases tb <;> simp_all [BIf, PIf]
theorem c48 {aA bA : Option Addr} {aN aC bN bC : Nat} {a b : List Nat} {h : Heap} (ra : Rd h aA aN (a.map w64v)) (rb : Rd h bA bN (b.map w64v)) (meet : Bool) (ha : ∀ x ∈ a, x < 18446744073709551616) (hb : ∀ x ∈ b, x < 18446744073709551616) :
    CallsH Tryd.prog 48 #[.slice aA aN aC, .slice bA bN bC, .bool meet] h (SlT w64v h (mxL meet a b) (.int .i64 (mxE a b))) := by
  have hla : a.length = aN := by have := ra.len; rwa [List.length_map] at this
  have hlb : b.length = bN := by have := rb.len; rwa [List.length_map] at this
  have hno : ∀ e, mxE a b = e → e ≠ 0 → SlT w64v h (mxL meet a b) (.int .i64 (mxE a b)) (.tuple #[.slice none 0 0, .int .i64 e]) h := fun e he h0 => by
    unfold mxL; rw [he, if_neg h0]; exact .nil (.refl _)
  refine run48 aA aN aC bA bN bC _ _ h ⟨fun h1 => hno 2 (by unfold mxE; rw [if_pos (by omega)]) (by omega), fun h1 => ⟨fun h2 => hno 2 (by unfold mxE; rw [if_pos (by omega)]) (by omega), fun h2 => ⟨fun h3 => ?_, fun h3 => hno 4 (by unfold mxE; rw [if_neg (by omega), if_neg (by omega)]) (by omega)⟩⟩⟩
  have hE : mxE a b = 0 := by unfold mxE; rw [if_neg (by omega), if_pos (by omega)]
  refine ⟨fun st h' m => ∃ (k : Nat) (oA : Option Addr) (c : Nat), st = ((oA, k, c), (k : Int)) ∧ k ≤ aN ∧ Fr h 1 h' oA k c (((List.range k).map (mxG meet a b)).map w64v) ∧ m = aN - k, ⟨aN, 0, none, 0, rfl, by omega, .nil (.refl _), rfl⟩, ?_⟩
  rintro st h' m ⟨k, oA, c, rfl, hk, f, rfl⟩
  refine ⟨fun hlt => ?_, fun hge => ?_⟩
  · simp only at hlt
    have hka : k < a.length := by omega
    have hkb : k < b.length := by omega
    have hax := ha _ (List.getElem_mem hka)
    have hbx := hb _ (List.getElem_mem hkb)
    have hG : mxG meet a b k = op2 meet a[k] b[k] := by unfold mxG; rw [getD_ltN hka, getD_ltN hkb]
    have hG2 : mxG meet a b k < 18446744073709551616 := by rw [hG]; exact op2_lt hax hbx
    unfold J48_3
    refine ⟨by simp only; omega, by simp only; omega, (ra.ext f.ext).geti (j := (k : Int)) (by omega) (by omega) fun ad hl hc => ⟨_, hc, by simp only; omega, by simp only; omega, (rb.ext f.ext).geti (j := (k : Int)) (by omega) (by omega) fun ad2 hl2 hc2 => ⟨_, hc2, ?_⟩⟩⟩
    simp only [Int.toNat_natCast] at hl hl2 ⊢
    refine ⟨fun st h2 m => ∃ j : Nat, st = (((a[k] / 2 ^ j : Nat) : Int), ((b[k] / 2 ^ j : Nat) : Int), ((2 ^ j % 18446744073709551616 : Nat) : Int), ((mxG meet a b k % 2 ^ j : Nat) : Int), (j : Int)) ∧ h2 = h' ∧ j ≤ 64 ∧ m = 64 - j, ⟨64, 0, by simp [Nat.mod_one], rfl, by omega, rfl⟩, ?_⟩
    rintro st _ m ⟨j, rfl, rfl, hj, rfl⟩
    rename_i h'
    refine ⟨fun hlt => ?_, fun hge => ?_⟩
    · simp only at hlt
      have hp : 2 ^ j ≤ 2 ^ 63 := Nat.pow_le_pow_right (by omega) (by omega)
      have hda : a[k] / 2 ^ j ≤ a[k] := Nat.div_le_self _ _
      have hdb : b[k] / 2 ^ j ≤ b[k] := Nat.div_le_self _ _
      have t1 : ∀ q : Nat, q < 18446744073709551616 → IntKind.wrap .u64 (Int.tdiv (q : Int) 2) = ((q / 2 : Nat) : Int) := fun q hq => by rw [Int.tdiv_eq_ediv_of_nonneg (by omega), wr_u64]; omega
      have x1 : IntKind.wrap .u64 (Int.tdiv ((a[k] / 2 ^ j : Nat) : Int) 2) = ((a[k] / 2 ^ (j + 1) : Nat) : Int) := by rw [t1 _ (Nat.lt_of_le_of_lt hda hax), Nat.div_div_eq_div_mul, ← Nat.pow_succ]
      have y1 : IntKind.wrap .u64 (Int.tdiv ((b[k] / 2 ^ j : Nat) : Int) 2) = ((b[k] / 2 ^ (j + 1) : Nat) : Int) := by rw [t1 _ (Nat.lt_of_le_of_lt hdb hbx), Nat.div_div_eq_div_mul, ← Nat.pow_succ]
      have u1 : IntKind.wrap .u64 (((2 ^ j % 18446744073709551616 : Nat) : Int) * 2) = ((2 ^ (j + 1) % 18446744073709551616 : Nat) : Int) := by rw [wr_u64, Nat.pow_succ]; omega
      have u0 : (2 ^ j % 18446744073709551616 : Nat) = 2 ^ j := Nat.mod_eq_of_lt (by omega)
      have s1 : IntKind.wrap .u64 (Int.tmod ((a[k] / 2 ^ j : Nat) : Int) 2 + Int.tmod ((b[k] / 2 ^ j : Nat) : Int) 2) = (((a[k].testBit j).toNat + (b[k].testBit j).toNat : Nat) : Int) := by
        rw [mod2_i64, mod2_i64, wr_u64, Nat.testBit_eq_decide_div_mod_eq, Nat.testBit_eq_decide_div_mod_eq]
        rcases Nat.mod_two_eq_zero_or_one (a[k] / 2 ^ j) with q1 | q1 <;> rcases Nat.mod_two_eq_zero_or_one (b[k] / 2 ^ j) with q2 | q2 <;> rw [q1, q2] <;> decide
      have hms := mod_succ (mxG meet a b k) j
      have hbd : mxG meet a b k % 2 ^ (j + 1) ≤ mxG meet a b k := Nat.mod_le _ _
      have hz : IntKind.wrap .u64 (((mxG meet a b k % 2 ^ j : Nat) : Int) + ((2 ^ j % 18446744073709551616 : Nat) : Int)) = ((mxG meet a b k % 2 ^ j + 2 ^ j : Nat) : Int) := by
        have : mxG meet a b k % 2 ^ j < 2 ^ j := Nat.mod_lt _ (Nat.two_pow_pos j)
        rw [u0, wr_u64]
        generalize mxG meet a b k % 2 ^ j = q at *
        generalize 2 ^ j = p at *
        omega
      unfold J48_6
      simp only [x1, y1, u1, s1, hz, e_succ (show j < 4611686018427387904 by omega)]
      have hset : (op2 meet a[k] b[k]).testBit j = true → mxG meet a b k % 2 ^ j + 2 ^ j = mxG meet a b k % 2 ^ (j + 1) := fun q => by rw [hms, hG, q]; simp
      have hclr : (op2 meet a[k] b[k]).testBit j = false → mxG meet a b k % 2 ^ j = mxG meet a b k % 2 ^ (j + 1) := fun q => by rw [hms, hG, q]; simp
      rw [op2_bit] at hset hclr
      refine bif_mix (fun q => ?_) (fun q => ?_)
      · exact ⟨_, by omega, j + 1, by rw [hset q], by trivial, by omega, rfl⟩
      · exact ⟨_, by omega, j + 1, by rw [hclr q], by trivial, by omega, rfl⟩
    · simp only at hge
      have hj3 : j = 64 := by omega
      subst hj3
      have hmod : mxG meet a b k % 2 ^ 64 = mxG meet a b k := Nat.mod_eq_of_lt hG2
      unfold J48_5
      simp only [hmod]
      refine app1 f rfl (by omega) fun a' c' h'' f' => ?_
      unfold J48_4
      simp only [e_succ (show k < 4611686018427387904 by omega)]
      refine ⟨_, by omega, k + 1, a', c', rfl, by omega, ?_, rfl⟩
      rw [List.range_succ, List.map_append, List.map_append]
      exact f'
  · simp only at hge
    have hk3 : k = aN := by omega
    subst hk3
    unfold J48_2 SlT mxL
    rw [if_pos hE, hE]
    simp only [List.length_map, List.length_range]
    rw [hla]
    exact ⟨_, _, rfl, f⟩
section
variable {aA bA : Option Addr} {aN aC bN bC : Nat} {a b : List Nat} {h : Heap} (ra : Rd h aA aN (a.map w64v)) (rb : Rd h bA bN (b.map w64v)) (ha : ∀ x ∈ a, x < 18446744073709551616) (hb : ∀ x ∈ b, x < 18446744073709551616)
include ra rb ha hb
theorem c15 : CallsH Tryd.prog 15 #[.slice aA aN aC, .slice bA bN bC] h (SlT w64v h (mxL true a b) (.int .i64 (mxE a b))) := by
  refine run15 aA aN aC bA bN bC _ h ((c46 ra rb true 47 ha hb (by kernel_rfl) fun x y h' => c47 x y h').mono ?_)
  rintro v h' ⟨a, c, rfl, f⟩
  exact ⟨_, _, _, _, rfl, _, _, rfl, f⟩
theorem c17 : CallsH Tryd.prog 17 #[.slice aA aN aC, .slice bA bN bC] h (SlT w64v h (mxL false a b) (.int .i64 (mxE a b))) := by
  refine run17 aA aN aC bA bN bC _ h ((c46 ra rb false 49 ha hb (by kernel_rfl) fun x y h' => c49 x y h').mono ?_)
  rintro v h' ⟨a, c, rfl, f⟩
  exact ⟨_, _, _, _, rfl, _, _, rfl, f⟩
theorem c16 : CallsH Tryd.prog 16 #[.slice aA aN aC, .slice bA bN bC] h (SlT w64v h (mxL true a b) (.int .i64 (mxE a b))) := by
  refine run16 aA aN aC bA bN bC _ h ((c48 ra rb true ha hb).mono ?_)
  rintro v h' ⟨a, c, rfl, f⟩
  exact ⟨_, _, _, _, rfl, _, _, rfl, f⟩
theorem c18 : CallsH Tryd.prog 18 #[.slice aA aN aC, .slice bA bN bC] h (SlT w64v h (mxL false a b) (.int .i64 (mxE a b))) := by
  refine run18 aA aN aC bA bN bC _ h ((c48 ra rb false ha hb).mono ?_)
  rintro v h' ⟨a, c, rfl, f⟩
  exact ⟨_, _, _, _, rfl, _, _, rfl, f⟩
end
end Go.Proofs.YtbgjbokcngdnfaaDoor
