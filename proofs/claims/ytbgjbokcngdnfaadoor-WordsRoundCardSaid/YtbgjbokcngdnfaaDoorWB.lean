/- Words and facts that the claim's proof leans on. No condition. -/
import Derived.Test.YtbgjbokcngdnfaaDoorWAa
import Derived.Test.YtbgjbokcngdnfaaDoorHxT
set_option linter.unusedVariables false
set_option linter.unusedSimpArgs false
namespace Go.Proofs.YtbgjbokcngdnfaaDoor
open Go.Hx

/-! ### A number's bytes -/
def putL (n : Nat) : List UInt8 := if h : n < 128 then [UInt8.ofNat n] else UInt8.ofNat (n % 128 + 128) :: putL (n / 128)
termination_by n
decreasing_by omega
theorem putL_lt {n : Nat} (h : n < 128) : putL n = [UInt8.ofNat n] := by rw [putL, dif_pos h]
theorem putL_ge {n : Nat} (h : 128 ≤ n) : putL n = UInt8.ofNat (n % 128 + 128) :: putL (n / 128) := by rw [putL, dif_neg (by omega)]
theorem putL_len (k : Nat) : ∀ n : Nat, n < 2 ^ (7 * k + 7) → (putL n).length ≤ k + 1 := by
  induction k with
  | zero => intro n h; rw [putL_lt (by simpa using h)]; simp
  | succ k ih =>
    intro n h
    by_cases hn : n < 128
    · rw [putL_lt hn]; simp
    · rw [putL_ge (by omega), List.length_cons]
      have := ih (n / 128) (by
        rw [Nat.div_lt_iff_lt_mul (by omega)]
        rw [show 7 * (k + 1) + 7 = 7 * k + 7 + 7 by omega, Nat.pow_add] at h
        exact h)
      omega
theorem putL_pos (n : Nat) : 0 < (putL n).length := by
  by_cases hn : n < 128
  · rw [putL_lt hn]; simp
  · rw [putL_ge (by omega)]; simp
theorem putL_mono (m : Nat) : ∀ n : Nat, n ≤ m → (putL n).length ≤ (putL m).length := by
  induction m using Nat.strongRecOn with
  | ind m ih =>
    intro n h
    by_cases hn : n < 128
    · rw [putL_lt hn]; exact putL_pos m
    · rw [putL_ge (by omega), putL_ge (n := m) (by omega)]
      have := ih (m / 128) (by omega) (n / 128) (by omega)
      simp only [List.length_cons]
      omega

def isN (n : Int) : Bool := decide (0 ≤ n ∧ n ≤ 2147483647)
theorem isN_t {n : Int} : isN n = true ↔ 0 ≤ n ∧ n ≤ 2147483647 := by simp [isN]
theorem isN_f {n : Int} : isN n = false ↔ ¬ (0 ≤ n ∧ n ≤ 2147483647) := by simp [isN]
def putV (n : Int) : Value := if isN n then .tuple #[.string (mk (putL n.toNat)), .int .i64 0] else .tuple #[.string (mk []), .int .i64 1]

abbrev u8i (l : List Int) : List Value := l.map (Value.int .u8)
theorem u8i_one {l : List Int} : ∀ y ∈ u8i l, y.oneCell' = true := by intro y hy; obtain ⟨x, _, rfl⟩ := List.mem_map.1 hy; rfl
theorem ten {α : Type} {l : List α} (h : l.length = 10) : ∃ a0 a1 a2 a3 a4 a5 a6 a7 a8 a9, l = [a0, a1, a2, a3, a4, a5, a6, a7, a8, a9] := by
  match l, h with
  | [a0, a1, a2, a3, a4, a5, a6, a7, a8, a9], _ => exact ⟨_, _, _, _, _, _, _, _, _, _, rfl⟩
abbrev bI (l : List UInt8) : List Int := l.map fun b => (b.toNat : Int)
theorem ofNat_toNat {n : Nat} (h : n < 256) : ((UInt8.ofNat n).toNat : Int) = n := by rw [UInt8.toNat_ofNat_of_lt' (by simpa using h)]

theorem c45 (n : Nat) (hn : n < 4294967296) (h : Heap) : CallsH Tryd.prog 45 #[.int .u32 n] h fun v h' => Ext h h' ∧ ∃ l : List Int, l.length = 10 ∧ l.take (putL n).length = bI (putL n) ∧
    ∃ a0 a1 a2 a3 a4 a5 a6 a7 a8 a9, l = [a0, a1, a2, a3, a4, a5, a6, a7, a8, a9] ∧
    v = .tuple #[.agg #[.int .u8 a0, .int .u8 a1, .int .u8 a2, .int .u8 a3, .int .u8 a4, .int .u8 a5, .int .u8 a6, .int .u8 a7, .int .u8 a8, .int .u8 a9], .int .i64 (putL n).length] := by
  refine run45 n _ h ?_
  unfold VC45
  intro h_
  have f0 : Fr h 1 h_ (some ⟨h.size, 0, none⟩) 10 10 (u8i [0, 0, 0, 0, 0, 0, 0, 0, 0, 0]) := Fr.lit (.refl h) (u8i [0, 0, 0, 0, 0, 0, 0, 0, 0, 0]) 56 10 rfl
  refine ⟨fun st h' m => ∃ (pre : List UInt8) (x : Nat) (l : List Int), st = ((pre.length : Int), (x : Int)) ∧ putL n = pre ++ putL x ∧ pre.length ≤ 4 ∧ x < 2 ^ (32 - 7 * pre.length) ∧
    l.length = 10 ∧ l.take pre.length = bI pre ∧ Fr h 1 h' (some ⟨h.size, 0, none⟩) 10 10 (u8i l) ∧ m = x, ⟨n, [], n, _, ?_, rfl, by simp, by simpa using hn, rfl, rfl, f0, rfl⟩, ?_⟩
  · rw [wr_u64]; congr 1; omega
  rintro ⟨many, x'⟩ h' m ⟨pre, x, l, he, hp, hlen, hx, hl, ht, f, rfl⟩
  obtain ⟨rfl, rfl⟩ := Prod.mk.inj he
  unfold B45_2
  refine ⟨fun hge => ?_, fun hlt => ?_⟩
  · unfold J45_1
    have hpx := putL_ge (n := m) (by omega)
    have hp4 : pre.length ≤ 3 := by
      have h1 : (128 : Nat) ≤ m := by omega
      rcases Nat.lt_or_ge pre.length 4 with h2 | h2
      · omega
      · rw [show pre.length = 4 by omega] at hx
        omega
    refine ⟨by simp only; omega, by simp only; omega, ?_⟩
    refine f.at1 (j := (pre.length : Int)) (by omega) (by omega) (v := .int .u8 (bop .or .u8 (IntKind.wrap .u8 (m : Int)) 128)) rfl fun h'' u f' => ?_
    have hor : bop .or .u8 (IntKind.wrap .u8 (m : Int)) 128 = ((m % 128 + 128 : Nat) : Int) := by
      rw [wr_u8, show (m : Int) % 256 = ((m % 256 : Nat) : Int) by omega, show (128 : Int) = ((128 : Nat) : Int) from rfl, or8 _ _ (by omega) (by omega)]
      have key : ∀ k : Fin 256, (k.val ||| 128) = k.val % 128 + 128 := by decide +kernel
      have := key ⟨m % 256, Nat.mod_lt _ (by omega)⟩
      simp only at this
      rw [this]
      congr 1
      omega
    rw [hor] at f'
    refine ⟨(m / 128 : Nat), ?_, pre ++ [UInt8.ofNat (m % 128 + 128)], m / 128, l.set pre.length ((m % 128 + 128 : Nat) : Int), ?_, ?_, ?_, ?_, ?_, ?_, ?_, rfl⟩
    · omega
    · rw [w64 (by omega) (by omega)]
      simp only [List.length_append, List.length_cons, List.length_nil]
      congr 1
    · rw [hp, hpx]; simp
    · simp; omega
    · simp only [List.length_append, List.length_cons, List.length_nil, Nat.zero_add]
      rw [Nat.div_lt_iff_lt_mul (by omega), show 128 = 2 ^ 7 from rfl, ← Nat.pow_add, show 32 - 7 * (pre.length + 1) + 7 = 32 - 7 * pre.length by omega]
      exact hx
    · simpa using hl
    · simp only [List.length_append, List.length_cons, List.length_nil, Nat.zero_add, List.map_append, List.map_cons, List.map_nil]
      rw [List.take_succ_eq_append_getElem (by simp; omega), List.take_set_of_le (Nat.le_refl _), ht, List.getElem_set_self, ofNat_toNat (by omega)]
    · have e : (u8i l).set (pre.length : Int).toNat (.int .u8 ((m % 128 + 128 : Nat) : Int)) = u8i (l.set pre.length ((m % 128 + 128 : Nat) : Int)) := by simp [u8i]
      rwa [e] at f'
  · unfold J45_0
    have hpx := putL_lt (n := m) (by omega)
    refine ⟨by simp only; omega, by simp only; omega, ?_⟩
    refine f.at1 (j := (pre.length : Int)) (by omega) (by omega) (v := .int .u8 (IntKind.wrap .u8 (m : Int))) rfl fun h2 u f' => ?_
    have e : (u8i l).set (pre.length : Int).toNat (.int .u8 (IntKind.wrap .u8 (m : Int))) = u8i (l.set pre.length (m : Int)) := by
      rw [wr_u8, show (m : Int) % 256 = m by omega]; simp [u8i]
    rw [e] at f'
    have hl2 : (l.set pre.length (m : Int)).length = 10 := by simpa using hl
    have ht2 : (l.set pre.length (m : Int)).take (putL n).length = bI (putL n) := by
      rw [hp, hpx]
      simp only [List.length_append, List.length_cons, List.length_nil, Nat.zero_add, List.map_append, List.map_cons, List.map_nil]
      rw [List.take_succ_eq_append_getElem (by simp; omega), List.take_set_of_le (Nat.le_refl _), ht, List.getElem_set_self, ofNat_toNat (by omega)]
    have hlen2 : (putL n).length = pre.length + 1 := by rw [hp, hpx]; simp
    generalize l.set pre.length (m : Int) = l2 at f' hl2 ht2
    obtain ⟨a0, a1, a2, a3, a4, a5, a6, a7, a8, a9, rfl⟩ := ten hl2
    refine ⟨a0, a1, a2, a3, a4, a5, a6, a7, a8, a9, f'.rd.cells, ?_⟩
    refine f'.put (ws := u8i [a0, a1, a2, a3, a4, a5, a6, a7, a8, a9]) rfl u8i_one fun h3 f3 u3 => ?_
    refine ⟨a0, a1, a2, a3, a4, a5, a6, a7, a8, a9, f3.rd.cells, f3.ext, _, hl2, ht2, a0, a1, a2, a3, a4, a5, a6, a7, a8, a9, rfl, ?_⟩
    rw [hlen2, w64 (by omega) (by omega)]
    rfl

theorem c14 (n : Int) (h : Heap) : CallsH Tryd.prog 14 #[.int .i64 n] h (Xt (putV n) h) := by
  have hno : isN n = false → Xt (putV n) h (.tuple #[.string (ByteArray.mk #[]), .int .i64 1]) h := fun hf => ⟨by unfold putV; rw [hf]; rfl, .refl _⟩
  refine run14 n _ h ⟨fun h1 => hno (isN_f.2 (by omega)), fun h1 => ⟨fun h2 => hno (isN_f.2 (by omega)), fun h2 => ?_⟩⟩
  obtain ⟨m, rfl⟩ : ∃ m : Nat, n = m := ⟨n.toNat, by omega⟩
  unfold J14_0
  rw [wr_u32, show (m : Int) % 4294967296 = m by omega]
  refine (c45 m (by omega) h).mono ?_
  rintro v h1 ⟨x1, l, hl, ht, a0, a1, a2, a3, a4, a5, a6, a7, a8, a9, rfl, rfl⟩
  refine ⟨a0, a1, a2, a3, a4, a5, a6, a7, a8, a9, _, rfl, ?_⟩
  intro h_2
  have f0 : Fr h 1 h_2 (some ⟨h1.size, 0, none⟩) 10 10 (u8i [0, 0, 0, 0, 0, 0, 0, 0, 0, 0]) := Fr.lit x1 (u8i [0, 0, 0, 0, 0, 0, 0, 0, 0, 0]) 56 10 rfl
  refine f0.put (ws := u8i [a0, a1, a2, a3, a4, a5, a6, a7, a8, a9]) rfl u8i_one fun h3 f3 u3 => ?_
  have hlen : (putL m).length ≤ 5 := putL_len 4 m (by omega)
  refine ⟨Int.le_refl _, by omega, by omega, mk (putL m), by rw [mk_size]; simp, ?_, ?_, f3.ext⟩
  · have := (f3.rd.take (putL m).length (by omega)).read
    rw [← List.map_take, ht] at this
    rw [bytesV_mk]
    show ReadL h3 (some (cutR 1 _ 10 0)) _
    rw [cutR0]
    simpa [bI, u8i, List.map_map, Function.comp_def] using this
  · unfold putV
    rw [isN_t.2 ⟨by omega, by omega⟩]
    rfl

theorem c27 (n : Int) (h : Heap) : CallsH Tryd.prog 27 #[.int .i64 n] h (Xt (putV n) h) := by
  have hno : isN n = false → Xt (putV n) h (.tuple #[.string (ByteArray.mk #[]), .int .i64 1]) h := fun hf => ⟨by unfold putV; rw [hf]; rfl, .refl _⟩
  refine run27 n _ h ⟨fun h1 => hno (isN_f.2 (by omega)), fun h1 => ⟨fun h2 => hno (isN_f.2 (by omega)), fun h2 => ?_⟩⟩
  obtain ⟨n0, rfl⟩ : ∃ m : Nat, n = m := ⟨n.toNat, by omega⟩
  have hl5 : (putL n0).length ≤ 5 := putL_len 4 n0 (by omega)
  refine ⟨fun st h' m => ∃ (pre : List UInt8) (x : Nat) (a : Option Addr) (c : Nat), st = ((x : Int), (a, pre.length, c)) ∧ putL n0 = pre ++ putL x ∧ x ≤ 2147483647 ∧ Fr h 1 h' a pre.length c (pre.map u8v) ∧ m = x,
    ⟨n0, [], n0, none, 0, rfl, rfl, by omega, .nil (.refl _), rfl⟩, ?_⟩
  rintro st h' m ⟨pre, x, a, c, rfl, hp, hx, f, rfl⟩
  have hpos := putL_pos m
  have hlen : pre.length + (putL m).length ≤ 5 := by rw [← List.length_append, ← hp]; exact hl5
  refine ⟨fun hge => ?_, fun hlt => ?_⟩
  · simp only at hge
    have hpx := putL_ge (n := m) (by omega)
    have e1 : IntKind.wrap .u8 (IntKind.wrap .i64 (Int.tmod (m : Int) 128 + 128)) = ((UInt8.ofNat (m % 128 + 128)).toNat : Int) := by
      rw [Int.tmod_eq_emod_of_nonneg (by omega), w64 (by omega) (by omega), wr_u8, ofNat_toNat (by omega)]; omega
    have e2 : IntKind.wrap .i64 (Int.tdiv (m : Int) 128) = ((m / 128 : Nat) : Int) := by
      rw [Int.tdiv_eq_ediv_of_nonneg (by omega), w64 (by omega) (by omega)]; omega
    unfold J27_2
    simp only [e1, e2]
    refine app1 f rfl (by omega) fun a' c' h'' f' => ⟨(m / 128 : Nat), by omega, pre ++ [UInt8.ofNat (m % 128 + 128)], m / 128, a', c', ?_, ?_, by omega, ?_, rfl⟩
    · simp
    · rw [hp, hpx]; simp
    · rw [List.map_append, List.length_append]; exact f'
  · simp only at hlt
    have hpx := putL_lt (n := m) (by omega)
    unfold J27_1
    have e1 : IntKind.wrap .u8 (m : Int) = ((UInt8.ofNat m).toNat : Int) := by rw [wr_u8, ofNat_toNat (by omega)]; omega
    simp only [e1]
    refine app1 f rfl (by omega) fun a' c' h'' f' => ⟨mk (putL n0), ?_, ?_, ?_, f'.ext⟩
    · rw [mk_size, hp, hpx]; simp
    · rw [bytesV_mk, hp, hpx, List.map_append]
      exact f'.rd.read
    · unfold putV
      rw [isN_t.2 ⟨by omega, by omega⟩]
      rfl

/-! ### Faults -/
def gvn (s : ByteArray) (at_ : Int) : Int := if 262144 < s.size then 2 else if at_ < 0 ∨ (s.size : Int) < at_ then 1 else 0
theorem c58 (a e : Int) (h : Heap) : CallsH Tryd.prog 58 #[.int .i64 a, .int .i64 e] h (Xt (flt a e) h) := by
  refine run58 a e _ h ?_
  exact fl (Fr.two h 0 0 25) a e fun h' f _ => ⟨rfl, f.ext⟩
theorem c44 (s : ByteArray) (at_ : Int) (h : Heap) : CallsH Tryd.prog 44 #[.string s, .int .i64 at_] h (Xt (flt 0 (gvn s at_)) h) := by
  refine run44 s at_ _ h ?_
  refine ⟨fun h1 => ?_, fun h1 => ⟨fun h2 => ?_, fun h2 => ⟨fun h3 => ?_, fun h3 => ?_⟩⟩⟩
  all_goals refine fl (Fr.two h 0 0 25) _ _ fun h' f _ => ⟨?_, f.ext⟩
  · rw [gvn, if_pos (by omega)]
  · rw [gvn, if_neg (by omega), if_pos (by omega)]
  · rw [gvn, if_neg (by omega), if_pos (by omega)]
  · rw [gvn, if_neg (by omega), if_neg (by omega)]
theorem c56 (s : ByteArray) (at_ : Int) (h : Heap) : CallsH Tryd.prog 56 #[.string s, .int .i64 at_] h (Xt (flt 0 (gvn s at_)) h) := by
  refine run56 s at_ _ h ?_
  refine ⟨fun h1 => ?_, fun h1 => ⟨fun h2 => ?_, fun h2 => ⟨fun h3 => ?_, fun h3 => ?_⟩⟩⟩
  · refine useX (c58 _ _ _) fun h' x => ⟨_, _, rfl, ?_⟩
    refine fl ((Fr.two h 0 0 25).upd x) _ _ fun h' f _ => ⟨?_, f.ext⟩
    rw [gvn, if_pos (by omega)]
  · refine useX (c58 _ _ _) fun h' x => ⟨_, _, rfl, ?_⟩
    refine fl ((Fr.two h 0 0 25).upd x) _ _ fun h' f _ => ⟨?_, f.ext⟩
    rw [gvn, if_neg (by omega), if_pos (by omega)]
  · refine useX (c58 _ _ _) fun h' x => ⟨_, _, rfl, ?_⟩
    refine fl ((Fr.two h 0 0 25).upd x) _ _ fun h' f _ => ⟨?_, f.ext⟩
    rw [gvn, if_neg (by omega), if_pos (by omega)]
  · refine fl (Fr.two h 0 0 25) _ _ fun h' f _ => ⟨?_, f.ext⟩
    rw [gvn, if_neg (by omega), if_neg (by omega)]
theorem gvn0 {s : ByteArray} {a : Int} (h : gvn s a = 0) : s.size ≤ 262144 ∧ 0 ≤ a ∧ a ≤ s.size := by
  unfold gvn at h
  split at h
  · omega
  split at h
  · omega
  omega
end Go.Proofs.YtbgjbokcngdnfaaDoor
