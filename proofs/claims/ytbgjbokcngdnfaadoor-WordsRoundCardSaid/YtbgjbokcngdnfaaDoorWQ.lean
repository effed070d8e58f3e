/- How many bits are 1: the sum of fields that grow twofold. No condition. -/
import Derived.Test.YtbgjbokcngdnfaaDoorHxT
set_option linter.unusedVariables false
set_option linter.unusedSimpArgs false
namespace Go.Hx

/-- The sum of the first m fields of 'w' bits each; each is at most 'c', and nothing is behind them. -/
def fsum (w : Nat) : Nat → Nat → Nat | 0, _ => 0 | m + 1, n => n % 2 ^ w + fsum w m (n / 2 ^ w)
def fbd (w c : Nat) : Nat → Nat → Prop | 0, n => n = 0 | m + 1, n => n % 2 ^ w ≤ c ∧ fbd w c m (n / 2 ^ w)
def msk (h : Nat) : Nat → Nat | 0 => 0 | m + 1 => (2 ^ h - 1) + 2 ^ (2 * h) * msk h m
def stp (h m n : Nat) : Nat := (n / 2 ^ h &&& msk h m) + (n &&& msk h m)

theorem pw2 (h : Nat) : 2 ^ (2 * h) = 2 ^ h * 2 ^ h := by rw [← Nat.pow_add]; congr 1; omega
theorem msk_mod (h m : Nat) : msk h (m + 1) % 2 ^ (2 * h) = 2 ^ h - 1 := by
  rw [msk, Nat.add_mul_mod_self_left, Nat.mod_eq_of_lt]
  have := Nat.two_pow_pos h
  rw [pw2]
  have : 2 ^ h * 1 ≤ 2 ^ h * 2 ^ h := Nat.mul_le_mul_left _ this
  omega
theorem msk_div (h m : Nat) : msk h (m + 1) / 2 ^ (2 * h) = msk h m := by
  have := Nat.two_pow_pos h
  have h2 := Nat.two_pow_pos (2 * h)
  rw [msk, Nat.add_mul_div_left _ _ h2, Nat.div_eq_of_lt, Nat.zero_add]
  rw [pw2]
  have : 2 ^ h * 1 ≤ 2 ^ h * 2 ^ h := Nat.mul_le_mul_left _ this
  omega
theorem and_msk (h m n : Nat) : n &&& msk h (m + 1) = n % 2 ^ h + 2 ^ (2 * h) * (n / 2 ^ (2 * h) &&& msk h m) := by
  have e1 : (n &&& msk h (m + 1)) % 2 ^ (2 * h) = n % 2 ^ h := by
    rw [Nat.and_mod_two_pow, msk_mod, Nat.and_two_pow_sub_one_eq_mod]
    rw [pw2, Nat.mod_mul_right_mod]
  have e2 : (n &&& msk h (m + 1)) / 2 ^ (2 * h) = n / 2 ^ (2 * h) &&& msk h m := by rw [Nat.and_div_two_pow, msk_div]
  rw [← e1, ← e2, Nat.mod_add_div]
theorem stp_succ (h m n : Nat) : stp h (m + 1) n = (n % 2 ^ h + n / 2 ^ h % 2 ^ h) + 2 ^ (2 * h) * stp h m (n / 2 ^ (2 * h)) := by
  unfold stp
  rw [and_msk, and_msk h m n, Nat.div_div_eq_div_mul n, Nat.mul_comm (2 ^ h) (2 ^ (2 * h)), ← Nat.div_div_eq_div_mul, Nat.mul_add]
  omega
theorem stp_spec (h c : Nat) (hc : 2 * c < 2 ^ (2 * h)) : ∀ m n, fbd h c (2 * m) n → fbd (2 * h) (2 * c) m (stp h m n) ∧ fsum (2 * h) m (stp h m n) = fsum h (2 * m) n := by
  intro m
  induction m with
  | zero => intro n _; exact ⟨by simp [stp, msk, fbd], rfl⟩
  | succ m ih =>
    intro n hb
    rw [show 2 * (m + 1) = 2 * m + 1 + 1 by omega] at hb ⊢
    simp only [fbd, fsum] at hb ⊢
    obtain ⟨h1, h2, h3⟩ := hb
    rw [Nat.div_div_eq_div_mul, ← pw2] at h3 ⊢
    obtain ⟨i1, i2⟩ := ih _ h3
    have h12 : n % 2 ^ h + n / 2 ^ h % 2 ^ h ≤ 2 * c := by omega
    have hpos := Nat.two_pow_pos (2 * h)
    rw [stp_succ]
    rw [← Nat.add_assoc]
    generalize n % 2 ^ h + n / 2 ^ h % 2 ^ h = e at *
    have he : e ≤ 2 * c := by omega
    rw [Nat.add_mul_mod_self_left, Nat.mod_eq_of_lt (by omega), Nat.add_mul_div_left _ _ hpos, Nat.div_eq_of_lt (by omega), Nat.zero_add, i2]
    exact ⟨⟨he, i1⟩, rfl⟩
theorem fbd_one : ∀ m n, n < 2 ^ m → fbd 1 1 m n
  | 0, n, h => by simp at h; exact h
  | m + 1, n, h => ⟨by simp; omega, fbd_one m _ (by rw [Nat.pow_succ] at h; simp; omega)⟩

def v256 : List Nat → Nat | [] => 0 | b :: l => b + 256 * v256 l
theorem nib_spec : ∀ m n, fbd 4 4 (2 * m) n → ∃ bs : List Nat, bs.length = m ∧ (∀ b ∈ bs, b ≤ 8) ∧ ((n / 16 + n) &&& msk 4 m) = v256 bs ∧ bs.sum = fsum 4 (2 * m) n := by
  intro m
  induction m with
  | zero => intro n _; exact ⟨[], rfl, by simp, by simp [msk, v256], rfl⟩
  | succ m ih =>
    intro n hb
    rw [show 2 * (m + 1) = 2 * m + 1 + 1 by omega] at hb ⊢
    simp only [fbd, fsum] at hb ⊢
    obtain ⟨h1, h2, h3⟩ := hb
    rw [show (2 : Nat) ^ 4 = 16 from rfl] at *
    obtain ⟨bs, b1, b2, b3, b4⟩ := ih _ h3
    have hn : (n / 16 / 16) % 16 ≤ 4 := by
      cases m with
      | zero => simp only [Nat.mul_zero, fbd] at h3; omega
      | succ m => rw [show 2 * (m + 1) = 2 * m + 1 + 1 by omega] at h3; exact h3.1
    refine ⟨(n % 16 + n / 16 % 16) :: bs, by simp [b1], ?_, ?_, by rw [List.sum_cons, b4]; omega⟩
    · intro b hb
      rcases List.mem_cons.1 hb with rfl | hb
      · omega
      · exact b2 b hb
    · rw [and_msk, v256, ← b3, show (2 : Nat) ^ (2 * 4) = 256 from rfl, show (2 : Nat) ^ 4 = 16 from rfl]
      rw [show (n / 16 + n) % 16 = n % 16 + n / 16 % 16 by omega, show (n / 16 + n) / 256 = n / 16 / 16 / 16 + n / 16 / 16 by omega]

/-- The number of bits that are 1, of 64. -/
def pc (n : Nat) : Nat := fsum 1 64 n
theorem pc_zero : ∀ m, fsum 1 m 0 = 0
  | 0 => rfl
  | m + 1 => by rw [fsum]; simp [pc_zero m]
theorem fsum_le : ∀ m n, fsum 1 m n ≤ m
  | 0, _ => Nat.le_refl _
  | m + 1, n => by rw [fsum]; have := fsum_le m (n / 2 ^ 1); omega
theorem pc_le (n : Nat) : pc n ≤ 64 := fsum_le 64 n
def p1 (n : Nat) : Nat := (n / 2 &&& 6148914691236517205) + (n &&& 6148914691236517205)
def p2 (n : Nat) : Nat := (n / 4 &&& 3689348814741910323) + (n &&& 3689348814741910323)
def p3 (n : Nat) : Nat := (n / 16 + n) &&& 1085102592571150095
theorem m0 : msk 1 32 = 6148914691236517205 := by decide +kernel
theorem m1 : msk 2 16 = 3689348814741910323 := by decide +kernel
theorem m2 : msk 4 8 = 1085102592571150095 := by decide +kernel
theorem pop_bytes (n : Nat) (h : n < 2 ^ 64) : ∃ bs : List Nat, bs.length = 8 ∧ (∀ b ∈ bs, b ≤ 8) ∧ p3 (p2 (p1 n)) = v256 bs ∧ bs.sum = pc n := by
  have b1 := fbd_one 64 n h
  obtain ⟨a1, a2⟩ := stp_spec 1 1 (by decide) 32 n b1
  obtain ⟨c1, c2⟩ := stp_spec 2 2 (by decide) 16 _ a1
  obtain ⟨bs, d1, d2, d3, d4⟩ := nib_spec 8 _ c1
  refine ⟨bs, d1, d2, ?_, d4.trans (c2.trans a2)⟩
  rw [← d3, m2]
  unfold p3 p2 p1 stp
  rw [m0, m1]
theorem pop_final {b0 b1 b2 b3 b4 b5 b6 b7 : Nat} (h0 : b0 ≤ 8) (h1 : b1 ≤ 8) (h2 : b2 ≤ 8) (h3 : b3 ≤ 8) (h4 : b4 ≤ 8) (h5 : b5 ≤ 8) (h6 : b6 ≤ 8) (h7 : b7 ≤ 8) {x y z u : Nat}
    (hx : x = v256 [b0, b1, b2, b3, b4, b5, b6, b7]) (hy : y = x + x / 256) (hz : z = y + y / 65536) (hu : u = z + z / 4294967296) : u % 128 = b0 + b1 + b2 + b3 + b4 + b5 + b6 + b7 ∧ u < 9223372036854775808 := by
  simp only [v256] at hx
  have ey : y = (b0 + b1) + 256 * ((b1 + b2) + 256 * ((b2 + b3) + 256 * ((b3 + b4) + 256 * ((b4 + b5) + 256 * ((b5 + b6) + 256 * ((b6 + b7) + 256 * b7)))))) := by omega
  clear hy hx
  have ez : z = (b0 + b1 + b2 + b3) + 256 * ((b1 + b2 + b3 + b4) + 256 * ((b2 + b3 + b4 + b5) + 256 * ((b3 + b4 + b5 + b6) + 256 * ((b4 + b5 + b6 + b7) + 256 * ((b5 + b6 + b7) + 256 * ((b6 + b7) + 256 * b7)))))) := by omega
  clear hz ey
  have e1 : z / 4294967296 = (b4 + b5 + b6 + b7) + 256 * ((b5 + b6 + b7) + 256 * ((b6 + b7) + 256 * b7)) := by omega
  rw [e1, ez] at hu
  clear e1 ez
  refine ⟨?_, by omega⟩
  have : u = (b0 + b1 + b2 + b3 + b4 + b5 + b6 + b7) + 128 * (2 * ((b1 + b2 + b3 + b4) + 256 * ((b2 + b3 + b4 + b5) + 256 * ((b3 + b4 + b5 + b6) + 256 * ((b4 + b5 + b6 + b7) + 256 * ((b5 + b6 + b7) + 256 * ((b6 + b7) + 256 * b7))))) + ((b5 + b6 + b7) + 256 * ((b6 + b7) + 256 * b7)))) := by omega
  rw [this, Nat.add_mul_mod_self_left, Nat.mod_eq_of_lt (by omega)]
end Go.Hx
