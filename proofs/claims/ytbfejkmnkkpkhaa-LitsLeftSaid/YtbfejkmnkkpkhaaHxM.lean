/- Words and facts that the claim's proof leans on. No condition. -/
import Derived.Test.YtbfejkmnkkpkhaaHxL
set_option linter.unusedVariables false
set_option linter.unusedSimpArgs false
namespace Go.Hx

/-! ### Bits of numbers that aren't below 0 -/
theorem ofInt_toNat (a : Nat) (ha : a < 9223372036854775808) : (BitVec.ofInt 64 (a : Int)).toNat = a := by
  rw [BitVec.toNat_ofInt]
  omega
theorem wrap_nat (n : Nat) (h : n < 9223372036854775808) : IntKind.wrap .i64 (n : Int) = n := w64 (by omega) (by omega)
theorem bop_and (a b : Nat) (ha : a < 9223372036854775808) (hb : b < 9223372036854775808) : bop .and .i64 a b = ((a &&& b : Nat) : Int) := by
  show IntKind.i64.wrap ((BitVec.ofInt 64 (a : Int) &&& BitVec.ofInt 64 (b : Int)).toNat : Int) = _
  rw [BitVec.toNat_and, ofInt_toNat a ha, ofInt_toNat b hb]
  exact wrap_nat _ (Nat.lt_of_le_of_lt Nat.and_le_left ha)
theorem bop_or (a b : Nat) (ha : a < 9223372036854775808) (hb : b < 9223372036854775808) : bop .or .i64 a b = ((a ||| b : Nat) : Int) := by
  show IntKind.i64.wrap ((BitVec.ofInt 64 (a : Int) ||| BitVec.ofInt 64 (b : Int)).toNat : Int) = _
  rw [BitVec.toNat_or, ofInt_toNat a ha, ofInt_toNat b hb]
  exact wrap_nat _ (Nat.or_lt_two_pow (n := 63) (by omega) (by omega))
theorem bop_xor (a b : Nat) (ha : a < 9223372036854775808) (hb : b < 9223372036854775808) : bop .xor .i64 a b = ((a ^^^ b : Nat) : Int) := by
  show IntKind.i64.wrap ((BitVec.ofInt 64 (a : Int) ^^^ BitVec.ofInt 64 (b : Int)).toNat : Int) = _
  rw [BitVec.toNat_xor, ofInt_toNat a ha, ofInt_toNat b hb]
  exact wrap_nat _ (Nat.xor_lt_two_pow (n := 63) (by omega) (by omega))
theorem and_one {l : Int} (h0 : 0 ≤ l) (h1 : l ≤ 9223372036854775807) : bop .and .i64 l 1 = l % 2 := by
  obtain ⟨n, rfl⟩ : ∃ n : Nat, l = n := ⟨l.toNat, by omega⟩
  have := bop_and n 1 (by omega) (by omega)
  rw [Nat.and_one_is_mod] at this
  exact this
theorem xor_one {l : Int} (h0 : 0 ≤ l) (h1 : l ≤ 9223372036854775807) : bop .xor .i64 l 1 = if l % 2 = 0 then l + 1 else l - 1 := by
  obtain ⟨n, rfl⟩ : ∃ n : Nat, l = n := ⟨l.toNat, by omega⟩
  have := bop_xor n 1 (by omega) (by omega)
  have e1 : (n ^^^ 1) / 2 = n / 2 := by rw [Nat.xor_div_two]; simp
  have e2 : (n ^^^ 1) % 2 = (n + 1) % 2 := by
    have := Nat.testBit_xor n 1 0
    simp only [Nat.testBit_zero] at this
    rcases Nat.mod_two_eq_zero_or_one n with h | h <;> rcases Nat.mod_two_eq_zero_or_one (n ^^^ 1) with h2 | h2 <;> simp [h, h2] at this ⊢ <;> omega
  rw [show ((1 : Nat) : Int) = 1 from rfl] at this
  rw [this]
  split <;> omega
theorem or_one {l : Int} (h0 : 0 ≤ l) (h1 : l ≤ 9223372036854775807) : bop .or .i64 l 1 = if l % 2 = 0 then l + 1 else l := by
  obtain ⟨n, rfl⟩ : ∃ n : Nat, l = n := ⟨l.toNat, by omega⟩
  have := bop_or n 1 (by omega) (by omega)
  have e1 : (n ||| 1) / 2 = n / 2 := by rw [Nat.or_div_two]; simp
  have e2 : (n ||| 1) % 2 = 1 := by rw [Nat.or_mod_two_eq_one]; right; rfl
  rw [show ((1 : Nat) : Int) = 1 from rfl] at this
  rw [this]
  split <;> omega
end Go.Hx
