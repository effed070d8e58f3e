/- Words and facts that the claim's proof leans on. No condition. -/
import Derived.Test.YtbgjbokcngdnfaaDoorWN
set_option linter.unusedVariables false
namespace Go.Proofs.YtbgjbokcngdnfaaDoor
open Go.Hx

theorem u64_nat {l : List Int} (h : ∀ n ∈ l, (Lit.int .u64 n).wf = true) : ∃ l' : List Nat, l.map (Value.int .u64) = l'.map w64v ∧ ∀ x ∈ l', x < 18446744073709551616 := by
  have hb : ∀ n ∈ l, 0 ≤ n ∧ n ≤ 18446744073709551615 := fun n hn => by
    have := h n hn
    simp [Lit.wf] at this
    have e1 : IntKind.u64.min = 0 := rfl
    have e2 : IntKind.u64.max = 18446744073709551615 := rfl
    omega
  refine ⟨l.map Int.toNat, ?_, fun x hx => ?_⟩
  · rw [List.map_map]
    apply List.map_congr_left
    intro n hn
    have := hb n hn
    simp only [Function.comp]
    congr 1
    omega
  · obtain ⟨n, hn, rfl⟩ := List.mem_map.1 hx
    have := hb n hn
    omega
theorem c4i {aA bA : Option Addr} {aN aC bN bC : Nat} {a b : List Int} {h : Heap} (ra : Rd h aA aN (a.map (Value.int .u64))) (rb : Rd h bA bN (b.map (Value.int .u64))) (ha : ∀ x ∈ a, (Lit.int .u64 x).wf = true) (hb : ∀ x ∈ b, (Lit.int .u64 x).wf = true)
    (hna : aN * 8 ≤ 140737488351232) (hnb : bN * 8 ≤ 140737488351232) (g : Gl h) : CallsH Tryd.prog 4 #[.slice aA aN aC, .slice bA bN bC] h (Yes h) := by
  obtain ⟨a', ea, ha'⟩ := u64_nat ha
  obtain ⟨b', eb, hb'⟩ := u64_nat hb
  rw [ea] at ra
  rw [eb] at rb
  exact c4 ra rb ha' hb' hna hnb g
theorem c9i {wA : Option Addr} {wN wC : Nat} {w : List Int} {h : Heap} (r : Rd h wA wN (w.map (Value.int .u64))) (hw : ∀ x ∈ w, (Lit.int .u64 x).wf = true) (hnw : wN * 8 ≤ 140737488351232) (n by_ : Int) (hb0 : -9223372036854775808 ≤ by_) (hb1 : by_ ≤ 9223372036854775807) (g : Gl h) :
    CallsH Tryd.prog 9 #[.slice wA wN wC, .int .i64 n, .int .i64 by_] h (Yes h) := by
  obtain ⟨w', ew, hw'⟩ := u64_nat hw
  rw [ew] at r
  exact c9 r hw' hnw n by_ hb0 hb1 g
end Go.Proofs.YtbgjbokcngdnfaaDoor
