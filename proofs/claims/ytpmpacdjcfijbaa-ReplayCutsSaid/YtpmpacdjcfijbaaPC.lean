/- Words and facts that the claim's proof leans on. No condition. -/
import Derived.Test.YtpmpacdjcfijbaaPA
import Derived.Test.YtpmpacdjcfijbaaSM
import Derived.Test.YtpmpacdjcfijbaaDE
import Derived.Test.YtpmpacdjcfijbaaEA
/- The document's judgement. No condition. -/
set_option linter.unusedVariables false
set_option linter.unusedSimpArgs false
namespace Go.Hx
theorem LoopT.from2 {τ : Type} {B : τ × Int → Heap → (τ × Int → Heap → Prop) → Prop} {n lo : Nat} {h : Heap} {s0 : τ} (hlo : lo ≤ n) (hn : n < 9223372036854775807) (I : Nat → τ → Heap → Prop) (h0 : I lo s0 h)
    (hs : ∀ (i : Nat) (s : τ) (h' : Heap) (K : τ × Int → Heap → Prop), i ≤ n → I i s h' → (∀ s' h'', i < n → I (i + 1) s' h'' → K (s', IntKind.wrap .i64 ((i : Int) + 1)) h'') → B (s, i) h' K) : LoopT B (s0, (lo : Int)) h := by
  refine ⟨fun st h' m => ∃ i : Nat, st.2 = i ∧ i ≤ n ∧ m = n - i ∧ I i st.1 h', ⟨n - lo, lo, rfl, hlo, rfl, h0⟩, ?_⟩
  rintro ⟨s, t⟩ h' m ⟨i, rfl, hi, rfl, hI⟩
  refine hs i s h' _ hi hI fun s' h'' hlt hI' => ?_
  exact ⟨n - (i + 1), by omega, i + 1, by show IntKind.wrap .i64 ((i : Int) + 1) = _; rw [w64 (by omega) (by omega)]; rfl, by omega, rfl, hI'⟩
end Go.Hx
namespace Go.Proofs.Ytpmpacdjcfijbaa
open Go.Hx Go.Deep
section
variable {h : Heap} {v : CV} {C : Circ} {w : TV} {T : Tr}
end
end Go.Proofs.Ytpmpacdjcfijbaa
/- The document's justice; a trace held against a property. No condition. -/
set_option linter.unusedVariables false
set_option linter.unusedSimpArgs false
namespace Go.Proofs.Ytpmpacdjcfijbaa
open Go.Hx Go.Deep
section
variable {h : Heap} {v : CV} {C : Circ} {w : TV} {T : Tr}
def hasP (C : Circ) (kd i : Int) : Prop := (kd = 98 ∧ 0 ≤ i ∧ i < C.bads.length) ∨ (kd = 106 ∧ 0 ≤ i ∧ i < C.just.length)
instance (C : Circ) (kd i : Int) : Decidable (hasP C kd i) := by unfold hasP; infer_instance
end
end Go.Proofs.Ytpmpacdjcfijbaa
/- Traces are held against properties as the document has it. No condition. -/
set_option linter.unusedVariables false
set_option linter.unusedSimpArgs false
namespace Go.Hx
structure PV where
  k : Int
  i : Int
def PV.cs (p : PV) : List Value := [.int .u8 p.k, .int .i64 p.i]
end Go.Hx
namespace Go.Proofs.Ytpmpacdjcfijbaa
open Go.Hx Go.Deep
section
variable {H : Type} {enc : TypeId × Value → H} {W : World} {base : Nat} {held : Bool}
end
section
variable {h : Heap} {v : CV} {C : Circ} {w : TV} {T : Tr}
end
end Go.Proofs.Ytpmpacdjcfijbaa
