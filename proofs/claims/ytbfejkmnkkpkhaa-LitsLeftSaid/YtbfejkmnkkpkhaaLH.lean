/- Words and facts that the claim's proof leans on. No condition. -/
import Derived.Test.YtbfejkmnkkpkhaaLG
set_option linter.unusedVariables false
set_option linter.unusedSimpArgs false
namespace Go.Proofs.Ytbfejkmnkkpkhaa
open Go.Hx

theorem if_pair (b : Bool) (a : Int) : (if b then Value.tuple #[.int .i64 a, .int .i64 0] else .tuple #[.int .i64 0, .int .i64 1]) = .tuple #[.int .i64 (if b then a else 0), .int .i64 (if b then 0 else 1)] := by cases b <;> rfl
theorem c15 (h : Heap) : CallsH Try.prog 15 #[] h (Ret (.bool true) h) := run15 _ h ⟨rfl, rfl⟩
theorem c3 (l : Int) (h : Heap) (h1 : -9223372036854775808 ≤ l) (h2 : l ≤ 9223372036854775807) : CallsH Try.prog 3 #[.int .i64 l] h fun v h' => v = .bool true ∧ Ext h h' := by
  refine run3 l _ h (use (c9 l h h1 h2) ⟨_, _, if_pair _ _, use (c10 l h h1 h2) ⟨_, _, if_pair _ _, use (c11 l h) ⟨_, _, if_pair _ _, use (c12 l h) ⟨_, _, if_pair _ _, use (c13 l h) ⟨_, _, if_pair _ _, use (c14 l h) ⟨_, _, if_pair _ _, use (c15 h) ⟨_, rfl, .t ?_⟩⟩⟩⟩⟩⟩⟩)
  refine ⟨fun _ => ⟨fun _ => ⟨fun _ => ⟨fun _ => ⟨fun _ => ⟨fun _ => ?_, fun hh => absurd rfl hh⟩, fun hh => absurd rfl hh⟩, fun hh => absurd rfl hh⟩, fun hh => absurd rfl hh⟩, fun hh => absurd rfl hh⟩, fun hh => absurd rfl hh⟩
  refine (c16 h).mono ?_
  rintro _ h' ⟨rfl, hx⟩
  exact ⟨_, rfl, rfl, hx⟩
end Go.Proofs.Ytbfejkmnkkpkhaa
