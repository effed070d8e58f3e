/- Words and facts that the claim's proof leans on. No condition. -/
import Derived.Test.YtbfejkmnkkpkhaaLH
set_option linter.unusedVariables false
set_option linter.unusedSimpArgs false
namespace Go.Proofs.Ytbfejkmnkkpkhaa
open Go.Hx

/-- True, and what was there is as it was. -/
def Yes (h0 : Heap) : Value → Heap → Prop := fun v h' => v = .bool true ∧ Ext h0 h'

theorem NF.self {l q : List Int} (n : NF l q) : NF q q := ⟨n.1, fun _ => Iff.rfl⟩

theorem j51 {h0 h h9 : Heap} (x : Ext h0 h) {cA : Option Addr} {cN cC : Nat} {l : List Int} (rd : Rd h cA cN (ints l)) : J5_1 Try.prog (Yes h0) h9 cA cN cC h := by
  have hlen : l.length = cN := by have := rd.len; simpa using this
  refine (c18 rd).mono ?_
  rintro _ h1 ⟨x1, ⟨hc, rfl⟩ | ⟨hc, ht, rfl⟩ | ⟨hc, q, a, c, hq, fq, rfl⟩⟩
  · exact ⟨_, _, _, _, rfl, fun hh => absurd hh hc, fun _ => ⟨fun _ => ⟨rfl, x.trans x1⟩, fun hh => absurd rfl hh⟩⟩
  · exact ⟨_, _, _, _, rfl, fun hh => absurd hh (by decide), fun _ => ⟨fun _ => ⟨rfl, x.trans x1⟩, fun hh => absurd rfl hh⟩⟩
  · obtain ⟨hf, hl⟩ := chk_0 hc
    have hqf := hq.isF hf
    have hql := hq.len
    have hqa : q.all isF = true := List.all_eq_true.2 hqf
    refine ⟨_, _, _, _, rfl, fun _ => ?_, fun hh => absurd rfl hh⟩
    refine (c18 fq.rd).mono ?_
    rintro _ h2 ⟨x2, ⟨hc2, rfl⟩ | ⟨_, ht, rfl⟩ | ⟨_, q', a', c', hq', fq', rfl⟩⟩
    · exact absurd (chk_of hqa (by omega)) hc2
    · exact absurd ht (hq.self.not_taut hqa)
    have := hq'.unique hq.self
    subst this
    have x12 := x.trans (x1.trans x2)
    have f2 := fq.upd x2
    refine ⟨_, _, _, _, rfl, fun _ => ⟨fun _ => ?_, fun hh => absurd rfl hh⟩, fun hh => absurd rfl hh⟩
    refine ⟨fun t h' m => h' = h2 ∧ 0 ≤ t ∧ t ≤ q'.length ∧ m = (q'.length - t).toNat, ⟨_, rfl, Int.le_refl _, by omega, rfl⟩, ?_⟩
    rintro t _ _ ⟨rfl, t0, tn, rfl⟩
    refine ⟨fun hlt => ?_, fun _ => ⟨rfl, x12⟩⟩
    unfold J5_5
    refine ⟨t0, hlt, fq'.rd.geti t0 hlt fun ad hl1 g1 => ⟨_, g1, t0, hlt, f2.rd.geti t0 hlt fun ad1 hl2 g2 => ⟨_, g2, fun _ => ?_, fun hh => absurd rfl hh⟩⟩⟩
    have hb := isF_t.1 (hqf _ (List.getElem_mem hl2))
    have hn : IntKind.wrap .i64 (t + 1) = t + 1 := w64 (by omega) (by omega)
    refine ⟨fun hp => ?_, fun _ => ?_⟩
    · have e1 : IntKind.wrap .i64 (t - 1) = t - 1 := w64 (by omega) (by omega)
      rw [e1, hn]
      refine ⟨t0, hlt, f2.rd.geti t0 hlt fun ad2 hl3 g3 => ⟨_, g3, t0, hlt, f2.rd.geti t0 hlt fun ad3 hl4 g4 => ⟨_, g4, by omega, by omega, f2.rd.geti (by omega) (by omega) fun ad4 hl5 g5 => ⟨_, g5, by omega, by omega, f2.rd.geti (by omega) (by omega) fun ad5 hl6 g6 => ⟨_, g6, fun hle => ?_, fun _ => ?_⟩⟩⟩⟩⟩
      · exfalso
        have hb2 := isF_t.1 (hqf _ (List.getElem_mem hl5))
        have hr := List.pairwise_iff_getElem.1 hq.1 (t - 1).toNat t.toNat hl5 hl2 (by omega)
        rw [w64 (by omega) (by omega), w64 (by omega) (by omega)] at hle
        revert hle hr
        generalize q'[t.toNat] = u
        generalize q'[(t - 1).toNat] = w
        unfold ab
        intro hle hr
        split at hr <;> split at hr <;> omega
      · exact ⟨_, by show (q'.length - (t + 1)).toNat < _; omega, rfl, by omega, by omega, rfl⟩
    · rw [hn]
      exact ⟨_, by show (q'.length - (t + 1)).toNat < _; omega, rfl, by omega, by omega, rfl⟩

theorem c5 {l : Int} (hl1 : -9223372036854775808 ≤ l) (hl2 : l ≤ 9223372036854775807) {cA : Option Addr} {cN cC : Nat} {c : List Int} {h : Heap} (rd : Rd h cA cN (ints c)) :
    CallsH Try.prog 5 #[.int .i64 l, .slice cA cN cC] h (Yes h) := by
  refine run5 l cA cN cC _ h ((c16 h).mono ?_)
  rintro _ h1 ⟨rfl, x1⟩
  refine ⟨_, rfl, .f ?_⟩
  have j := fun h9 => j51 (h9 := h9) x1 (rd.ext x1) (cC := cC)
  unfold J5_0
  refine use (c9 l h1 hl1 hl2) ⟨_, _, if_pair _ _, fun hc => ?_, fun hc => ?_⟩
  · cases hcl : isC l with
    | false => rw [hcl] at hc; exact absurd hc (by decide)
    | true =>
    have ⟨l0, l1⟩ := isC_t.1 hcl
    simp only [if_true]
    have hn : isC (if l % 2 = 0 then l + 1 else l - 1) = true := isC_t.2 (by split <;> omega)
    have hnn : (if (if l % 2 = 0 then l + 1 else l - 1) % 2 = 0 then (if l % 2 = 0 then l + 1 else l - 1) + 1 else (if l % 2 = 0 then l + 1 else l - 1) - 1) = l := by split <;> split <;> omega
    have hfn : form (if l % 2 = 0 then l + 1 else l - 1) = -form l := by unfold form; split <;> split <;> split <;> omega
    have hbound : -16385 ≤ form l ∧ form l ≤ 16385 ∧ form l ≠ 0 := by unfold form; split <;> omega
    have hx : isX (form l) = true := by
      unfold isX
      rw [isF_t.2 (by omega), Bool.true_and, decide_eq_true_eq]
      unfold ab; split <;> omega
    have hci : circ (form l) = l := by unfold circ form; split <;> split <;> omega
    refine use (c9 _ h1 (by split <;> omega) (by split <;> omega)) ?_
    rw [hn, hnn]
    refine ⟨_, _, rfl, use (c11 l h1) ?_⟩
    rw [hcl]
    refine ⟨_, _, rfl, use (c11 _ h1) ?_⟩
    rw [hn, hfn]
    refine ⟨_, _, rfl, use (c13 _ h1) ?_⟩
    rw [hx, hci, w64 (x := 0 - form l) (by omega) (by omega)]
    exact ⟨_, _, rfl, fun _ => ⟨fun _ => ⟨fun _ => ⟨fun _ => ⟨fun _ => ⟨fun _ => ⟨fun _ => j _, fun hh => absurd rfl hh⟩, fun hh => absurd rfl hh⟩, fun hh => absurd (by omega) hh⟩, fun hh => absurd rfl hh⟩, fun hh => absurd rfl hh⟩, fun hh => absurd rfl hh⟩, fun hh => absurd rfl hh⟩
  · cases hcl : isC l with
    | true => rw [hcl] at hc; exact absurd rfl hc
    | false =>
    have hcf := isC_f.1 hcl
    refine ⟨fun _ => ⟨fun h0 => ⟨fun h2 => absurd ⟨h0, h2⟩ hcf, fun _ => j _⟩, fun _ => j _⟩, fun hh => absurd rfl hh⟩
end Go.Proofs.Ytbfejkmnkkpkhaa
