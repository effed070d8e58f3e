/- Words and facts that the claim's proof leans on. No condition. -/
import Derived.Test.YtbfejkmnkkpkhaaLO
set_option linter.unusedVariables false
set_option linter.unusedSimpArgs false
namespace Go.Proofs.Ytbfejkmnkkpkhaa
open Go.Hx

theorem PNorm.lens {l m q p : List Int} {e : Int} (h : PNorm l m q p e) : q.length ≤ 16384 ∧ p.length ≤ 16384 := by
  rcases h with ⟨h1, rfl, rfl, rfl⟩ | ⟨h1, h2, rfl, rfl, rfl⟩ | ⟨h1, h2, h3, rfl, rfl, rfl⟩ | ⟨h1, h2, h3, h4, rfl⟩
  · simp
  · simp
  · simp
  · have := h3.len; have := (chk_0 h1).2; have := h4.len; have := (chk_0 h2).2; omega

/-- Subsumes' answer. -/
def subs (q p : List Int) (e : Int) : Bool := if e = 0 then decide (lk q p = []) else false
theorem c26 {aA : Option Addr} {aN aC : Nat} {l : List Int} {bA : Option Addr} {bN bC : Nat} {m : List Int} {h : Heap} (rl : Rd h aA aN (ints l)) (rm : Rd h bA bN (ints m)) :
    CallsH Try.prog 26 #[.slice aA aN aC, .slice bA bN bC] h fun v h' => Ext h h' ∧ ∃ q p e, PNorm l m q p e ∧ v = .tuple #[.bool (subs q p e), .int .i64 e] := by
  refine run26 aA aN aC bA bN bC _ h ((c49 rl rm).mono ?_)
  rintro _ h1 r1
  obtain ⟨q, p, e, a, c, b, d, ⟨ho, fa, fb⟩, rfl⟩ := r1.norm
  refine ⟨_, _, _, _, _, _, _, rfl, fun he => ?_, fun hne => ⟨fa.ext, q, p, e, ho, by unfold subs; rw [if_neg hne]⟩⟩
  obtain ⟨k1, k2, k3, k4⟩ := ho.ok he
  have hl := ho.lens
  subst he
  refine (c50 fa.rd fb.rd k4.1 (k3.isF (chk_0 k1).1) (k4.isF (chk_0 k2).1) (by omega) (by omega)).mono ?_
  rintro _ h2 ⟨a2, c2, rfl, f2⟩
  refine ⟨_, _, _, rfl, fun hz => ⟨fa.ext.trans f2.ext, q, p, 0, ho, ?_⟩, fun hz => ⟨fa.ext.trans f2.ext, q, p, 0, ho, ?_⟩⟩
  · unfold subs; rw [if_pos rfl, decide_eq_true (List.length_eq_zero_iff.1 (by omega))]
  · unfold subs; rw [if_pos rfl, decide_eq_false (fun hh => hz (by rw [hh]; rfl))]
theorem lk_nil {q p : List Int} : lk q p = [] ↔ ∀ x ∈ q, x ∈ p := by
  unfold lk
  rw [List.filter_eq_nil_iff]
  constructor
  · intro h x hx; have := h x hx; simpa using this
  · intro h x hx; have := h x hx; simpa using this
theorem c27 {aA : Option Addr} {aN aC : Nat} {l : List Int} {bA : Option Addr} {bN bC : Nat} {m : List Int} {h : Heap} (rl : Rd h aA aN (ints l)) (rm : Rd h bA bN (ints m)) :
    CallsH Try.prog 27 #[.slice aA aN aC, .slice bA bN bC] h fun v h' => Ext h h' ∧ ∃ q p e, PNorm l m q p e ∧ v = .tuple #[.bool (subs q p e), .int .i64 e] := by
  refine run27 aA aN aC bA bN bC _ h ((c51 rl rm).mono ?_)
  rintro _ h1 r1
  obtain ⟨q, p, e, a, c, b, d, ⟨ho, fa, fb⟩, rfl⟩ := r1.norm
  refine ⟨_, _, _, _, _, _, _, rfl, fun he => ?_, fun hne => ⟨fa.ext, q, p, e, ho, by unfold subs; rw [if_neg hne]⟩⟩
  obtain ⟨k1, k2, k3, k4⟩ := ho.ok he
  have hl := ho.lens
  subst he
  refine ⟨fun t h' k => h' = h1 ∧ 0 ≤ t ∧ t ≤ q.length ∧ k = (q.length - t).toNat ∧ ∀ x ∈ q.take t.toNat, x ∈ p, ⟨_, rfl, Int.le_refl _, by omega, rfl, by simp⟩, ?_⟩
  rintro t _ _ ⟨rfl, h0, ht, rfl, hall⟩
  refine ⟨fun hlt => ?_, fun hge => ⟨fa.ext, q, p, 0, ho, ?_⟩⟩
  · unfold J27_2
    refine ⟨h0, hlt, fa.rd.geti h0 hlt fun ad g1 k1 => ⟨_, k1, use (c52 fb.rd _ (by omega)) ⟨_, rfl, ?_⟩⟩⟩
    by_cases hin : q[t.toNat] ∈ p
    · rw [decide_eq_true hin]
      refine BIf.f ?_
      rw [w64 (by omega) (by omega)]
      refine ⟨_, by omega, rfl, by omega, by omega, rfl, fun x hx => ?_⟩
      rw [show (t + 1).toNat = t.toNat + 1 by omega, List.take_succ_eq_append_getElem g1, List.mem_append, List.mem_singleton] at hx
      rcases hx with hx | rfl
      · exact hall x hx
      · exact hin
    · rw [decide_eq_false hin]
      refine BIf.t ⟨fa.ext, q, p, 0, ho, ?_⟩
      unfold subs; rw [if_pos rfl, decide_eq_false (fun hh => hin (lk_nil.1 hh _ (List.getElem_mem g1)))]
  · rw [List.take_of_length_le (by omega)] at hall
    unfold subs; rw [if_pos rfl, decide_eq_true (lk_nil.2 hall)]

/-- Strengthen's answer. -/
def strg (q p : List Int) (e : Int) : List Int × Bool :=
  if e = 0 then (match lk q p with
    | [x] => if -x ∈ p then (drp p (-x), true) else ([], false)
    | _ => ([], false)) else ([], false)
def StrgRes (h : Heap) (l m : List Int) (v : Value) (h' : Heap) : Prop :=
  Ext h h' ∧ ∃ q p e a c, PNorm l m q p e ∧ Fr h 1 h' a (strg q p e).1.length c (ints (strg q p e).1) ∧ v = .tuple #[.slice a (strg q p e).1.length c, .bool (strg q p e).2, .int .i64 e]
theorem strg_none {h h' : Heap} {l m q p : List Int} {e : Int} (x : Ext h h') (ho : PNorm l m q p e) (hs : strg q p e = ([], false)) : StrgRes h l m (.tuple #[.slice none 0 0, .bool false, .int .i64 e]) h' :=
  ⟨x, q, p, e, none, 0, ho, by rw [hs]; exact .nil x, by rw [hs]; rfl⟩
theorem c28 {aA : Option Addr} {aN aC : Nat} {l : List Int} {bA : Option Addr} {bN bC : Nat} {m : List Int} {h : Heap} (rl : Rd h aA aN (ints l)) (rm : Rd h bA bN (ints m)) :
    CallsH Try.prog 28 #[.slice aA aN aC, .slice bA bN bC] h (StrgRes h l m) := by
  refine run28 aA aN aC bA bN bC _ h ((c49 rl rm).mono ?_)
  rintro _ h1 r1
  obtain ⟨q, p, e, a, c, b, d, ⟨ho, fa, fb⟩, rfl⟩ := r1.norm
  refine ⟨_, _, _, _, _, _, _, rfl, fun he => ?_, fun hne => strg_none fa.ext ho (by unfold strg; rw [if_neg hne])⟩
  obtain ⟨k1, k2, k3, k4⟩ := ho.ok he
  have hl := ho.lens
  subst he
  have hfq := k3.isF (chk_0 k1).1
  have hfp := k4.isF (chk_0 k2).1
  refine (c50 fa.rd fb.rd k4.1 hfq hfp (by omega) (by omega)).mono ?_
  rintro _ h2 ⟨a2, c2, rfl, f2⟩
  have x2 := fa.ext.trans f2.ext
  refine ⟨_, _, _, rfl, fun hz => ?_, fun hz => strg_none x2 ho ?_⟩
  · obtain ⟨x, hx⟩ : ∃ x, lk q p = [x] := List.length_eq_one_iff.1 (by omega)
    have hxq : x ∈ q := by
      have : x ∈ lk q p := by rw [hx]; simp
      exact (List.mem_filter.1 this).1
    have hxf := isF_t.1 (hfq x hxq)
    have hnx : isF (-x) = true := isF_t.2 (by omega)
    rw [hx] at f2 ⊢
    unfold J28_1
    have f2p := fb.upd f2.ext
    refine ⟨by omega, by simp, f2.rd.geti (f := .int .i64) (by omega) (by simp) fun ad g1 c1 => ⟨_, c1, ?_⟩⟩
    have ex : [x][(0 : Int).toNat] = x := rfl
    rw [ex, w64 (by omega) (by omega), show 0 - x = -x by omega]
    refine (c53 f2p.rd k4.1 hfp hnx (by omega)).mono ?_
    rintro _ _ ⟨rfl, i, bb, hs, rfl⟩
    rename_i h2
    refine ⟨_, _, rfl, ?_⟩
    cases bb with
    | true =>
      have hin : -x ∈ p := by have := hs.is; simpa using this
      refine BIf.f ?_
      unfold J28_2
      refine ⟨by omega, by simp, f2.rd.geti (f := .int .i64) (by omega) (by simp) fun ad g1 c1 => ⟨_, c1, ?_⟩⟩
      rw [ex, w64 (by omega) (by omega), show 0 - x = -x by omega]
      refine (c54 f2p.rd f2p.own.cap k4.1 hfp hnx (by omega)).mono ?_
      rintro _ h3 ⟨a3, c3, rfl, f3⟩
      have hs2 : strg q p 0 = (drp p (-x), true) := by unfold strg; rw [if_pos rfl, hx]; simp only; rw [if_pos hin]
      exact ⟨_, _, _, rfl, x2.trans f3.ext, q, p, 0, a3, c3, ho, by rw [hs2]; exact Fr.wide f3 x2, by rw [hs2]⟩
    | false =>
      have hin : -x ∉ p := by have := hs.is; simpa using this
      exact BIf.t (strg_none x2 ho (by unfold strg; rw [if_pos rfl, hx]; simp only; rw [if_neg hin]))
  · unfold strg
    rw [if_pos rfl]
    split
    · rename_i x hx; rw [hx] at hz; exact absurd rfl hz
    · rfl

theorem c29 {aA : Option Addr} {aN aC : Nat} {l : List Int} {bA : Option Addr} {bN bC : Nat} {m : List Int} {h : Heap} (rl : Rd h aA aN (ints l)) (rm : Rd h bA bN (ints m)) :
    CallsH Try.prog 29 #[.slice aA aN aC, .slice bA bN bC] h (StrgRes h l m) := by
  refine run29 aA aN aC bA bN bC _ h ((c51 rl rm).mono ?_)
  rintro _ h1 r1
  obtain ⟨q, p, e, a, c, b, d, ⟨ho, fa, fb⟩, rfl⟩ := r1.norm
  refine ⟨_, _, _, _, _, _, _, rfl, fun he => ?_, fun hne => strg_none fa.ext ho (by unfold strg; rw [if_neg hne])⟩
  obtain ⟨k1, k2, k3, k4⟩ := ho.ok he
  have hl := ho.lens
  subst he
  have hfq := k3.isF (chk_0 k1).1
  refine ⟨fun (st : Int × Int × Int) h' k => h' = h1 ∧ 0 ≤ st.2.2 ∧ st.2.2 ≤ q.length ∧ k = (q.length - st.2.2).toNat ∧ st.2.1 = ((lk (q.take st.2.2.toNat) p).length : Nat) ∧ ((lk (q.take st.2.2.toNat) p).getLast?.getD 0) = st.1,
    ⟨_, rfl, Int.le_refl _, by show (0 : Int) ≤ q.length; omega, rfl, rfl, rfl⟩, ?_⟩
  rintro ⟨lack, many, t⟩ _ _ ⟨rfl, h0, ht, rfl, hm, hla⟩
  simp only at h0 ht hm hla
  have hb : (lk (q.take t.toNat) p).length ≤ q.length := by
    have := List.length_filter_le (fun x => decide (x ∉ p)) (q.take t.toNat)
    simp only [List.length_take] at this
    unfold lk
    omega
  refine ⟨fun hlt => ?_, fun hge => ?_⟩
  · simp only at hlt
    unfold J29_2
    have e0 : IntKind.wrap .i64 (t + 1) = t + 1 := w64 (by omega) (by omega)
    have e1 : (t + 1).toNat = t.toNat + 1 := by omega
    have e4 : IntKind.wrap .i64 (many + 1) = many + 1 := w64 (by omega) (by omega)
    rw [e0, e4]
    refine ⟨h0, hlt, fa.rd.geti h0 hlt fun ad g1 k1 => ⟨_, k1, use (c52 fb.rd _ (by omega)) ⟨_, rfl, ?_⟩⟩⟩
    have fs := filter_take g1 (fun x => decide (x ∉ p))
    by_cases hin : q[t.toNat] ∈ p
    · rw [decide_eq_true hin]
      have e2 : lk (q.take (t + 1).toNat) p = lk (q.take t.toNat) p := by unfold lk; rw [e1, fs]; simp [hin]
      refine BIf.f ⟨_, ?_, rfl, ?_, ?_, rfl, ?_, ?_⟩
      · show ((q.length : Int) - (t + 1)).toNat < ((q.length : Int) - t).toNat; omega
      · show 0 ≤ t + 1; omega
      · show t + 1 ≤ q.length; omega
      · show many = _; rw [e2]; exact hm
      · show ((lk (q.take (t + 1).toNat) p).getLast?.getD 0) = lack; rw [e2]; exact hla
    · rw [decide_eq_false hin]
      have e2 : lk (q.take (t + 1).toNat) p = lk (q.take t.toNat) p ++ [q[t.toNat]] := by unfold lk; rw [e1, fs]; simp [hin]
      refine BIf.t ⟨h0, hlt, fa.rd.geti h0 hlt fun ad g1 k1 => ⟨_, k1, _, ?_, rfl, ?_, ?_, rfl, ?_, ?_⟩⟩
      · show ((q.length : Int) - (t + 1)).toNat < ((q.length : Int) - t).toNat; omega
      · show 0 ≤ t + 1; omega
      · show t + 1 ≤ q.length; omega
      · show many + 1 = _; rw [e2, List.length_append, hm]; simp
      · show ((lk (q.take (t + 1).toNat) p).getLast?.getD 0) = _; rw [e2]; simp
  · simp only at hge
    have e3 : lk (q.take t.toNat) p = lk q p := by rw [List.take_of_length_le (by omega)]
    rw [e3] at hm hla
    unfold J29_1
    refine ⟨fun h1' => ?_, fun hne => strg_none fa.ext ho ?_⟩
    · simp only at h1'
      obtain ⟨x, hx⟩ : ∃ x, lk q p = [x] := List.length_eq_one_iff.1 (by omega)
      have hxq : x ∈ q := by
        have : x ∈ lk q p := by rw [hx]; simp
        exact (List.mem_filter.1 this).1
      have hxf := isF_t.1 (hfq x hxq)
      rw [hx] at hla
      have hla : lack = x := hla.symm
      subst hla
      have ew : IntKind.wrap .i64 (0 - lack) = -lack := by rw [w64 (by omega) (by omega)]; omega
      simp only [ew]
      refine use (c52 fb.rd _ (by omega)) ⟨_, rfl, ?_⟩
      by_cases hin : -lack ∈ p
      · rw [decide_eq_true hin]
        refine BIf.f ((c55 fb.rd (-lack) (by omega)).mono ?_)
        rintro _ h3 ⟨a3, c3, rfl, f3⟩
        have hs2 : strg q p 0 = (drp p (-lack), true) := by unfold strg; rw [if_pos rfl, hx]; simp only; rw [if_pos hin]
        exact ⟨_, _, _, rfl, fa.ext.trans f3.ext, q, p, 0, a3, c3, ho, by rw [hs2]; exact Fr.wide f3 fa.ext, by rw [hs2]⟩
      · rw [decide_eq_false hin]
        exact BIf.t (strg_none fa.ext ho (by unfold strg; rw [if_pos rfl, hx]; simp only; rw [if_neg hin]))
    · simp only at hne
      unfold strg
      rw [if_pos rfl]
      split
      · rename_i x hx; rw [hx] at hm; exact absurd hm hne
      · rfl
end Go.Proofs.Ytbfejkmnkkpkhaa
