/- Words and facts that the claim's proof leans on. No condition. -/
import Derived.Test.YtbfejkmnkkpkhaaLS
set_option linter.unusedVariables false
set_option linter.unusedSimpArgs false
namespace Go.Proofs.Ytbfejkmnkkpkhaa
open Go.Hx

/-- May the clause be looked at by the model? -/
def vok (l : List Int) (m : List Bool) : Bool := decide (chk l = 0 ∧ m.length ≤ 262144 ∧ ∀ x ∈ l, ab x ≤ m.length)
theorem vres_ok {l : List Int} {m : List Bool} (h : vok l m = true) : vres l m = .tuple #[.bool (l.any (mv m)), .int .i64 0] := by
  obtain ⟨h1, h2, h3⟩ := of_decide_eq_true h
  unfold vres
  rw [if_neg (by simpa using h1), if_neg (by omega), if_neg]
  rw [List.any_eq_true]
  rintro ⟨x, hx, hd⟩
  have := h3 x hx
  have := of_decide_eq_true hd
  omega
theorem vres_no {l : List Int} {m : List Bool} (h : vok l m = false) : ∃ b e, e ≠ 0 ∧ vres l m = .tuple #[.bool b, .int .i64 e] := by
  have h := of_decide_eq_false h
  unfold vres
  by_cases h1 : chk l = 0
  · rw [if_neg (by simpa using h1)]
    by_cases h2 : 262144 < m.length
    · rw [if_pos h2]; exact ⟨_, _, by decide, rfl⟩
    · rw [if_neg h2, if_pos]
      · exact ⟨_, _, by decide, rfl⟩
      · apply Classical.byContradiction
        intro hn
        refine h ⟨h1, by omega, fun x hx => ?_⟩
        apply Classical.byContradiction
        intro hx2
        exact hn (List.any_eq_true.2 ⟨x, hx, decide_eq_true (by omega)⟩)
  · rw [if_pos h1]; exact ⟨_, _, h1, rfl⟩
section
variable {cA : Option Addr} {cN cC : Nat} {l : List Int} {mA : Option Addr} {mN mC : Nat} {m : List Bool} {h : Heap} (rl : Rd h cA cN (ints l)) (rm : Rd h mA mN (bools m))
include rl rm
theorem c33 : CallsH Try.prog 33 #[.slice cA cN cC, .slice mA mN mC] h (Ret (.bool (vok l m)) h) := by
  refine run33 cA cN cC mA mN mC _ h (use (c20 rl rm) ?_)
  cases hv : vok l m with
  | true => exact ⟨_, _, vres_ok hv, fun _ => ⟨rfl, rfl⟩, fun h0 => absurd rfl h0⟩
  | false =>
    obtain ⟨b, e, he, hr⟩ := vres_no hv
    exact ⟨_, _, hr, fun h0 => absurd h0 he, fun _ => ⟨rfl, rfl⟩⟩
theorem c34 (hv : vok l m = true) : CallsH Try.prog 34 #[.slice cA cN cC, .slice mA mN mC] h (Ret (.bool (l.any (mv m))) h) :=
  run34 cA cN cC mA mN mC _ h (use (c20 rl rm) ⟨_, _, vres_ok hv, rfl, rfl⟩)
end

theorem mv_neg {m : List Bool} {x : Int} (hx : x ≠ 0) : mv m (-x) = !(mv m x) := by
  unfold mv
  rw [ab_neg]
  by_cases h : 0 < x
  · rw [decide_eq_true h, decide_eq_false (by omega)]
    cases m.getD (ab x - 1).toNat false <;> rfl
  · rw [decide_eq_false h, decide_eq_true (by omega)]
    cases m.getD (ab x - 1).toNat false <;> rfl
/-- An assignment of the model. -/
def Of (m : List Bool) (asg : List Int) : Prop := ∀ x ∈ asg, isF x = true ∧ mv m x = true
theorem Of.not_bad {m : List Bool} {asg : List Int} (o : Of m asg) : ¬ Bad asg := by
  rintro ⟨x, hx, hnx⟩
  have h1 := o x hx
  have h2 := o (-x) hnx
  rw [mv_neg (isF_t.1 h1.1).1, h1.2] at h2
  cases h2.2
theorem Of.wr {m : List Bool} {asg : List Int} (o : Of m asg) (hl : asg.length ≤ 262144) : wr asg = 0 := wr_0 (by omega) (List.all_eq_true.2 fun x hx => (o x hx).1) o.not_bad
theorem chk_sub {l q : List Int} (h : chk l = 0) (hq : ∀ x ∈ q, x ∈ l) (hl : q.length ≤ 16384) : chk q = 0 := by
  have hf := List.all_eq_true.1 (chk_0 h).1
  unfold chk
  rw [if_neg (by omega), if_pos (List.all_eq_true.2 fun x hx => hf x (hq x hx))]

theorem c8 {cA : Option Addr} {cN cC : Nat} {l : List Int} {mA : Option Addr} {mN mC : Nat} {m : List Bool} {pA : Option Addr} {pN pC : Nat} {p : List Int} {h : Heap} (rl : Rd h cA cN (ints l)) (rm : Rd h mA mN (bools m)) (rp : Rd h pA pN (ints p))
    (hpn : pN ≤ 140737488351232) : CallsH Try.prog 8 #[.slice cA cN cC, .slice mA mN mC, .slice pA pN pC] h (Yes h) := by
  have e1 : l.length = cN := by have := rl.len; simpa using this
  have e2 : m.length = mN := by have := rm.len; simpa using this
  have e3 : p.length = pN := by have := rp.len; simpa using this
  refine run8 cA cN cC mA mN mC pA pN pC _ h ((c16 h).mono ?_)
  rintro _ h1 ⟨rfl, x1⟩
  refine ⟨_, rfl, BIf.f ?_⟩
  refine use (c33 (rl.ext x1) (rm.ext x1)) ⟨_, rfl, ?_⟩
  cases hv : vok l m with
  | false => exact ⟨rfl, x1⟩
  | true =>
  refine BIf.f ⟨fun _ => ⟨rfl, x1⟩, fun hm => ?_⟩
  obtain ⟨v1, v2, v3⟩ := of_decide_eq_true hv
  have hm100 : mN ≤ 100 := by omega
  have last : ∀ (aA : Option Addr) (aN aC : Nat) (asg : List Int) (h6 : Heap), Ext h1 h6 → Rd h6 aA aN (ints asg) → Of m asg → aN ≤ 101 → J8_2 Try.prog (Yes h) cA cN cC mA mN mC aA aN aC h6 := fun aA aN aC asg h6 x6 ra o hn => by
    have ea : asg.length = aN := by have := ra.len; simpa using this
    have y6 : Ext h h6 := x1.trans x6
    unfold J8_2
    refine (c31 (rl.ext y6) ra).mono ?_
    rintro _ h7 ⟨q, ok, e, sA, sC, r7, f7, rfl⟩
    have y7 : Ext h h7 := y6.trans f7.ext
    have w0 := o.wr (by omega)
    refine ⟨_, _, _, _, _, rfl, ?_⟩
    rcases r7 with ⟨h1, rfl, rfl, rfl⟩ | ⟨h1, h2, rfl, rfl, rfl⟩ | ⟨h1, h2, h3, rfl, rfl, rfl⟩ | ⟨h1, h2, rfl, n, h3, h4⟩
    · exact absurd v1 h1
    · exact absurd w0 h2
    · exact ⟨fun h0 => absurd h0 (by decide), fun _ => ⟨fun _ => ⟨fun _ => ⟨rfl, y7⟩, fun h0 => absurd rfl h0⟩, fun h0 => absurd rfl h0⟩⟩
    · refine ⟨fun _ => ?_, fun h0 => absurd rfl h0⟩
      unfold J8_5
      rcases h4 with ⟨⟨x, hx, hxa⟩, rfl, rfl⟩ | ⟨h5, rfl, rfl⟩
      · refine BIf.t (use (c34 (rl.ext y7) (rm.ext y7) hv) ⟨_, rfl, ?_⟩)
        rw [List.any_eq_true.2 ⟨x, (h3.2 x).1 hx, (o x hxa).2⟩]
        exact BIf.t ⟨fun _ => ⟨rfl, y7⟩, fun h0 => absurd rfl h0⟩
      · have hnl := h3.len
        have hfl := List.length_filter_le (fun x => decide (-x ∉ asg)) n
        have hsub : ∀ x ∈ n.filter (fun x => decide (-x ∉ asg)), x ∈ l := fun x hx => (h3.2 x).1 ((List.mem_filter.1 hx).1)
        have hll := (chk_0 v1).2
        have hvq : vok (n.filter (fun x => decide (-x ∉ asg))) m = true := decide_eq_true ⟨chk_sub v1 hsub (by omega), v2, fun x hx => v3 x (hsub x hx)⟩
        have hany : (n.filter (fun x => decide (-x ∉ asg))).any (mv m) = l.any (mv m) := by
          rw [Bool.eq_iff_iff, List.any_eq_true, List.any_eq_true]
          constructor
          · rintro ⟨x, hx, hmx⟩; exact ⟨x, hsub x hx, hmx⟩
          · rintro ⟨x, hx, hmx⟩
            refine ⟨x, List.mem_filter.2 ⟨(h3.2 x).2 hx, decide_eq_true fun hh => ?_⟩, hmx⟩
            have h6 := o (-x) hh
            have hx0 := (isF_t.1 h6.1).1
            rw [mv_neg (by omega), hmx] at h6
            cases h6.2
        refine BIf.f ?_
        unfold J8_6
        refine use (c34 f7.rd (rm.ext y7) hvq) ⟨_, rfl, use (c34 (rl.ext y7) (rm.ext y7) hv) ⟨_, rfl, fun _ => ⟨fun _ => ⟨rfl, y7⟩, fun h0 => absurd (by omega) h0⟩, fun h0 => absurd hany h0⟩⟩
  unfold J8_1
  refine ⟨fun st h' mm => ∃ (k : Nat) (aA : Option Addr) (c : Nat) (asg : List Int), st = ((aA, asg.length, c), (k : Int)) ∧ k ≤ pN ∧ Fr h1 1 h' aA asg.length c (ints asg) ∧ Of m asg ∧ asg.length ≤ 101 ∧ mm = pN - k, ⟨pN, 0, none, 0, [], rfl, by omega, .nil (.refl _), (fun x hx => by cases hx), by simp, rfl⟩, ?_⟩
  rintro st h5 mm ⟨k, aA, c, asg, rfl, hk, f, o, hal, rfl⟩
  have y5 : Ext h h5 := x1.trans f.ext
  have fin := last aA asg.length c asg h5 f.ext f.rd o hal
  refine ⟨fun hlt => ?_, fun hge => fin⟩
  simp only at hlt
  unfold J8_3
  refine ⟨by simp only; omega, by simp only; omega, (rp.ext y5).geti (j := (k : Int)) (by omega) (by omega) fun ad hl hcell => ⟨_, hcell, fun _ => fin, fun hm0 => ⟨fun _ => fin, fun h100 => ?_⟩⟩⟩
  simp only [Int.toNat_natCast] at hl hcell ⊢
  have h100' : asg.length ≤ 100 := by simp only at h100; omega
  unfold J8_4
  have wm : IntKind.wrap .u64 (mN : Int) = mN := by rw [wr_u64]; omega
  obtain ⟨v, hvv, hvl⟩ : ∃ v : Nat, IntKind.wrap .i64 (Int.tmod (IntKind.wrap .u64 p[k]) (mN : Int)) = (v : Int) ∧ v < mN := by
    have h5 : 0 ≤ IntKind.wrap .u64 p[k] := by rw [wr_u64]; omega
    rw [Int.tmod_eq_emod_of_nonneg h5]
    have h6 := Int.emod_nonneg (IntKind.wrap .u64 p[k]) (show (mN : Int) ≠ 0 by omega)
    have h7 := Int.emod_lt_of_pos (IntKind.wrap .u64 p[k]) (show (0 : Int) < mN by omega)
    rw [w64 (by omega) (by omega)]
    exact ⟨(IntKind.wrap .u64 p[k] % mN).toNat, by omega, by omega⟩
  simp only [wm, hvv]
  have i1 : ((mN : Nat) : Int) ≠ 0 := by omega
  have i2 : (0 : Int) ≤ (v : Int) := by omega
  have i3 : (v : Int) < ((mN : Nat) : Int) := by omega
  refine ⟨i1, i2, i3, (rm.ext y5).geti (j := (v : Int)) i2 i3 fun ad2 hl2 hcell2 => ⟨_, hcell2, ?_⟩⟩
  simp only [Int.toNat_natCast, e_s (show k < 4611686018427387904 by omega)] at hl2 hcell2 ⊢
  have more : ∀ x : Int, isF x = true → mv m x = true → ∃ ys : List Value, ReadL (h5.push (.cells #[.int .i64 x] 3)) (some (Addr.mk h5.size 0 none)) ys ∧ ys.length = 1 * 1 ∧ AppS (h5.push (.cells #[.int .i64 x] 3)) aA asg.length c 3 8 1 #[.int .i64 0] ys 1 fun apA apN apC h_15 =>
      ∃ m', m' < pN - k ∧ ∃ (k1 : Nat) (aA : Option Addr) (c : Nat) (asg : List Int), ((apA, apN, apC), ((k + 1 : Nat) : Int)) = ((aA, asg.length, c), (k1 : Int)) ∧ k1 ≤ pN ∧ Fr h1 1 h_15 aA asg.length c (ints asg) ∧ Of m asg ∧ asg.length ≤ 101 ∧ m' = pN - k1 := fun x hxf hxm =>
    app1' f rfl (by omega) fun a' c'' h' f' _ => ⟨_, by omega, k + 1, a', c'', asg ++ [x], by simp, by omega, by simpa using f', fun y hy => by
      rcases List.mem_append.1 hy with hy | hy
      · exact o y hy
      · rw [List.mem_singleton.1 hy]; exact ⟨hxf, hxm⟩, by simp; omega, rfl⟩
  have hg : m.getD v false = m[v] := by rw [List.getD_eq_getElem?_getD, List.getElem?_eq_getElem hl2]; rfl
  cases hb : m[v] with
  | true =>
    rw [e_s (show v < 4611686018427387904 by omega)]
    refine BIf.t (more _ (isF_t.2 ⟨by omega, by omega, by omega⟩) ?_)
    unfold mv
    rw [show (ab ((v + 1 : Nat) : Int) - 1).toNat = v by unfold ab; split <;> omega, hg, hb, decide_eq_true (by omega)]; rfl
  | false =>
    rw [show IntKind.wrap .i64 (IntKind.wrap .i64 (0 - (v : Int)) - 1) = -(v : Int) - 1 by rw [w64 (x := 0 - (v : Int)) (by omega) (by omega), w64 (by omega) (by omega)]; omega]
    refine BIf.f (more _ (isF_t.2 ⟨by omega, by omega, by omega⟩) ?_)
    unfold mv
    rw [show (ab (-(v : Int) - 1) - 1).toNat = v by unfold ab; split <;> omega, hg, hb, decide_eq_false (by omega)]; rfl
end Go.Proofs.Ytbfejkmnkkpkhaa
