/- Words and facts that the claim's proof leans on. No condition. -/
import Derived.Test.YtbfejkmnkkpkhaaLR
import Derived.Test.YtbfejkmnkkpkhaaHxT
set_option linter.unusedVariables false
set_option linter.unusedSimpArgs false
namespace Go.Proofs.Ytbfejkmnkkpkhaa
open Go.Hx

theorem c57 {aA : Option Addr} {aN aC : Nat} {asg : List Int} {h : Heap} (ra : Rd h aA aN (ints asg)) : CallsH Try.prog 57 #[.slice aA aN aC] h (Xt (.int .i64 (wr asg)) h) := by
  have e2 : asg.length = aN := by have := ra.len; simpa using this
  refine run57 aA aN aC _ h ⟨fun h1 => ⟨by rw [wr_2 (by omega)], .refl _⟩, fun h1 => ?_⟩
  have hna : ¬ 262144 < asg.length := by omega
  refine ⟨fun st h' m => ∃ k : Nat, st = (k : Int) ∧ h' = h ∧ k ≤ aN ∧ (∀ x ∈ asg.take k, isF x = true) ∧ m = aN - k, ⟨aN, 0, rfl, rfl, by omega, by simp, rfl⟩, ?_⟩
  rintro st _ m ⟨k, rfl, rfl, hk, hkf, rfl⟩
  rename_i h
  refine ⟨fun hlt => ?_, fun hge => ?_⟩
  · have hk2 : k < asg.length := by omega
    unfold J57_2
    refine ⟨by omega, by omega, ra.geti (j := (k : Int)) (by omega) (by omega) fun ad hl hcell => ⟨_, hcell, use (c40 _ h) ⟨_, rfl, ?_⟩⟩⟩
    simp only [Int.toNat_natCast, e_s (show k < 4611686018427387904 by omega)] at hl hcell ⊢
    cases hf : isF asg[k] with
    | false => exact ⟨by rw [wr_1 hna (List.getElem_mem hk2) hf], .refl _⟩
    | true =>
      refine BIf.f ⟨_, by omega, k + 1, rfl, by trivial, by omega, fun x hx => ?_, rfl⟩
      rw [List.take_succ_eq_append_getElem hk2] at hx
      rcases List.mem_append.1 hx with hx | hx
      · exact hkf x hx
      · rw [List.mem_singleton.1 hx]; exact hf
  · rw [List.take_of_length_le (by omega)] at hkf
    have haf : asg.all isF = true := List.all_eq_true.2 hkf
    unfold J57_1
    refine ⟨by omega, by omega, by omega, ?_⟩
    have hz : Fr h 1 (Array.push h (Obj.cells (zeroRow #[Value.int IntKind.i64 0] (Int.toNat 262145 * 1)).toArray 3)) (some ⟨h.size, 0, none⟩) 262145 262145 (ints (List.replicate 262145 0)) := by
      have := Fr.zeros (h := h) (.int .i64 0) 3 262145
      rw [ints, List.map_replicate]
      exact this
    refine ⟨fun st h' m => ∃ (k : Nat) (vs : List Int), st = (k : Int) ∧ k ≤ aN ∧ Fr h 1 h' (some ⟨h.size, 0, none⟩) 262145 262145 (ints vs) ∧
      (∀ v x, vs[v]? = some x → (x = 0 ∧ ∀ y ∈ asg.take k, (ab y).toNat ≠ v) ∨ (x ∈ asg.take k ∧ (ab x).toNat = v ∧ ∀ y ∈ asg.take k, (ab y).toNat = v → y = x)) ∧ m = aN - k,
      ⟨aN, 0, List.replicate 262145 0, rfl, by omega, hz, fun v x hv => .inl ⟨?_, by simp⟩, rfl⟩, ?_⟩
    · have := List.mem_of_getElem? hv
      exact List.eq_of_mem_replicate this
    rintro st h' m ⟨k, vs, rfl, hk3, f, hinv, rfl⟩
    have hvl : vs.length = 262145 := by have := f.rd.len; simpa using this
    have ra' := ra.ext f.ext
    refine ⟨fun hlt => ?_, fun hge2 => ?_⟩
    · have hk2 : k < asg.length := by omega
      have hF := hkf _ (List.getElem_mem hk2)
      obtain ⟨p1, p2⟩ := ab_pos hF
      have hF' := isF_t.1 hF
      obtain ⟨v, hv⟩ : ∃ v : Nat, ab asg[k] = v := ⟨(ab asg[k]).toNat, by omega⟩
      have hvlt : v < vs.length := by omega
      have hat := List.getElem?_eq_getElem hvlt
      have hrd := f.rd.getN (f := Value.int .i64) hat
      unfold J57_4
      refine ⟨by omega, by omega, ra'.geti (j := (k : Int)) (by omega) (by omega) fun ad hl hcell => ⟨_, hcell, use (c41 _ h' (by simp only [Int.toNat_natCast]; omega) (by simp only [Int.toNat_natCast]; omega)) ⟨_, rfl, ?_⟩⟩⟩
      simp only [Int.toNat_natCast] at hl hcell ⊢
      rw [hv]
      simp only [Int.toNat_natCast]
      have htake : asg.take (k + 1) = asg.take k ++ [asg[k]] := List.take_succ_eq_append_getElem hk2
      have put : (vs[v] = 0 ∨ vs[v] = asg[k]) → J57_5 aA aN h k (fun st' h'_1 => ∃ m', m' < aN - k ∧ ∃ (k : Nat) (vs : List Int), st' = (k : Int) ∧ k ≤ aN ∧ Fr h 1 h'_1 (some ⟨h.size, 0, none⟩) 262145 262145 (ints vs) ∧
          (∀ v x, vs[v]? = some x → (x = 0 ∧ ∀ y ∈ asg.take k, (ab y).toNat ≠ v) ∨ (x ∈ asg.take k ∧ (ab x).toNat = v ∧ ∀ y ∈ asg.take k, (ab y).toNat = v → y = x)) ∧ m' = aN - k) v h' := fun hcase => by
        unfold J57_5
        refine ⟨by omega, by omega, ra'.geti (j := (k : Int)) (by omega) (by omega) fun ad2 hl2 hcell2 => ⟨_, hcell2, by omega, by show (v : Int) < ((262145 : Nat) : Int); omega, ?_⟩⟩
        simp only [Int.toNat_natCast, e_s (show k < 4611686018427387904 by omega)] at hl2 hcell2 ⊢
        refine f.at1 (j := (v : Int)) (by omega) (by omega) rfl fun h9 u9 f9 => ⟨_, by omega, k + 1, vs.set v asg[k], rfl, by omega, by rw [ints, List.map_set]; exact f9, fun w x hx => ?_, rfl⟩
        rw [List.getElem?_set] at hx
        split at hx
        · rename_i hvw
          subst hvw
          cases hx
          refine .inr ⟨by rw [htake]; exact List.mem_append_right _ (List.mem_singleton.2 rfl), by omega, fun y hy hyv => ?_⟩
          rw [htake] at hy
          rcases List.mem_append.1 hy with hy | hy
          · rcases hinv v _ hat with ⟨q1, q2⟩ | ⟨q1, q2, q3⟩
            · exact absurd hyv (q2 y hy)
            · have := q3 y hy hyv
              rcases hcase with h0 | h0
              · have := isF_t.1 (hkf _ (List.mem_of_mem_take q1)); omega
              · rw [this, h0]
          · exact List.mem_singleton.1 hy
        · rename_i hvw
          rcases hinv w x hx with ⟨q1, q2⟩ | ⟨q1, q2, q3⟩
          · refine .inl ⟨q1, fun y hy => ?_⟩
            rw [htake] at hy
            rcases List.mem_append.1 hy with hy | hy
            · exact q2 y hy
            · rw [List.mem_singleton.1 hy]; omega
          · refine .inr ⟨by rw [htake]; exact List.mem_append_left _ q1, q2, fun y hy hyv => ?_⟩
            rw [htake] at hy
            rcases List.mem_append.1 hy with hy | hy
            · exact q3 y hy hyv
            · rw [List.mem_singleton.1 hy] at hyv; omega
      refine ⟨by omega, by show (v : Int) < ((262145 : Nat) : Int); omega, _, hrd, fun h0 => put (.inl h0), fun h0 => ⟨by omega, by show (v : Int) < ((262145 : Nat) : Int); omega, _, hrd, by omega, by omega, ra'.geti (j := (k : Int)) (by omega) (by omega) fun ad2 hl2 hcell2 => ⟨_, hcell2, fun h5 => put (.inr h5), fun h5 => ?_⟩⟩⟩
      simp only [Int.toNat_natCast] at h5
      rcases hinv v _ hat with ⟨q1, q2⟩ | ⟨q1, q2, q3⟩
      · exact absurd q1 h0
      · have hF2 := isF_t.1 (hkf _ (List.mem_of_mem_take q1))
        have hneg : -asg[k] = vs[v] := by
          unfold ab at q2 hv
          split at q2 <;> split at hv <;> omega
        have hb : Bad asg := ⟨asg[k], List.getElem_mem hk2, by rw [hneg]; exact List.mem_of_mem_take q1⟩
        exact ⟨by rw [wr_4 hna haf hb], f.ext⟩
    · rw [List.take_of_length_le (by omega)] at hinv
      have hnb : ¬ Bad asg := by
        rintro ⟨x, hx, hnx⟩
        obtain ⟨p1, p2⟩ := ab_pos (hkf x hx)
        have hxF := isF_t.1 (hkf x hx)
        have hvlt : (ab x).toNat < vs.length := by omega
        rcases hinv _ _ (List.getElem?_eq_getElem hvlt) with ⟨q1, q2⟩ | ⟨q1, q2, q3⟩
        · exact q2 x hx rfl
        · have h1 := q3 x hx rfl
          have h2 := q3 (-x) hnx (by rw [ab_neg])
          omega
      exact ⟨by rw [wr_0 hna haf hnb], f.ext⟩

theorem c32 {cA : Option Addr} {cN cC : Nat} {l : List Int} {aA : Option Addr} {aN aC : Nat} {asg : List Int} {h : Heap} (rl : Rd h cA cN (ints l)) (ra : Rd h aA aN (ints asg)) :
    CallsH Try.prog 32 #[.slice cA cN cC, .slice aA aN aC] h (RRes h l asg) := by
  have e1 : l.length = cN := by have := rl.len; simpa using this
  have e2 : asg.length = aN := by have := ra.len; simpa using this
  refine run32 cA cN cC aA aN aC _ h (use (c45 rl) ⟨_, rfl, fun hc => useX (c57 ra) fun h1 x1 => ⟨_, rfl, ?_⟩, fun hc => ?_⟩)
  rotate_left
  · unfold J32_0
    exact ⟨fun h0 => absurd h0 hc, fun _ => .nil (.refl _) (.inl ⟨hc, rfl, rfl, rfl⟩)⟩
  obtain ⟨hlf, hll⟩ := chk_0 hc
  unfold J32_0
  refine ⟨fun w0 => ?_, fun w0 => .nil x1 (.inr (.inl ⟨hc, w0, rfl, rfl, rfl⟩))⟩
  have hna : aN ≤ 262144 := by
    rcases Nat.lt_or_ge 262144 aN with h5 | h5
    · rw [wr_2 (by omega)] at w0; cases w0
    · exact h5
  unfold J32_1
  refine (c46 (rl.ext x1) hlf (by omega)).mono ?_
  rintro v h12 ⟨x12, ⟨ht, rfl⟩ | ⟨q, a, c, hq, fq, rfl⟩⟩
  · exact ⟨_, _, _, _, rfl, .nil (x1.trans x12) (.inr (.inr (.inl ⟨hc, w0, ht, rfl, rfl, rfl⟩)))⟩
  refine ⟨_, _, _, _, rfl, BIf.f ?_⟩
  have hql := hq.len
  have hqf : ∀ x ∈ q, isF x = true := fun x hx => List.all_eq_true.1 hlf x ((hq.2 x).1 hx)
  have y12 : Ext h h12 := x1.trans x12
  have ra12 := ra.ext y12
  unfold J32_2
  intro h6
  have f0 : Fr h12 1 h6 (some ⟨h12.size, 0, none⟩) 0 0 (ints []) := Fr.lit (.refl h12) [] 3 0 rfl
  refine ⟨fun st h' m => ∃ (k : Nat) (oA : Option Addr) (c : Nat) (p : List Int), st = ((oA, p.length, c), (k : Int)) ∧ k ≤ q.length ∧ Fr h12 1 h' oA p.length c (ints p) ∧ p = (q.take k).filter (fun x => decide (-x ∉ asg)) ∧ (∀ x ∈ q.take k, x ∉ asg) ∧ m = q.length - k, ⟨q.length, 0, _, 0, [], rfl, by omega, f0, by simp, by simp, rfl⟩, ?_⟩
  rintro st h15 m ⟨k, oA, c', p, rfl, hk, fp, hp, hno, rfl⟩
  have hpl : p.length ≤ k := by rw [hp]; exact Nat.le_trans (List.length_filter_le _ _) (by simp; omega)
  have y15 : Ext h h15 := y12.trans fp.ext
  refine ⟨fun hlt => ?_, fun hge => ?_⟩
  · simp only at hlt
    have hkq : k < q.length := by omega
    have rq := fq.rd.ext fp.ext
    have ra15 := ra12.ext fp.ext
    have hF := hqf _ (List.getElem_mem hkq)
    have htake : q.take (k + 1) = q.take k ++ [q[k]] := List.take_succ_eq_append_getElem hkq
    unfold J32_4
    refine ⟨by simp only; omega, by simp only; omega, rq.geti (j := (k : Int)) (by omega) (by omega) fun ad hl hcell => ⟨_, hcell, use (c52 ra15 _ (by omega)) ⟨_, rfl, ?_⟩⟩⟩
    simp only [Int.toNat_natCast] at hl hcell ⊢
    by_cases hin : q[k] ∈ asg
    · rw [decide_eq_true hin]
      exact .nil y15 (.inr (.inr (.inr ⟨hc, w0, rfl, q, hq, .inl ⟨⟨_, List.getElem_mem hkq, hin⟩, rfl, rfl⟩⟩)))
    · rw [decide_eq_false hin]
      have hno' : ∀ x ∈ q.take (k + 1), x ∉ asg := fun x hx => by
        rw [htake] at hx
        rcases List.mem_append.1 hx with hx | hx
        · exact hno x hx
        · rw [List.mem_singleton.1 hx]; exact hin
      refine BIf.f ?_
      unfold J32_5
      refine ⟨by omega, by omega, rq.geti (j := (k : Int)) (by omega) (by omega) fun ad2 hl2 hcell2 => ⟨_, hcell2, ?_⟩⟩
      simp only [Int.toNat_natCast, negw hF, e_s (show k < 4611686018427387904 by omega)] at hl2 hcell2 ⊢
      refine use (c52 ra15 _ (by omega)) ⟨_, rfl, ?_⟩
      by_cases hn2 : -q[k] ∈ asg
      · rw [decide_eq_true hn2]
        refine ⟨_, by omega, k + 1, oA, c', p, rfl, by omega, fp, ?_, hno', rfl⟩
        rw [htake, List.filter_append, ← hp]
        simp only [List.filter_cons, List.filter_nil]
        rw [if_neg]
        · simp
        · simp only [decide_eq_true_eq]
          exact fun hh => hh hn2
      · rw [decide_eq_false hn2]
        refine BIf.t ⟨by omega, by omega, rq.geti (j := (k : Int)) (by omega) (by omega) fun ad3 hl3 hcell3 => ⟨_, hcell3, ?_⟩⟩
        simp only [Int.toNat_natCast] at hl3 hcell3 ⊢
        refine app1' fp rfl (by omega) fun a' c'' h' f' _ => ⟨_, by omega, k + 1, a', c'', p ++ [q[k]], by simp, by omega, by simpa using f', ?_, hno', rfl⟩
        rw [htake, List.filter_append, ← hp]
        simp only [List.filter_cons, List.filter_nil]
        rw [if_pos]
        exact decide_eq_true hn2
  · simp only at hge
    rw [List.take_of_length_le (by omega)] at hp hno
    exact ⟨p, false, 0, oA, c', .inr (.inr (.inr ⟨hc, w0, rfl, q, hq, .inr ⟨hno, hp, rfl⟩⟩)), ⟨fp.own, fun ad ha => Nat.le_trans y12.1 (fp.new ad ha), y12.trans fp.ext⟩, rfl⟩

theorem c7 {aA : Option Addr} {aN aC : Nat} {l : List Int} {bA : Option Addr} {bN bC : Nat} {m : List Int} {h : Heap} (rl : Rd h aA aN (ints l)) (rm : Rd h bA bN (ints m)) (sl : aN * 8 ≤ 140737488351232) (sm : bN * 8 ≤ 140737488351232) :
    CallsH Try.prog 7 #[.slice aA aN aC, .slice bA bN bC] h (Yes h) := by
  have e1 : l.length = aN := by have := rl.len; simpa using this
  have e2 : m.length = bN := by have := rm.len; simpa using this
  refine run7 aA aN aC bA bN bC _ h ((c17 rl sl).mono ?_)
  rintro _ h1 ⟨iA, iC, rfl, fi⟩
  refine ⟨_, _, _, rfl, (c30 (rm.ext fi.ext) sm).mono ?_⟩
  rintro _ h2 ⟨jA, jC, rfl, fj⟩
  have x2 : Ext h h2 := fi.ext.trans fj.ext
  have ri := (lent_rd fi.rd e1).ext fj.ext
  have rj := lent_rd fj.rd e2
  refine ⟨_, _, _, rfl, (c31 ri rj).mono ?_⟩
  rintro _ h3 ⟨q, ok, e, sA, sC, r3, f3, rfl⟩
  have x23 := x2.trans f3.ext
  refine ⟨_, _, _, _, _, rfl, (c32 (rl.ext x23) (rm.ext x23)).mono ?_⟩
  rintro _ h4 ⟨q4, ok4, e4, tA, tC, r4, f4, rfl⟩
  obtain ⟨rfl, rfl, rfl⟩ := r3.unique r4
  have x24 : Ext h2 h4 := f3.ext.trans f4.ext
  have hl := r3.len
  refine ⟨_, _, _, _, _, rfl, use (c22 (f3.upd f4.ext).rd f4.rd (by omega)) ⟨_, rfl, ?_⟩⟩
  rw [decide_eq_true rfl]
  refine BIf.f ⟨fun _ => ⟨fun _ => ?_, fun hh => absurd rfl hh⟩, fun hh => absurd rfl hh⟩
  unfold J7_0
  refine (c23 (f3.upd f4.ext).own (-7) (by omega)).mono ?_
  rintro _ h7 ⟨rfl, u7⟩
  have x7 : Ext h2 h7 := Fr.ext_of x24 (fun ad ha => f3.new ad ha) u7
  refine ⟨rfl, use (c24 ((fi.rd.ext fj.ext).ext x7) fi.own.cap (rl.ext (x2.trans x7)) (by omega)) ⟨_, rfl, BIf.t ?_⟩⟩
  refine use (c24 (fj.rd.ext x7) fj.own.cap (rm.ext (x2.trans x7)) (by omega)) ⟨_, rfl, BIf.t ?_⟩
  refine (c16 h7).mono ?_
  rintro _ h8 ⟨rfl, x8⟩
  exact ⟨_, rfl, rfl, (x2.trans x7).trans x8⟩
end Go.Proofs.Ytbfejkmnkkpkhaa
