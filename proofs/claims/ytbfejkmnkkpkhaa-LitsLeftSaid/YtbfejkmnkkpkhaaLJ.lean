/- Words and facts that the claim's proof leans on. No condition. -/
import Derived.Test.YtbfejkmnkkpkhaaLI
set_option linter.unusedVariables false
set_option linter.unusedSimpArgs false
namespace Go.Proofs.Ytbfejkmnkkpkhaa
open Go.Hx

/-! ### What laws lend, compare and spoil -/

theorem c48 {aA : Option Addr} {aN aC : Nat} {l : List Int} {bA : Option Addr} {bN bC : Nat} {m : List Int} {h : Heap} (rl : Rd h aA aN (ints l)) (rm : Rd h bA bN (ints m)) (hn : aN ≤ 4611686018427387904) :
    CallsH Try.prog 48 #[.slice aA aN aC, .slice bA bN bC] h (Ret (.bool (decide (l = m))) h) := by
  have e1 : l.length = aN := by have := rl.len; simpa using this
  have e2 : m.length = bN := by have := rm.len; simpa using this
  refine run48 aA aN aC bA bN bC _ h ⟨fun he => ?_, fun hne => ?_⟩
  · refine ⟨fun t h' k => h' = h ∧ 0 ≤ t ∧ t ≤ aN ∧ k = (aN - t).toNat ∧ l.take t.toNat = m.take t.toNat, ⟨_, rfl, Int.le_refl _, by omega, rfl, by simp⟩, ?_⟩
    rintro t _ _ ⟨rfl, h0, ht, rfl, heq⟩
    refine ⟨fun hl => ⟨h0, hl, rl.geti h0 hl fun ad g1 c1 => ⟨_, c1, h0, by omega, rm.geti h0 (by omega) fun ad2 g2 c2 => ⟨_, c2, fun hx => ?_, fun hx => ?_⟩⟩⟩, fun hl => ?_⟩
    · rw [w64 (by omega) (by omega)]
      refine ⟨_, ?_, rfl, by omega, by omega, rfl, ?_⟩
      · omega
      · rw [show (t + 1).toNat = t.toNat + 1 by omega, List.take_succ_eq_append_getElem g1, List.take_succ_eq_append_getElem g2, heq, hx]
    · have : l ≠ m := by rintro rfl; exact hx rfl
      rw [decide_eq_false this]; exact ⟨rfl, rfl⟩
    · have : l = m := by rwa [List.take_of_length_le (by omega), List.take_of_length_le (by omega)] at heq
      rw [decide_eq_true this]; exact ⟨rfl, rfl⟩
  · have : l ≠ m := by rintro rfl; omega
    rw [decide_eq_false this]; exact ⟨rfl, rfl⟩
theorem c22 {aA : Option Addr} {aN aC : Nat} {l : List Int} {bA : Option Addr} {bN bC : Nat} {m : List Int} {h : Heap} (rl : Rd h aA aN (ints l)) (rm : Rd h bA bN (ints m)) (hn : aN ≤ 4611686018427387904) :
    CallsH Try.prog 22 #[.slice aA aN aC, .slice bA bN bC] h (Ret (.bool (decide (l = m))) h) := run22 aA aN aC bA bN bC _ h (use (c48 rl rm hn) ⟨_, rfl, rfl, rfl⟩)
theorem c25 {aA : Option Addr} {aN aC : Nat} {l : List Bool} {bA : Option Addr} {bN bC : Nat} {m : List Bool} {h : Heap} (rl : Rd h aA aN (bools l)) (rm : Rd h bA bN (bools m)) (hn : aN ≤ 4611686018427387904) :
    CallsH Try.prog 25 #[.slice aA aN aC, .slice bA bN bC] h (Ret (.bool (decide (l = m))) h) := by
  have e1 : l.length = aN := by have := rl.len; simpa using this
  have e2 : m.length = bN := by have := rm.len; simpa using this
  refine run25 aA aN aC bA bN bC _ h ⟨fun he => ?_, fun hne => ?_⟩
  · refine ⟨fun t h' k => h' = h ∧ 0 ≤ t ∧ t ≤ aN ∧ k = (aN - t).toNat ∧ l.take t.toNat = m.take t.toNat, ⟨_, rfl, Int.le_refl _, by omega, rfl, by simp⟩, ?_⟩
    rintro t _ _ ⟨rfl, h0, ht, rfl, heq⟩
    refine ⟨fun hl => ⟨h0, hl, rl.geti h0 hl fun ad g1 c1 => ⟨_, c1, h0, by omega, rm.geti h0 (by omega) fun ad2 g2 c2 => ⟨_, c2, fun hx => ?_, fun hx => ?_⟩⟩⟩, fun hl => ?_⟩
    · rw [w64 (by omega) (by omega)]
      refine ⟨_, ?_, rfl, by omega, by omega, rfl, ?_⟩
      · omega
      · rw [show (t + 1).toNat = t.toNat + 1 by omega, List.take_succ_eq_append_getElem g1, List.take_succ_eq_append_getElem g2, heq, hx]
    · have : l ≠ m := by rintro rfl; exact hx rfl
      rw [decide_eq_false this]; exact ⟨rfl, rfl⟩
    · have : l = m := by rwa [List.take_of_length_le (by omega), List.take_of_length_le (by omega)] at heq
      rw [decide_eq_true this]; exact ⟨rfl, rfl⟩
  · have : l ≠ m := by rintro rfl; omega
    rw [decide_eq_false this]; exact ⟨rfl, rfl⟩

theorem c56 {a : Option Addr} {n c : Nat} {l : List Int} {h : Heap} (r : Rd h a n (ints l)) (hn : n * 8 ≤ 140737488355328) : CallsH Try.prog 56 #[.slice a n c] h fun v h' => ∃ a' c', v = .slice a' n c' ∧ Fr h 1 h' a' n c' (ints l) := by
  have hlen : l.length = n := by have := r.len; simpa using this
  refine run56 a n c _ h ?_
  unfold VC56
  intro h1
  have f1 : Fr h 1 h1 (some ⟨h.size, 0, none⟩) 0 0 [] := Fr.lit (.refl h) [] 3 0 rfl
  refine ⟨ints l, (r.ext f1.ext).read, by rw [List.length_map, hlen, Nat.mul_one], f1.app (by rw [List.length_map, hlen, Nat.mul_one]) ints_one (by omega) fun a' c' h' f' _ _ => ?_⟩
  rw [Nat.zero_add] at f' ⊢
  exact ⟨a', c', rfl, f'⟩
/-- A slice lent: behind it stands a mark. -/
theorem c30 {a : Option Addr} {n c : Nat} {l : List Int} {h : Heap} (r : Rd h a n (ints l)) (hn : n * 8 ≤ 140737488351232) : CallsH Try.prog 30 #[.slice a n c] h fun v h' => ∃ a' c', v = .slice a' n c' ∧ Fr h 1 h' a' (n + 1) c' (ints (l ++ [-77])) := by
  refine run30 a n c _ h ((c56 r (by omega)).mono ?_)
  rintro _ h1 ⟨a1, c1, rfl, f1⟩
  refine ⟨_, _, _, rfl, ?_⟩
  intro h2
  have f2 : Fr h1 1 h2 (some ⟨h1.size, 0, none⟩) 1 1 (ints [-77]) := Fr.lit (.refl h1) (ints [-77]) 3 1 rfl
  refine ⟨ints [-77], f2.rd.read, rfl, (f1.upd f2.ext).app rfl ints_one (by omega) fun a' c' h' f' _ _ => ?_⟩
  have hc := f'.own.cap
  refine ⟨by omega, by omega, by omega, ?_⟩
  rw [cutA_zero]
  refine ⟨a', c', ?_, by rw [ints, List.map_append]; exact f'⟩
  rfl
theorem c17 {a : Option Addr} {n c : Nat} {l : List Int} {h : Heap} (r : Rd h a n (ints l)) (hn : n * 8 ≤ 140737488351232) : CallsH Try.prog 17 #[.slice a n c] h fun v h' => ∃ a' c', v = .slice a' n c' ∧ Fr h 1 h' a' (n + 1) c' (ints (l ++ [-77])) := by
  refine run17 a n c _ h ((c30 r hn).mono ?_)
  rintro _ h1 ⟨a1, c1, rfl, f1⟩
  exact ⟨_, _, _, rfl, a1, c1, rfl, f1⟩
theorem lent_rd {h : Heap} {a : Option Addr} {n : Nat} {l : List Int} (r : Rd h a (n + 1) (ints (l ++ [-77]))) (hl : l.length = n) : Rd h a n (ints l) := by
  have := r.take n (by omega)
  rw [ints, List.map_append, List.take_left' (by simp [hl])] at this
  exact this
/-- It is as it was lent. -/
theorem c24 {a : Option Addr} {n c : Nat} {l : List Int} {b : Option Addr} {d : Nat} {h : Heap} (r : Rd h a (n + 1) (ints (l ++ [-77]))) (hc : n + 1 ≤ c) (s : Rd h b n (ints l)) (hn : n ≤ 1152921504606846976) :
    CallsH Try.prog 24 #[.slice a n c, .slice b n d] h (Ret (.bool true) h) := by
  have hl : l.length = n := by have := s.len; simpa using this
  refine run24 a n c b n d _ h (use (c48 (lent_rd r hl) s (by omega)) ⟨_, rfl, ?_⟩)
  rw [decide_eq_true rfl]
  refine BIf.t ?_
  have e1 : IntKind.wrap .i64 (((n : Nat) : Int) + 1) = (n : Int) + 1 := w64 (by omega) (by omega)
  rw [e1]
  refine ⟨by omega, by omega, by omega, by omega, by omega, ?_⟩
  rw [cutA_zero]
  refine r.geti (by omega) (by omega) fun ad g1 c1 => ⟨_, c1, fun _ => ⟨rfl, rfl⟩, fun hh => absurd ?_ hh⟩
  rw [List.getElem_append_right (by simp [hl])]
  simp
theorem c23 {a : Option Addr} {n c : Nat} {l : List Int} {h : Heap} (o : Own 1 h a n c (ints l)) (x : Int) (hn : n ≤ 1152921504606846976) : CallsH Try.prog 23 #[.slice a n c, .int .i64 x] h fun v h' => v = .tuple #[] ∧ Upd (atb a) h h' := by
  have hcap := o.cap
  refine run23 a n c x _ h ⟨fun t h' k => 0 ≤ t ∧ t ≤ n ∧ k = (n - t).toNat ∧ Upd (atb a) h h' ∧ ∃ l' : List Int, Own 1 h' a n c (ints l'), ⟨_, Int.le_refl _, by omega, rfl, .refl _, l, o⟩, ?_⟩
  rintro t h1 _ ⟨h0, ht, rfl, u, l', o1⟩
  refine ⟨fun hl => ⟨h0, hl, o1.set1 h0 hl rfl fun h2 u2 o2 => ?_⟩, fun hl => ⟨fun hc => ⟨by omega, ?_, ?_, by omega, ?_, ?_⟩, fun _ => ⟨rfl, u⟩⟩⟩
  · rw [w64 (by omega) (by omega)]
    exact ⟨_, by omega, by omega, by omega, rfl, u.trans u2, l'.set t.toNat x, by rw [ints, List.map_set]; exact o2⟩
  · rw [w64 (by omega) (by omega)]; omega
  · rw [w64 (by omega) (by omega)]; omega
  · rw [w64 (by omega) (by omega)]; omega
  · rw [cutA_zero]
    cases a with
    | none => have : c = 0 := o1.mem; omega
    | some ad =>
      refine o1.write (Int.toNat ((n : Nat) : Int) * 1) [.int .i64 x] (by simp; omega) (by simp; rfl) ?_
      intro h2 u2 _
      exact ⟨rfl, u.trans (u2.mono fun i _ hi => ⟨ad, rfl, hi⟩)⟩

/-! ### The value of a clause -/
def mv (m : List Bool) (x : Int) : Bool := m.getD (ab x - 1).toNat false == decide (0 < x)
def vres (l : List Int) (m : List Bool) : Value :=
  if chk l ≠ 0 then .tuple #[.bool false, .int .i64 (chk l)] else if 262144 < m.length then .tuple #[.bool false, .int .i64 2]
  else if l.any (fun x => decide ((m.length : Int) < ab x)) then .tuple #[.bool false, .int .i64 5] else .tuple #[.bool (l.any (mv m)), .int .i64 0]
theorem take_any {α : Type} {l : List α} {k : Nat} (hk : k < l.length) (p : α → Bool) : (l.take (k + 1)).any p = ((l.take k).any p || p l[k]) := by
  rw [List.take_succ_eq_append_getElem hk, List.any_append]; simp
theorem mv_at {m : List Bool} {x : Int} (h1 : 1 ≤ ab x) (h2 : ab x ≤ m.length) (hl : (ab x - 1).toNat < m.length) : mv m x = (m[(ab x - 1).toNat] == decide (0 < x)) := by
  unfold mv; rw [List.getD_eq_getElem?_getD, List.getElem?_eq_getElem hl]; rfl
theorem ab_pos {x : Int} (h : isF x = true) : 1 ≤ ab x ∧ ab x ≤ 262144 := by have := isF_t.1 h; unfold ab; split <;> omega
theorem c20 {cA : Option Addr} {cN cC : Nat} {l : List Int} {mA : Option Addr} {mN mC : Nat} {m : List Bool} {h : Heap} (rl : Rd h cA cN (ints l)) (rm : Rd h mA mN (bools m)) :
    CallsH Try.prog 20 #[.slice cA cN cC, .slice mA mN mC] h (Ret (vres l m) h) := by
  have e1 : l.length = cN := by have := rl.len; simpa using this
  have e2 : m.length = mN := by have := rm.len; simpa using this
  refine run20 cA cN cC mA mN mC _ h (use (c43 rl) ⟨_, rfl, fun hc => ⟨fun hm => ?_, fun hm => ?_⟩, fun hc => ?_⟩)
  · unfold vres; rw [if_neg (by simpa using hc), if_pos (by omega)]; exact ⟨rfl, rfl⟩
  · obtain ⟨hf, hl⟩ := chk_0 hc
    have hf := List.all_eq_true.1 hf
    refine ⟨fun (st : Bool × Int) h' k => h' = h ∧ 0 ≤ st.2 ∧ st.2 ≤ cN ∧ k = (cN - st.2).toNat ∧ st.1 = (l.take st.2.toNat).any (mv m) ∧ (l.take st.2.toNat).any (fun x => decide ((m.length : Int) < ab x)) = false,
      ⟨_, rfl, Int.le_refl _, by show (0 : Int) ≤ cN; omega, rfl, by simp, by simp⟩, ?_⟩
    rintro ⟨v, t⟩ _ _ ⟨rfl, h0, ht, rfl, hv, ha⟩
    rename_i h
    simp only at h0 ht hv ha
    refine ⟨fun hlt => ?_, fun hge => ?_⟩
    · simp only at hlt
      unfold J20_3
      refine ⟨h0, hlt, rl.geti h0 hlt fun ad g1 k1 => ⟨_, k1, ?_⟩⟩
      have hx := isF_t.1 (hf _ (List.getElem_mem g1))
      have ha1 := ab_pos (hf _ (List.getElem_mem g1))
      have nx := take_any g1 (mv m)
      have nx2 := take_any g1 (fun x => decide ((m.length : Int) < ab x))
      rw [ha, Bool.false_or] at nx2
      refine use (c39 _ h (by omega) (by omega)) ⟨_, rfl, fun hbig => ?_, fun hle => ?_⟩
      · unfold vres
        rw [if_neg (by simpa using hc), if_neg (by omega), if_pos]
        · exact ⟨rfl, rfl⟩
        · rw [List.any_eq_true]
          exact ⟨_, List.getElem_mem g1, by simp only [decide_eq_true_eq]; omega⟩
      · have nx2' : (l.take (t.toNat + 1)).any (fun x => decide ((m.length : Int) < ab x)) = false := by rw [nx2]; simp only [decide_eq_false_iff_not]; omega
        have go : ∀ b : Bool, b = (v || mv m l[t.toNat]) → ∃ m', m' < ((cN : Int) - t).toNat ∧ (h = h ∧ 0 ≤ t + 1 ∧ t + 1 ≤ cN ∧ m' = ((cN : Int) - (t + 1)).toNat ∧ b = (l.take (t + 1).toNat).any (mv m) ∧ (l.take (t + 1).toNat).any (fun x => decide ((m.length : Int) < ab x)) = false) := fun b hb =>
          ⟨_, by omega, rfl, by omega, by omega, rfl, by rw [show (t + 1).toNat = t.toNat + 1 by omega, nx, ← hv]; exact hb, by rw [show (t + 1).toNat = t.toNat + 1 by omega]; exact nx2'⟩
        unfold J20_4
        rw [w64 (x := t + 1) (by omega) (by omega)]
        cases v with
        | true => exact BIf.t (go true (by simp))
        | false =>
          refine BIf.f (use (c39 _ h (by omega) (by omega)) ⟨_, rfl, ?_⟩)
          have e5 : IntKind.wrap .i64 (ab l[t.toNat] - 1) = ab l[t.toNat] - 1 := w64 (by omega) (by omega)
          rw [e5]
          refine ⟨by omega, by omega, rm.geti (by omega) (by omega) fun ad1 g2 k2 => ⟨_, k2, fun hp => ⟨fun hb => go true ?_, fun hb => go false ?_⟩, fun hp => ⟨fun hb => go true ?_, fun hb => go false ?_⟩⟩⟩
          · rw [mv_at ha1.1 (by omega) g2, hb]; simp [hp]
          · rw [mv_at ha1.1 (by omega) g2]; simp [hp]; simpa using hb
          · rw [mv_at ha1.1 (by omega) g2, hb]; simp [hp]
          · rw [mv_at ha1.1 (by omega) g2]; simp [hp]; simpa using hb
    · simp only at hge
      rw [List.take_of_length_le (by omega)] at hv ha
      unfold J20_2
      rw [hv]
      unfold vres
      rw [if_neg (by simpa using hc), if_neg (by omega), if_neg (by rw [ha]; decide)]
      exact ⟨rfl, rfl⟩
  · unfold vres; rw [if_pos hc]; exact ⟨rfl, rfl⟩
end Go.Proofs.Ytbfejkmnkkpkhaa
