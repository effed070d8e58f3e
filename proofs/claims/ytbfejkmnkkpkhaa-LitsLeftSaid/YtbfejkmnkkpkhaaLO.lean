/- Words and facts that the claim's proof leans on. No condition. -/
import Derived.Test.YtbfejkmnkkpkhaaLL
set_option linter.unusedVariables false
set_option linter.unusedSimpArgs false
namespace Go.Proofs.Ytbfejkmnkkpkhaa
open Go.Hx

/-- Two clauses' normal forms, or the error. -/
def PNorm (l m q p : List Int) (e : Int) : Prop :=
  (chk l ≠ 0 ∧ q = [] ∧ p = [] ∧ e = chk l) ∨ (chk l = 0 ∧ chk m ≠ 0 ∧ q = [] ∧ p = [] ∧ e = chk m) ∨ (chk l = 0 ∧ chk m = 0 ∧ (Taut l ∨ Taut m) ∧ q = [] ∧ p = [] ∧ e = 10) ∨ (chk l = 0 ∧ chk m = 0 ∧ NF l q ∧ NF m p ∧ e = 0)
theorem PNorm.unique {l m q p q' p' : List Int} {e e' : Int} (h : PNorm l m q p e) (k : PNorm l m q' p' e') : q = q' ∧ p = p' ∧ e = e' := by
  rcases h with ⟨h1, rfl, rfl, rfl⟩ | ⟨h1, h2, rfl, rfl, rfl⟩ | ⟨h1, h2, h3, rfl, rfl, rfl⟩ | ⟨h1, h2, h3, h4, rfl⟩ <;>
    rcases k with ⟨k1, rfl, rfl, rfl⟩ | ⟨k1, k2, rfl, rfl, rfl⟩ | ⟨k1, k2, k3, rfl, rfl, rfl⟩ | ⟨k1, k2, k3, k4, rfl⟩
  all_goals first | exact ⟨rfl, rfl, rfl⟩ | exact absurd k1 h1 | exact absurd h1 k1 | exact absurd k2 h2 | exact absurd h2 k2 | skip
  · rcases h3 with h3 | h3
    · exact absurd h3 (k3.not_taut (chk_0 h1).1)
    · exact absurd h3 (k4.not_taut (chk_0 h2).1)
  · rcases k3 with k3 | k3
    · exact absurd k3 (h3.not_taut (chk_0 h1).1)
    · exact absurd k3 (h4.not_taut (chk_0 h2).1)
  · exact ⟨h3.unique k3, h4.unique k4, rfl⟩
/-- A pair's two slices: new memory. -/
structure Two (h : Heap) (l m q p : List Int) (e : Int) (a : Option Addr) (c : Nat) (b : Option Addr) (d : Nat) (h' : Heap) : Prop where
  out : PNorm l m q p e
  fa : Fr h 1 h' a q.length c (ints q)
  fb : Fr h 1 h' b p.length d (ints p)
theorem PairRes.norm {h h' : Heap} {l m : List Int} {v : Value} (r : PairRes h l m v h') : ∃ q p e a c b d, Two h l m q p e a c b d h' ∧ v = .tuple #[.slice a q.length c, .slice b p.length d, .int .i64 e] := by
  obtain ⟨x, ⟨h1, rfl⟩ | ⟨h1, h2, rfl⟩ | ⟨h1, h2, h3, rfl⟩ | ⟨h1, h2, q, a, c, p, b, d, hq, hp, fq, fp, rfl⟩⟩ := r
  · exact ⟨[], [], _, none, 0, none, 0, ⟨.inl ⟨h1, rfl, rfl, rfl⟩, .nil x, .nil x⟩, rfl⟩
  · exact ⟨[], [], _, none, 0, none, 0, ⟨.inr (.inl ⟨h1, h2, rfl, rfl, rfl⟩), .nil x, .nil x⟩, rfl⟩
  · exact ⟨[], [], _, none, 0, none, 0, ⟨.inr (.inr (.inl ⟨h1, h2, h3, rfl, rfl, rfl⟩)), .nil x, .nil x⟩, rfl⟩
  · exact ⟨q, p, _, a, c, b, d, ⟨.inr (.inr (.inr ⟨h1, h2, hq, hp, rfl⟩)), fq, fp⟩, rfl⟩
theorem PNorm.ok {l m q p : List Int} {e : Int} (h : PNorm l m q p e) (he : e = 0) : chk l = 0 ∧ chk m = 0 ∧ NF l q ∧ NF m p := by
  rcases h with ⟨h1, rfl, rfl, rfl⟩ | ⟨h1, h2, rfl, rfl, rfl⟩ | ⟨h1, h2, h3, rfl, rfl, rfl⟩ | ⟨h1, h2, h3, h4, rfl⟩
  · exact absurd he h1
  · exact absurd he h2
  · exact absurd he (by decide)
  · exact ⟨h1, h2, h3, h4⟩

theorem c51 {aA : Option Addr} {aN aC : Nat} {l : List Int} {bA : Option Addr} {bN bC : Nat} {m : List Int} {h : Heap} (rl : Rd h aA aN (ints l)) (rm : Rd h bA bN (ints m)) :
    CallsH Try.prog 51 #[.slice aA aN aC, .slice bA bN bC] h (PairRes h l m) := by
  have hlen : l.length = aN := by have := rl.len; simpa using this
  have hlen2 : m.length = bN := by have := rm.len; simpa using this
  refine run51 aA aN aC bA bN bC _ h (use (c45 rl) ⟨_, rfl, fun he => ?_, fun hne => ⟨fun hh => absurd hh hne, fun _ => ⟨.refl _, .inl ⟨hne, rfl⟩⟩⟩⟩)
  refine use (c45 rm) ⟨_, rfl, fun he2 => ?_, fun hne => ⟨.refl _, .inr (.inl ⟨he, hne, rfl⟩)⟩⟩
  obtain ⟨hf, hl⟩ := chk_0 he
  obtain ⟨hf2, hl2⟩ := chk_0 he2
  refine (c46 rl hf (by omega)).mono ?_
  rintro _ h1 ⟨hx, ⟨ht, rfl⟩ | ⟨q, a, c, hq, hfr, rfl⟩⟩
  · refine ⟨_, _, _, _, rfl, (c46 (rm.ext hx) hf2 (by omega)).mono ?_⟩
    rintro _ h2 ⟨hx2, ⟨ht2, rfl⟩ | ⟨p, b, d, hp, hfp, rfl⟩⟩
    · exact ⟨_, _, _, _, rfl, .t ⟨hx.trans hx2, .inr (.inr (.inl ⟨he, he2, .inl ht, rfl⟩))⟩⟩
    · exact ⟨_, _, _, _, rfl, .t ⟨hx.trans hx2, .inr (.inr (.inl ⟨he, he2, .inl ht, rfl⟩))⟩⟩
  · refine ⟨_, _, _, _, rfl, (c46 (rm.ext hx) hf2 (by omega)).mono ?_⟩
    rintro _ h2 ⟨hx2, ⟨ht2, rfl⟩ | ⟨p, b, d, hp, hfp, rfl⟩⟩
    · exact ⟨_, _, _, _, rfl, .f (.t ⟨hx.trans hx2, .inr (.inr (.inl ⟨he, he2, .inr ht2, rfl⟩))⟩)⟩
    · exact ⟨_, _, _, _, rfl, .f (.f ⟨hx.trans hx2, .inr (.inr (.inr ⟨he, he2, q, a, c, p, b, d, hq, hp, hfr.upd hx2, Fr.wide hfp hx, rfl⟩))⟩)⟩

theorem c52 {a : Option Addr} {n c : Nat} {l : List Int} {h : Heap} (r : Rd h a n (ints l)) (x : Int) (hn : n ≤ 1073741824) : CallsH Try.prog 52 #[.slice a n c, .int .i64 x] h (Ret (.bool (decide (x ∈ l))) h) := by
  have hlen : l.length = n := by have := r.len; simpa using this
  refine run52 a n c x _ h ⟨fun t h' k => h' = h ∧ 0 ≤ t ∧ t ≤ n ∧ k = (n - t).toNat ∧ x ∉ l.take t.toNat, ⟨_, rfl, Int.le_refl _, by omega, rfl, by simp⟩, ?_⟩
  rintro t _ _ ⟨rfl, h0, ht, rfl, hn2⟩
  refine ⟨fun hlt => ⟨h0, hlt, r.geti h0 hlt fun ad g1 k1 => ⟨_, k1, fun hx => ?_, fun hx => ?_⟩⟩, fun hge => ?_⟩
  · rw [decide_eq_true (hx ▸ List.getElem_mem g1)]; exact ⟨rfl, rfl⟩
  · rw [w64 (by omega) (by omega)]
    refine ⟨_, ?_, rfl, by omega, by omega, rfl, ?_⟩
    · omega
    · rw [show (t + 1).toNat = t.toNat + 1 by omega, List.take_succ_eq_append_getElem g1, List.mem_append, List.mem_singleton]
      rintro (h1 | h1)
      · exact hn2 h1
      · exact hx h1.symm
  · rw [List.take_of_length_le (by omega)] at hn2
    rw [decide_eq_false hn2]; exact ⟨rfl, rfl⟩

/-- The literals of one that another one has not. -/
def lk (q p : List Int) : List Int := q.filter fun x => decide (x ∉ p)
theorem filter_take {l : List Int} {k : Nat} (hk : k < l.length) (f : Int → Bool) : (l.take (k + 1)).filter f = (l.take k).filter f ++ if f l[k] then [l[k]] else [] := by
  rw [List.take_succ_eq_append_getElem hk, List.filter_append]
  congr 1
  cases hf : f l[k] <;> simp [hf]
theorem c50 {aA : Option Addr} {aN aC : Nat} {q : List Int} {bA : Option Addr} {bN bC : Nat} {p : List Int} {h : Heap} (rq : Rd h aA aN (ints q)) (rp : Rd h bA bN (ints p)) (hp : Rise p) (hfq : ∀ x ∈ q, isF x = true) (hfp : ∀ x ∈ p, isF x = true)
    (hn : aN ≤ 1048576) (hm : bN ≤ 1048576) : CallsH Try.prog 50 #[.slice aA aN aC, .slice bA bN bC] h fun v h' => ∃ a c, v = .slice a (lk q p).length c ∧ Fr h 1 h' a (lk q p).length c (ints (lk q p)) := by
  have hlen : q.length = aN := by have := rq.len; simpa using this
  refine run50 aA aN aC bA bN bC _ h ⟨fun (st : (Option Addr × Nat × Nat) × Int) h' k => 0 ≤ st.2 ∧ st.2 ≤ aN ∧ k = (aN - st.2).toNat ∧ st.1.2.1 = (lk (q.take st.2.toNat) p).length ∧ Fr h 1 h' st.1.1 st.1.2.1 st.1.2.2 (ints (lk (q.take st.2.toNat) p)),
    ⟨_, Int.le_refl _, by show (0 : Int) ≤ aN; omega, rfl, rfl, .nil (.refl _)⟩, ?_⟩
  rintro ⟨⟨a, n, c⟩, t⟩ h1 _ ⟨h0, ht, rfl, hn2, f⟩
  simp only at h0 ht hn2 f
  subst hn2
  have hb : (lk (q.take t.toNat) p).length ≤ aN := by
    have := List.length_filter_le (fun x => decide (x ∉ p)) (q.take t.toNat)
    simp only [List.length_take] at this
    unfold lk
    omega
  refine ⟨fun hlt => ?_, fun hge => ?_⟩
  · simp only at hlt
    unfold J50_1
    rw [w64 (x := t + 1) (by omega) (by omega)]
    refine ⟨h0, hlt, (rq.ext f.ext).geti h0 hlt fun ad g1 k1 => ⟨_, k1, ?_⟩⟩
    have fs := filter_take g1 (fun x => decide (x ∉ p))
    refine (c53 (rp.ext f.ext) hp hfp (hfq _ (List.getElem_mem g1)) (by omega)).mono ?_
    rintro _ _ ⟨rfl, i, b, hs, rfl⟩
    rename_i h1
    refine ⟨_, _, rfl, ?_⟩
    have e1 : (t + 1).toNat = t.toNat + 1 := by omega
    cases b with
    | true =>
      have hin : q[t.toNat] ∈ p := by have := hs.is; simpa using this
      have e2 : lk (q.take (t + 1).toNat) p = lk (q.take t.toNat) p := by unfold lk; rw [e1, fs]; simp [hin]
      exact BIf.f ⟨_, by show (aN - (t + 1)).toNat < _; omega, by show 0 ≤ t + 1; omega, by show t + 1 ≤ aN; omega, rfl, by show _ = (lk (q.take (t + 1).toNat) p).length; rw [e2], by show Fr h 1 h1 a _ c (ints (lk (q.take (t + 1).toNat) p)); rw [e2]; exact f⟩
    | false =>
      have hin : q[t.toNat] ∉ p := by have := hs.is; simpa using this
      have e2 : lk (q.take (t + 1).toNat) p = lk (q.take t.toNat) p ++ [q[t.toNat]] := by unfold lk; rw [e1, fs]; simp [hin]
      refine BIf.t ?_
      intro h3
      have f3 : Fr h1 1 h3 (some ⟨h1.size, 0, none⟩) 1 1 (ints [q[t.toNat]]) := Fr.lit (.refl h1) (ints [q[t.toNat]]) 3 1 rfl
      refine ⟨ints [q[t.toNat]], f3.rd.read, rfl, (f.upd f3.ext).app rfl ints_one (by omega) fun a' c' h4 f4 _ _ => ⟨_, by show (aN - (t + 1)).toNat < _; omega, by show 0 ≤ t + 1; omega, by show t + 1 ≤ aN; omega, rfl, ?_, ?_⟩⟩
      · show _ = (lk (q.take (t + 1).toNat) p).length
        rw [e2, List.length_append]; rfl
      · show Fr h 1 h4 a' _ c' (ints (lk (q.take (t + 1).toNat) p))
        rw [e2, ints, List.map_append]; exact f4
  · simp only at hge
    have e3 : lk (q.take t.toNat) p = lk q p := by rw [List.take_of_length_le (by omega)]
    unfold J50_0
    rw [e3] at f ⊢
    exact ⟨a, c, rfl, f⟩
theorem c55 {cA : Option Addr} {cN cC : Nat} {q : List Int} {h : Heap} (rq : Rd h cA cN (ints q)) (x : Int) (hn : cN ≤ 1048576) :
    CallsH Try.prog 55 #[.slice cA cN cC, .int .i64 x] h fun v h' => ∃ a c, v = .slice a (drp q x).length c ∧ Fr h 1 h' a (drp q x).length c (ints (drp q x)) := by
  have hlen : q.length = cN := by have := rq.len; simpa using this
  refine run55 cA cN cC x _ h ?_
  unfold VC55
  intro h9
  have f9 : Fr h 1 h9 (some ⟨h.size, 0, none⟩) 0 0 (ints []) := Fr.lit (.refl h) [] 3 0 rfl
  refine ⟨fun (st : (Option Addr × Nat × Nat) × Int) h' k => 0 ≤ st.2 ∧ st.2 ≤ cN ∧ k = (cN - st.2).toNat ∧ st.1.2.1 = (drp (q.take st.2.toNat) x).length ∧ Fr h 1 h' st.1.1 st.1.2.1 st.1.2.2 (ints (drp (q.take st.2.toNat) x)),
    ⟨_, Int.le_refl _, by show (0 : Int) ≤ cN; omega, rfl, rfl, f9⟩, ?_⟩
  rintro ⟨⟨a, n, c⟩, t⟩ h1 _ ⟨h0, ht, rfl, hn2, f⟩
  simp only at h0 ht hn2 f
  subst hn2
  have hb : (drp (q.take t.toNat) x).length ≤ cN := by
    have := List.length_filter_le (fun y => decide (y ≠ x)) (q.take t.toNat)
    simp only [List.length_take] at this
    unfold drp
    omega
  refine ⟨fun hlt => ?_, fun hge => ?_⟩
  · simp only at hlt
    unfold J55_1
    rw [w64 (x := t + 1) (by omega) (by omega)]
    have e1 : (t + 1).toNat = t.toNat + 1 := by omega
    refine ⟨h0, hlt, (rq.ext f.ext).geti h0 hlt fun ad g1 k1 => ⟨_, k1, fun hx => ?_, fun hx => ⟨h0, hlt, (rq.ext f.ext).geti h0 hlt fun ad g1 k1 => ⟨_, k1, ?_⟩⟩⟩⟩
    · have fs := filter_take g1 (fun y => decide (y ≠ x))
      have e2 : drp (q.take (t + 1).toNat) x = drp (q.take t.toNat) x := by unfold drp; rw [e1, fs]; simp [hx]
      exact ⟨_, by show (cN - (t + 1)).toNat < _; omega, by show 0 ≤ t + 1; omega, by show t + 1 ≤ cN; omega, rfl, by show _ = (drp (q.take (t + 1).toNat) x).length; rw [e2], by show Fr h 1 h1 a _ c (ints (drp (q.take (t + 1).toNat) x)); rw [e2]; exact f⟩
    · have fs := filter_take g1 (fun y => decide (y ≠ x))
      have e2 : drp (q.take (t + 1).toNat) x = drp (q.take t.toNat) x ++ [q[t.toNat]] := by unfold drp; rw [e1, fs]; simp [hx]
      intro h3
      have f3 : Fr h1 1 h3 (some ⟨h1.size, 0, none⟩) 1 1 (ints [q[t.toNat]]) := Fr.lit (.refl h1) (ints [q[t.toNat]]) 3 1 rfl
      refine ⟨ints [q[t.toNat]], f3.rd.read, rfl, (f.upd f3.ext).app rfl ints_one (by omega) fun a' c' h4 f4 _ _ => ⟨_, by show (cN - (t + 1)).toNat < _; omega, by show 0 ≤ t + 1; omega, by show t + 1 ≤ cN; omega, rfl, ?_, ?_⟩⟩
      · show _ = (drp (q.take (t + 1).toNat) x).length
        rw [e2, List.length_append]; rfl
      · show Fr h 1 h4 a' _ c' (ints (drp (q.take (t + 1).toNat) x))
        rw [e2, ints, List.map_append]; exact f4
  · simp only at hge
    have e3 : drp (q.take t.toNat) x = drp q x := by rw [List.take_of_length_le (by omega)]
    unfold J55_0
    rw [e3] at f ⊢
    exact ⟨a, c, rfl, f⟩
end Go.Proofs.Ytbfejkmnkkpkhaa
