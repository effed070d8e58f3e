/- Words and facts that the claim's proof leans on. No condition. -/
import Derived.Test.YtbfejkmnkkpkhaaLJ
set_option linter.unusedVariables false
set_option linter.unusedSimpArgs false
namespace Go.Proofs.Ytbfejkmnkkpkhaa
open Go.Hx

theorem c47 {cA : Option Addr} {cN cC : Nat} {l : List Int} {mA : Option Addr} {mN mC : Nat} {m : List Bool} {h : Heap} (rl : Rd h cA cN (ints l)) (rm : Rd h mA mN (bools m))
    (hf : ∀ x ∈ l, isF x = true) (hm : ∀ x ∈ l, ab x ≤ m.length) (hn : cN ≤ 1073741824) : CallsH Try.prog 47 #[.slice cA cN cC, .slice mA mN mC] h (Ret (.bool (l.any (mv m))) h) := by
  have e1 : l.length = cN := by have := rl.len; simpa using this
  have e2 : m.length = mN := by have := rm.len; simpa using this
  refine run47 cA cN cC mA mN mC _ h ⟨fun t h' k => h' = h ∧ 0 ≤ t ∧ t ≤ cN ∧ k = (cN - t).toNat ∧ (l.take t.toNat).any (mv m) = false, ⟨_, rfl, Int.le_refl _, by omega, rfl, by simp⟩, ?_⟩
  rintro t _ _ ⟨rfl, h0, ht, rfl, hv⟩
  rename_i h
  refine ⟨fun hlt => ?_, fun hge => ?_⟩
  · unfold J47_1
    refine ⟨h0, hlt, rl.geti h0 hlt fun ad g1 k1 => ⟨cellH_lt k1, _, k1, ?_⟩⟩
    have hx := hf _ (List.getElem_mem g1)
    have hxf := isF_t.1 hx
    have ha1 := ab_pos hx
    have hml := hm _ (List.getElem_mem g1)
    have nx := take_any g1 (mv m)
    rw [hv, Bool.false_or] at nx
    refine use (c41 _ h (by omega) (by omega)) ⟨_, rfl, fun _ _ => rfl, ?_⟩
    have e5 : IntKind.wrap .i64 (ab l[t.toNat] - 1) = ab l[t.toNat] - 1 := w64 (by omega) (by omega)
    rw [e5, w64 (x := t + 1) (by omega) (by omega)]
    refine ⟨by omega, by omega, rm.geti (by omega) (by omega) fun ad1 g2 k2 => ⟨cellH_lt k2, _, k2, h0, hlt, rl.geti h0 hlt fun ad2 g3 k3 => ⟨cellH_lt k3, _, k3, ?_⟩⟩⟩
    have yes : mv m l[t.toNat] = true → Ret (.bool (l.any (mv m))) h (.bool true) h := fun hh => by
      rw [show l.any (mv m) = true by rw [List.any_eq_true]; exact ⟨_, List.getElem_mem g1, hh⟩]; exact ⟨rfl, rfl⟩
    have no : mv m l[t.toNat] = false → ∃ m', m' < ((cN : Int) - t).toNat ∧ h = h ∧ 0 ≤ t + 1 ∧ t + 1 ≤ cN ∧ m' = ((cN : Int) - (t + 1)).toNat ∧ (l.take (t + 1).toNat).any (mv m) = false := fun hh =>
      ⟨_, by omega, rfl, by omega, by omega, rfl, by rw [show (t + 1).toNat = t.toNat + 1 by omega, nx]; exact hh⟩
    refine ⟨fun hp => ⟨fun hb => yes ?_, fun hb => no ?_⟩, fun hp => ⟨fun hb => yes ?_, fun hb => no ?_⟩⟩
    · rw [mv_at ha1.1 hml g2, hb]; simp [hp]
    · rw [mv_at ha1.1 hml g2]; simp [hp]; simpa using hb
    · rw [mv_at ha1.1 hml g2, hb]; simp [hp]
    · rw [mv_at ha1.1 hml g2]; simp [hp]; simpa using hb
  · rw [List.take_of_length_le (by omega)] at hv
    rw [hv]; exact ⟨rfl, rfl⟩

theorem c21 {cA : Option Addr} {cN cC : Nat} {l : List Int} {mA : Option Addr} {mN mC : Nat} {m : List Bool} {h : Heap} (rl : Rd h cA cN (ints l)) (rm : Rd h mA mN (bools m)) :
    CallsH Try.prog 21 #[.slice cA cN cC, .slice mA mN mC] h (Ret (vres l m) h) := by
  have e1 : l.length = cN := by have := rl.len; simpa using this
  have e2 : m.length = mN := by have := rm.len; simpa using this
  refine run21 cA cN cC mA mN mC _ h (use (c45 rl) ⟨_, rfl, fun hc => ⟨fun hm => ?_, fun hm => ?_⟩, fun hc => ?_⟩)
  · unfold vres; rw [if_neg (by simpa using hc), if_pos (by omega)]; exact ⟨rfl, rfl⟩
  · obtain ⟨hf, hl⟩ := chk_0 hc
    have hf := List.all_eq_true.1 hf
    refine ⟨fun t h' k => h' = h ∧ 0 ≤ t ∧ t ≤ cN ∧ k = (cN - t).toNat ∧ (l.take t.toNat).any (fun x => decide ((m.length : Int) < ab x)) = false, ⟨_, rfl, Int.le_refl _, by omega, rfl, by simp⟩, ?_⟩
    rintro t _ _ ⟨rfl, h0, ht, rfl, ha⟩
    rename_i h
    refine ⟨fun hlt => ?_, fun hge => ?_⟩
    · unfold J21_3
      refine ⟨h0, hlt, rl.geti h0 hlt fun ad g1 k1 => ⟨_, k1, ?_⟩⟩
      have hx := isF_t.1 (hf _ (List.getElem_mem g1))
      have nx2 := take_any g1 (fun x => decide ((m.length : Int) < ab x))
      rw [ha, Bool.false_or] at nx2
      refine use (c41 _ h (by omega) (by omega)) ⟨_, rfl, fun hbig => ?_, fun hle => ?_⟩
      · unfold vres
        rw [if_neg (by simpa using hc), if_neg (by omega), if_pos]
        · exact ⟨rfl, rfl⟩
        · rw [List.any_eq_true]
          exact ⟨_, List.getElem_mem g1, by simp only [decide_eq_true_eq]; omega⟩
      · rw [w64 (x := t + 1) (by omega) (by omega)]
        exact ⟨_, by omega, rfl, by omega, by omega, rfl, by rw [show (t + 1).toNat = t.toNat + 1 by omega, nx2]; simp only [decide_eq_false_iff_not]; omega⟩
    · rw [List.take_of_length_le (by omega)] at ha
      unfold J21_2
      refine use (c47 rl rm hf (fun x hx => ?_) (by omega)) ⟨_, rfl, ?_⟩
      · have : ¬ (m.length : Int) < ab x := fun hh => by
          have : l.any (fun x => decide ((m.length : Int) < ab x)) = true := by rw [List.any_eq_true]; exact ⟨x, hx, by simpa using hh⟩
          rw [ha] at this; cases this
        omega
      · unfold vres
        rw [if_neg (by simpa using hc), if_neg (by omega), if_neg (by rw [ha]; decide)]
        exact ⟨rfl, rfl⟩
  · unfold vres; rw [if_pos hc]; exact ⟨rfl, rfl⟩

/-! ### The document's normal form: a literal more -/
def PutRes (h0 : Heap) (a : Option Addr) (n c : Nat) (q : List Int) (x : Int) (h : Heap) (v : Value) (h' : Heap) : Prop :=
  Ext h h' ∧ ((-x ∈ q ∧ v = .tuple #[.slice a n c, .bool false]) ∨
    (∃ q' a' c', Rise q' ∧ (∀ y, y ∈ q' ↔ y = x ∨ y ∈ q) ∧ q'.length ≤ q.length + 1 ∧ Fr h0 1 h' a' q'.length c' (ints q') ∧ v = .tuple #[.slice a' q'.length c', .bool true]))

theorem c63 {h0 h : Heap} {a : Option Addr} {n c : Nat} {q : List Int} (f : Fr h0 1 h a n c (ints q)) (hq : Rise q) (hf : ∀ y ∈ q, isF y = true) {x : Int} (hx : isF x = true) (hn : n ≤ 1073741824) :
    CallsH Try.prog 63 #[.slice a n c, .int .i64 x] h (PutRes h0 a n c q x h) := by
  have hlen : q.length = n := by have := f.rd.len; simpa using this
  have hcap := f.own.cap
  have hxf := isF_t.1 hx
  have hr := List.pairwise_iff_getElem.1 hq
  -- a new row
  have new : ∀ k : Int, 0 ≤ k → k ≤ n → (∀ i (hi : i < q.length), (i : Int) < k → ab q[i] < ab x) → (∀ i (hi : i < q.length), k ≤ (i : Int) → ab x < ab q[i]) → J63_1 (PutRes h0 a n c q x h) a n c x k h := by
    intro k k0 kn hlo hhi
    unfold J63_1
    intro h7
    have f7 : Fr h 1 h7 (some ⟨h.size, 0, none⟩) 0 0 [] := Fr.lit (.refl h) [] 3 0 rfl
    have r7 := f.rd.ext f7.ext
    have t7 : Rd h7 a k.toNat (ints (q.take k.toNat)) := by
      have := r7.take k.toNat (by omega)
      rwa [ints, ← List.map_take] at this
    refine ⟨by omega, k0, by omega, ints (q.take k.toNat), by rw [cutA_zero]; exact t7.read, by rw [t7.len]; omega, ?_⟩
    refine f7.app (by rw [t7.len]; omega) ints_one (by omega) fun a8 c8 h8 f8 _ _ => ?_
    intro h9
    have f9 : Fr h8 1 h9 (some ⟨h8.size, 0, none⟩) 1 1 (ints [x]) := Fr.lit (.refl h8) (ints [x]) 3 1 rfl
    refine ⟨ints [x], f9.rd.read, rfl, (f8.upd f9.ext).app rfl ints_one (by omega) fun a10 c10 h10 f10 _ _ => ⟨k0, kn, by omega, ?_⟩⟩
    have r10 := (f.rd.ext f10.ext).cutA (sz := 1) (c := c) k.toNat (n - k.toNat) (by omega) (by omega)
    rw [Nat.mul_one, List.take_of_length_le (by simp; omega), ints, ← List.map_drop] at r10
    refine ⟨ints (q.drop k.toNat), r10.read, by rw [r10.len]; omega, f10.app (by rw [r10.len]; omega) ints_one (by omega) fun a11 c11 h11 f11 _ _ => ?_⟩
    have e : ints (q.take k.toNat ++ x :: q.drop k.toNat) = [] ++ ints (q.take k.toNat) ++ ints [x] ++ ints (q.drop k.toNat) := by simp [ints]
    have el : 0 + (k.toNat - Int.toNat 0) + 1 + (Int.toNat ((n : Nat) : Int) - k.toNat) = (q.take k.toNat ++ x :: q.drop k.toNat).length := by simp; omega
    rw [el] at f11 ⊢
    rw [← e] at f11
    refine ⟨f11.ext, .inr ⟨_, _, _, ?_, fun y => ?_, by simp; omega, Fr.wide f11 f.ext, rfl⟩⟩
    · rw [Rise, List.pairwise_append]
      refine ⟨hq.sublist (List.take_sublist _ _), ?_, fun y hy z hz => ?_⟩
      · rw [List.pairwise_cons]
        refine ⟨fun z hz => ?_, hq.sublist (List.drop_sublist _ _)⟩
        obtain ⟨j, hj, rfl⟩ := List.getElem_of_mem hz
        simp only [List.length_drop] at hj
        rw [List.getElem_drop]
        exact hhi _ (by omega) (by omega)
      · obtain ⟨i, hi, rfl⟩ := List.getElem_of_mem hy
        simp only [List.length_take] at hi
        rw [List.getElem_take]
        rcases List.mem_cons.1 hz with rfl | hz
        · exact hlo i (by omega) (by omega)
        · obtain ⟨j, hj, rfl⟩ := List.getElem_of_mem hz
          simp only [List.length_drop] at hj
          rw [List.getElem_drop]
          exact hr i _ (by omega) (by omega) (by omega)
    · rw [List.mem_append, List.mem_cons]
      conv => rhs; rw [← List.take_append_drop k.toNat q, List.mem_append]
      constructor
      · rintro (h1 | h1 | h1)
        · exact .inr (.inl h1)
        · exact .inl h1
        · exact .inr (.inr h1)
      · rintro (h1 | h1 | h1)
        · exact .inr (.inl h1)
        · exact .inl h1
        · exact .inr (.inr h1)
  refine run63 a n c x _ h ⟨fun k h' m => h' = h ∧ 0 ≤ k ∧ k ≤ n ∧ m = (n - k).toNat ∧ ∀ i (hi : i < q.length), (i : Int) < k → ab q[i] < ab x, ⟨_, rfl, Int.le_refl _, by omega, rfl, fun i hi h1 => by omega⟩, ?_⟩
  rintro k _ _ ⟨rfl, k0, kn, rfl, hlo⟩
  rename_i h
  have stop : ∀ (hs : ∀ hi : k.toNat < q.length, ¬ ab q[k.toNat] < ab x), J63_0 Try.prog (PutRes h0 a n c q x h) a n c x k h := by
    intro hs
    unfold J63_0
    refine ⟨fun hlt => ⟨k0, hlt, f.rd.geti k0 hlt fun ad g1 k1 => ⟨_, k1, ?_⟩⟩, fun hge => new k k0 kn hlo fun i hi h1 => by omega⟩
    have hy := isF_t.1 (hf _ (List.getElem_mem g1))
    have hs := hs g1
    refine use (c41 _ h (by omega) (by omega)) ⟨_, rfl, use (c41 x h (by omega) (by omega)) ⟨_, rfl, fun he => ⟨k0, hlt, f.rd.geti k0 hlt fun ad2 g2 k2 => ⟨_, k2, fun hxx => ?_, fun hxx => ?_⟩⟩, fun hne => new k k0 kn hlo fun i hi h1 => ?_⟩⟩
    · refine ⟨.refl _, .inr ⟨q, a, c, hq, fun y => ⟨.inr, fun hh => ?_⟩, by omega, by rw [hlen]; exact f, by rw [hlen]⟩⟩
      rcases hh with rfl | hh
      · rw [← hxx]; exact List.getElem_mem g2
      · exact hh
    · refine ⟨.refl _, .inl ⟨?_, rfl⟩⟩
      have : q[k.toNat] = -x := by
        revert he hxx
        generalize q[k.toNat] = y
        unfold ab
        intro he hxx
        split at he <;> split at he <;> omega
      rw [← this]; exact List.getElem_mem g2
    · by_cases hik : i = k.toNat
      · subst hik; omega
      · have := hr k.toNat i g1 hi (by omega); omega
  refine ⟨fun hlt => ⟨k0, hlt, f.rd.geti k0 hlt fun ad g1 k1 => ⟨_, k1, ?_⟩⟩, fun hge => stop fun hi => by omega⟩
  have hy := isF_t.1 (hf _ (List.getElem_mem g1))
  refine use (c41 _ h (by omega) (by omega)) ⟨_, rfl, use (c41 x h (by omega) (by omega)) ⟨_, rfl, fun hl => ?_, fun hl => stop fun _ => hl⟩⟩
  rw [w64 (by omega) (by omega)]
  refine ⟨_, by omega, rfl, by omega, by omega, rfl, fun i hi h1 => ?_⟩
  by_cases hik : i = k.toNat
  · subst hik; exact hl
  · exact hlo i hi (by omega)

theorem c46 {cA : Option Addr} {cN cC : Nat} {l : List Int} {h : Heap} (rd : Rd h cA cN (ints l)) (hf : l.all isF = true) (hn : cN ≤ 536870912) :
    CallsH Try.prog 46 #[.slice cA cN cC] h (NormRes h l) := by
  have hlen : l.length = cN := by have := rd.len; simpa using this
  have hff := List.all_eq_true.1 hf
  refine run46 cA cN cC _ h ?_
  unfold VC46
  intro h1
  have f1 : Fr h 1 h1 (some ⟨h.size, 0, none⟩) 0 0 (ints []) := Fr.lit (.refl h) [] 3 0 rfl
  refine ⟨fun (st : (Option Addr × Nat × Nat) × Int) h' m => 0 ≤ st.2 ∧ st.2 ≤ cN ∧ m = (cN - st.2).toNat ∧ ∃ q : List Int, st.1.2.1 = q.length ∧ q.length ≤ st.2.toNat ∧ Fr h 1 h' st.1.1 st.1.2.1 st.1.2.2 (ints q) ∧ NF (l.take st.2.toNat) q,
    ⟨_, Int.le_refl _, by show (0 : Int) ≤ cN; omega, rfl, [], rfl, Nat.le_refl _, f1, List.Pairwise.nil, by simp⟩, ?_⟩
  rintro ⟨⟨a, n, c⟩, t⟩ h2 _ ⟨h0, ht, rfl, q, hn2, hql, f2, hq⟩
  simp only at h0 ht hn2 hql f2 hq
  subst hn2
  refine ⟨fun hlt => ?_, fun hge => ?_⟩
  · simp only at hlt
    unfold J46_1
    have hsub : ∀ y ∈ q, y ∈ l := fun y hy => List.mem_of_mem_take ((hq.2 y).1 hy)
    refine ⟨h0, hlt, (rd.ext f2.ext).geti h0 hlt fun ad g1 k1 => ⟨_, k1, ?_⟩⟩
    refine (c63 f2 hq.1 (fun y hy => hff y (hsub y hy)) (hff _ (List.getElem_mem g1)) (by omega)).mono ?_
    rintro _ h3 ⟨x3, ⟨hneg, rfl⟩ | ⟨q', a', c', hr', hm', hl', f3, rfl⟩⟩
    · exact ⟨_, _, _, _, rfl, .t ⟨f2.ext.trans x3, .inl ⟨⟨_, List.getElem_mem g1, hsub _ hneg⟩, rfl⟩⟩⟩
    · refine ⟨_, _, _, _, rfl, .f ?_⟩
      rw [w64 (x := t + 1) (by omega) (by omega)]
      refine ⟨_, ?_, by show 0 ≤ t + 1; omega, by show t + 1 ≤ cN; omega, rfl, q', rfl, by show q'.length ≤ (t + 1).toNat; omega, f3, hr', fun y => ?_⟩
      · show (cN - (t + 1)).toNat < _; omega
      · show y ∈ q' ↔ y ∈ l.take (t + 1).toNat
        rw [show (t + 1).toNat = t.toNat + 1 by omega, List.take_succ_eq_append_getElem g1, List.mem_append, hm' y, hq.2 y, List.mem_singleton]
        exact Or.comm
  · simp only at hge
    rw [List.take_of_length_le (by omega)] at hq
    exact ⟨f2.ext, .inr ⟨q, _, _, hq, f2, rfl⟩⟩
theorem c19 {cA : Option Addr} {cN cC : Nat} {l : List Int} {h : Heap} (rd : Rd h cA cN (ints l)) : CallsH Try.prog 19 #[.slice cA cN cC] h (NormalRes h l) := by
  have hlen : l.length = cN := by have := rd.len; simpa using this
  refine run19 cA cN cC _ h (use (c45 rd) ⟨_, rfl, fun he => ?_, fun hne => ⟨.refl _, .inl ⟨hne, rfl⟩⟩⟩)
  obtain ⟨hf, hl⟩ := chk_0 he
  refine (c46 rd hf (by omega)).mono ?_
  rintro _ h' ⟨hx, ⟨ht, rfl⟩ | ⟨q, a, c, hq, hfr, rfl⟩⟩
  · exact ⟨_, _, _, _, rfl, hx, .inr (.inl ⟨he, ht, rfl⟩)⟩
  · exact ⟨_, _, _, _, rfl, hx, .inr (.inr ⟨he, q, a, c, hq, hfr, rfl⟩)⟩
end Go.Proofs.Ytbfejkmnkkpkhaa
