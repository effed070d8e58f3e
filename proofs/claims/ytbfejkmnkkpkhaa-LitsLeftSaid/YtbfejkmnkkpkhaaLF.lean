/- Words and facts that the claim's proof leans on. No condition. -/
import Derived.Test.YtbfejkmnkkpkhaaLE
set_option linter.unusedVariables false
set_option linter.unusedSimpArgs false
namespace Go.Proofs.Ytbfejkmnkkpkhaa
open Go.Hx

abbrev Rise (q : List Int) : Prop := q.Pairwise (fun x y => ab x < ab y)
theorem key_of_ab {x y : Int} (h : ab x < ab y) : key x < key y := by unfold key; split <;> split <;> omega
theorem Rise.key {q : List Int} (hq : Rise q) : ∀ i j (hi : i < q.length) (hj : j < q.length), i < j → key q[i] < key q[j] :=
  fun i j hi hj hij => key_of_ab (List.pairwise_iff_getElem.1 hq i j hi hj hij)

/-- Where a literal stands: so many literals stand ahead of it. -/
structure Stands (q : List Int) (x : Int) (i : Nat) (b : Bool) : Prop where
  le : i ≤ q.length
  lt : ∀ j (hj : j < q.length), j < i → key q[j] < key x
  ge : ∀ j (hj : j < q.length), i ≤ j → key x ≤ key q[j]
  is : b = decide (x ∈ q)
  at_ : b = true → ∃ hi : i < q.length, q[i] = x

theorem c64 {a : Option Addr} {n c : Nat} {q : List Int} {h : Heap} (r : Rd h a n (ints q)) (hq : Rise q) (hf : ∀ x ∈ q, isF x = true) {x : Int} (hx : isF x = true) (hn : n ≤ 1073741824) :
    CallsH Try.prog 64 #[.slice a n c, .int .i64 x, .func (.func 60) #[] #[]] h fun v h' => h' = h ∧ ∃ i b, Stands q x i b ∧ v = .tuple #[.int .i64 (i : Nat), .bool b] := by
  have hlen : q.length = n := by have := r.len; simpa using this
  have hk := hq.key
  have hok : callOk Try.prog 60 = true := by kernel_rfl
  refine run64 a n c x _ _ h ⟨fun (st : Int × Int) h' m => h' = h ∧ 0 ≤ st.1 ∧ st.1 ≤ st.2 ∧ st.2 ≤ n ∧ m = (st.2 - st.1).toNat ∧ (∀ j (hj : j < q.length), (j : Int) < st.1 → key q[j] < key x) ∧ (∀ j (hj : j < q.length), st.2 ≤ (j : Int) → key x ≤ key q[j]),
    ⟨_, rfl, Int.le_refl _, by show (0 : Int) ≤ n; omega, Int.le_refl _, rfl, fun j hj h0 => by simp only at h0; omega, fun j hj h0 => by simp only at h0; omega⟩, ?_⟩
  rintro ⟨i, j⟩ _ _ ⟨rfl, h0, hij, hjn, rfl, hlt, hge⟩
  rename_i h
  simp only at h0 hij hjn hlt hge
  refine ⟨fun hl => ?_, fun hl => ?_⟩
  · simp only at hl
    unfold J64_1
    have e1 : IntKind.wrap .i64 (i + j) = i + j := w64 (by omega) (by omega)
    have e2 : IntKind.wrap .u64 (i + j) = i + j := by simp [IntKind.wrap, IntKind.bits, IntKind.signed]; omega
    have e3 : IntKind.wrap .i64 ((i + j) / 2) = (i + j) / 2 := w64 (by omega) (by omega)
    have e4 : IntKind.wrap .i64 ((i + j) / 2 + 1) = (i + j) / 2 + 1 := w64 (by omega) (by omega)
    simp only [show ((2 ^ 1 : Nat) : Int) = 2 from rfl, e1, e2, e3, e4]
    refine ⟨by omega, by omega, r.geti (by omega) (by omega) fun ad hl2 hc => ⟨_, hc, CallV.func hok (use (c60 _ _ _ (hf _ (List.getElem_mem _)) hx) ⟨_, rfl, fun ho => ?_, fun ho => ?_⟩)⟩⟩
    · have ho := ord_key.1 ho
      refine ⟨_, ?_, rfl, by show 0 ≤ (i + j) / 2 + 1; omega, by show (i + j) / 2 + 1 ≤ j; omega, hjn, rfl, fun k hkl hki => ?_, hge⟩
      · show (j - ((i + j) / 2 + 1)).toNat < _; omega
      · rcases Nat.lt_or_ge k ((i + j) / 2).toNat with h1 | h1
        · have := hk k _ hkl hl2 h1; omega
        · have : k = ((i + j) / 2).toNat := by omega
          subst this; exact ho
    · have ho : ¬ _ := fun hh => ho (ord_key.2 hh)
      refine ⟨_, ?_, rfl, h0, by show i ≤ (i + j) / 2; omega, by show (i + j) / 2 ≤ n; omega, rfl, hlt, fun k hkl hki => ?_⟩
      · show ((i + j) / 2 - i).toNat < _; omega
      · rcases Nat.lt_or_ge ((i + j) / 2).toNat k with h1 | h1
        · have := hk _ k hl2 hkl h1; omega
        · have : k = ((i + j) / 2).toNat := by omega
          subst this; omega
  · simp only at hl
    have hij2 : i = j := by omega
    subst hij2
    have hi : i = (i.toNat : Nat) := by omega
    have st : ∀ b, b = decide (x ∈ q) → (b = true → ∃ hi : i.toNat < q.length, q[i.toNat] = x) → Stands q x i.toNat b := fun b hb hat =>
      ⟨by omega, fun k hkl hki => hlt k hkl (by omega), fun k hkl hki => hge k hkl (by omega), hb, hat⟩
    have notin : (∀ hl2 : i.toNat < q.length, q[i.toNat] ≠ x) → x ∉ q := by
      intro hne hx
      obtain ⟨k, hkl, rfl⟩ := List.getElem_of_mem hx
      rcases Nat.lt_trichotomy k i.toNat with h1 | h1 | h1
      · have := hlt k hkl (by omega); omega
      · subst h1; exact hne hkl rfl
      · have := hge i.toNat (by omega) (by omega); have := hk i.toNat k (by omega) hkl h1; omega
    unfold J64_0
    refine ⟨fun hl2 => ⟨h0, hl2, r.geti h0 hl2 fun ad hl3 hc => ⟨_, hc, CallV.func hok (use (c60 _ _ _ (hf _ (List.getElem_mem _)) hx) ⟨_, rfl, fun ho => ?_, fun ho => ?_⟩)⟩⟩, fun hl2 => ?_⟩
    · have hxq : q[i.toNat] = x := by
        apply key_inj
        have h1 : ¬ ord q[i.toNat] x < 0 := by omega
        have h2 : ord q[i.toNat] x ≤ 0 := by omega
        rw [ord_key] at h1
        rw [ord_key'] at h2
        omega
      refine ⟨rfl, i.toNat, true, st true ?_ fun _ => ⟨hl3, hxq⟩, by rw [← hi]⟩
      rw [← hxq]; simp
    · refine ⟨rfl, i.toNat, false, st false ?_ (fun hh => by cases hh), by rw [← hi]⟩
      have : x ∉ q := notin fun hl4 hh => by
        apply ho
        rw [hh]; unfold ord; simp
      simp [this]
    · refine ⟨rfl, i.toNat, false, st false ?_ (fun hh => by cases hh), by rw [← hi]⟩
      have : x ∉ q := notin fun hl4 => by omega
      simp [this]
theorem c53 {a : Option Addr} {n c : Nat} {q : List Int} {h : Heap} (r : Rd h a n (ints q)) (hq : Rise q) (hf : ∀ x ∈ q, isF x = true) {x : Int} (hx : isF x = true) (hn : n ≤ 1073741824) :
    CallsH Try.prog 53 #[.slice a n c, .int .i64 x] h fun v h' => h' = h ∧ ∃ i b, Stands q x i b ∧ v = .tuple #[.int .i64 (i : Nat), .bool b] := by
  refine run53 a n c x _ h ((c64 r hq hf hx hn).mono ?_)
  rintro _ _ ⟨rfl, i, b, hs, rfl⟩
  exact ⟨_, _, rfl, rfl, i, b, hs, rfl⟩

/-! ### slices.Grow at none, slices.Concat, slices.Clone -/
theorem c66 {n : Int} (h0 : 0 ≤ n) (hn : n ≤ 1073741824) (h : Heap) : CallsH Try.prog 66 #[.slice none 0 0, .int .i64 n] h fun v h' => ∃ a c, v = .slice a 0 c ∧ Fr h 1 h' a 0 c [] := by
  refine run66 none 0 0 n _ h ⟨fun hl => by omega, fun _ => ?_⟩
  unfold J66_0
  have e1 : IntKind.wrap .i64 (n - IntKind.wrap .i64 (((0 : Nat) : Int) - ((0 : Nat) : Int))) = n := by
    rw [show ((0 : Nat) : Int) - ((0 : Nat) : Int) = 0 from rfl, w64 (x := 0) (by omega) (by omega), w64 (by omega) (by omega)]; omega
  rw [e1]
  refine ⟨fun hp => ⟨by omega, by omega, by omega, by omega, by omega, ?_⟩, fun _ => ⟨none, 0, rfl, .nil (.refl _)⟩⟩
  rw [cutA_zero]
  refine Fr.app (h0 := h) (Fr.nil (.refl h)) (by rw [zr_len]) (zr_one _) (by omega) fun a' c' h' f' _ _ => ⟨by omega, by omega, by omega, ?_⟩
  rw [cutA_zero]
  exact ⟨a', c', rfl, f'.own.take (m := 0) (by omega), f'.new, f'.ext⟩

/-- A row of rows of numbers. -/
structure Rw where
  a : Option Addr
  n : Nat
  c : Nat
  l : List Int
def Rw.v (s : Rw) : Value := .slice s.a s.n s.c
theorem c58 {a : Option Addr} {n c : Nat} {ss : List Rw} {h : Heap} (r : Rd h a n (ss.map Rw.v)) (hr : ∀ s ∈ ss, Rd h s.a s.n (ints s.l)) (hsum : (ss.map Rw.n).sum ≤ 1073741824) (hn : n ≤ 1073741824) :
    CallsH Try.prog 58 #[.slice a n c] h fun v h' => ∃ a' c', v = .slice a' (ss.flatMap Rw.l).length c' ∧ Fr h 1 h' a' (ss.flatMap Rw.l).length c' (ints (ss.flatMap Rw.l)) := by
  have hlen : ss.length = n := by have := r.len; simpa using this
  have hsl : ∀ s ∈ ss, s.l.length = s.n := fun s hs => by have := (hr s hs).len; simpa using this
  have hpre : ∀ k, ((ss.take k).map Rw.n).sum ≤ (ss.map Rw.n).sum := by
    intro k
    conv => rhs; rw [← List.take_append_drop k ss, List.map_append, List.sum_append]
    omega
  have hstep : ∀ k (hk : k < ss.length), ((ss.take (k + 1)).map Rw.n).sum = ((ss.take k).map Rw.n).sum + ss[k].n := by
    intro k hk
    rw [List.take_succ_eq_append_getElem hk, List.map_append, List.sum_append]
    simp
  have hfl : ∀ k, ((ss.take k).flatMap Rw.l).length = ((ss.take k).map Rw.n).sum := by
    intro k
    rw [List.length_flatMap]
    congr 1
    refine List.map_congr_left fun s hs => hsl s (List.mem_of_mem_take hs)
  refine run58 a n c _ h ⟨fun (st : Int × Int) h' m => h' = h ∧ 0 ≤ st.2 ∧ st.2 ≤ n ∧ m = (n - st.2).toNat ∧ st.1 = (((ss.take st.2.toNat).map Rw.n).sum : Nat), ⟨_, rfl, Int.le_refl _, by show (0 : Int) ≤ n; omega, rfl, rfl⟩, ?_⟩
  rintro ⟨sz, t⟩ _ _ ⟨rfl, h0, ht, rfl, hsz⟩
  rename_i h
  simp only at h0 ht hsz
  refine ⟨fun hl => ?_, fun hl => ?_⟩
  · simp only at hl
    unfold J58_1
    refine ⟨h0, hl, r.geti (f := Rw.v) h0 hl fun ad hl2 hc => ⟨_, _, _, hc, ?_⟩⟩
    have h1 := hstep t.toNat hl2
    have h2 := hpre (t.toNat + 1)
    have e1 : IntKind.wrap .i64 (sz + ((ss[t.toNat].n : Nat) : Int)) = sz + (ss[t.toNat].n : Nat) := w64 (by omega) (by omega)
    rw [e1, w64 (x := t + 1) (by omega) (by omega)]
    refine ⟨fun hneg => by omega, fun _ => ⟨_, ?_, rfl, by show 0 ≤ t + 1; omega, by show t + 1 ≤ n; omega, rfl, ?_⟩⟩
    · show (n - (t + 1)).toNat < _; omega
    · show sz + _ = (((ss.take (t + 1).toNat).map Rw.n).sum : Nat)
      rw [show (t + 1).toNat = t.toNat + 1 by omega, h1]; omega
  · simp only at hl
    have htn : t.toNat = n := by omega
    unfold J58_0
    have hle := hpre t.toNat
    refine (c66 (n := sz) (by omega) (by omega) h).mono ?_
    rintro _ h1 ⟨a1, c1, rfl, f1⟩
    refine ⟨a1, 0, c1, rfl, fun (st : (Option Addr × Nat × Nat) × Int) h' m => 0 ≤ st.2 ∧ st.2 ≤ n ∧ m = (n - st.2).toNat ∧ st.1.2.1 = ((ss.take st.2.toNat).flatMap Rw.l).length ∧ Fr h 1 h' st.1.1 st.1.2.1 st.1.2.2 (ints ((ss.take st.2.toNat).flatMap Rw.l)),
      ⟨_, Int.le_refl _, by show (0 : Int) ≤ n; omega, rfl, rfl, f1⟩, ?_⟩
    rintro ⟨⟨a2, n2, c2⟩, t2⟩ h2 _ ⟨g0, gt, rfl, gn, f2⟩
    simp only at g0 gt gn f2
    refine ⟨fun hl3 => ?_, fun hl3 => ?_⟩
    · simp only at hl3
      unfold J58_4
      have r2 := r.ext f2.ext
      refine ⟨g0, hl3, r2.geti (f := Rw.v) g0 hl3 fun ad hl4 hc => ⟨_, _, _, hc, ints ss[t2.toNat].l, ?_, ?_, ?_⟩⟩
      · exact ((hr _ (List.getElem_mem _)).ext f2.ext).read
      · rw [List.length_map, hsl _ (List.getElem_mem _), Nat.mul_one]
      · have h1 := hstep t2.toNat hl4
        have h3 := hpre (t2.toNat + 1)
        have h4 := hfl t2.toNat
        have e5 : ((ss.take (t2 + 1).toNat).flatMap Rw.l) = (ss.take t2.toNat).flatMap Rw.l ++ ss[t2.toNat].l := by
          rw [show (t2 + 1).toNat = t2.toNat + 1 by omega, List.take_succ_eq_append_getElem hl4, List.flatMap_append]; simp
        rw [w64 (x := t2 + 1) (by omega) (by omega)]
        refine f2.app (by rw [List.length_map, hsl _ (List.getElem_mem _), Nat.mul_one]) ints_one (by omega) fun a' c' h' f' _ _ => ⟨_, ?_, by show 0 ≤ t2 + 1; omega, by show t2 + 1 ≤ n; omega, rfl, ?_, ?_⟩
        · show (n - (t2 + 1)).toNat < _; omega
        · show n2 + _ = _
          rw [e5, List.length_append, hsl _ (List.getElem_mem _), gn]
        · show Fr h 1 h' a' _ c' (ints ((ss.take (t2 + 1).toNat).flatMap Rw.l))
          rw [e5, ints, List.map_append]
          exact f'
    · simp only at hl3
      have ht2 : t2.toNat = n := by omega
      rw [ht2, List.take_of_length_le (by omega)] at gn f2
      subst gn
      exact ⟨a2, c2, rfl, f2⟩

theorem c65 {a : Option Addr} {n c : Nat} {l : List Int} {h : Heap} (r : Rd h a n (ints l)) (hn : n ≤ 1073741824) : CallsH Try.prog 65 #[.slice a n c] h fun v h' => ∃ a' c', v = .slice a' n c' ∧ Fr h 1 h' a' n c' (ints l) := by
  have hlen : l.length = n := by have := r.len; simpa using this
  refine run65 a n c _ h ⟨fun ha => ?_, fun _ => ?_⟩
  · subst ha
    have hv : ints l = [] := r.read
    have hn0 : n = 0 := by rw [← hlen]; cases l with | nil => rfl | cons x l => cases hv
    subst hn0
    rw [hv]
    exact ⟨none, 0, rfl, .nil (.refl _)⟩
  · intro h1
    have f1 : Fr h 1 h1 (some ⟨h.size, 0, none⟩) 0 0 [] := Fr.lit (.refl h) [] 3 0 rfl
    refine ⟨ints l, (r.ext f1.ext).read, by rw [List.length_map, hlen, Nat.mul_one], f1.app (by rw [List.length_map, hlen, Nat.mul_one]) ints_one (by omega) fun a' c' h' f' _ _ => ?_⟩
    rw [Nat.zero_add] at f' ⊢
    exact ⟨a', c', rfl, f'⟩

/-- A clause without a literal. -/
def drp (q : List Int) (x : Int) : List Int := q.filter fun y => decide (y ≠ x)
theorem drp_at {q : List Int} (hq : Rise q) {i : Nat} (hi : i < q.length) : drp q q[i] = q.take i ++ q.drop (i + 1) := by
  have hk := hq.key
  have e : q.take i ++ q[i] :: q.drop (i + 1) = q := by rw [← List.drop_eq_getElem_cons hi, List.take_append_drop]
  unfold drp
  refine (congrArg _ e.symm).trans ?_
  rw [List.filter_append, List.filter_cons]
  simp only [ne_eq, not_true_eq_false, decide_false, Bool.false_eq_true, if_false]
  congr 1
  · rw [List.filter_eq_self]
    intro y hy
    obtain ⟨j, hj, rfl⟩ := List.getElem_of_mem hy
    simp only [List.length_take] at hj
    rw [List.getElem_take]
    have := hk j i (by omega) hi (by omega)
    simp only [decide_eq_true_eq]
    intro hh; rw [hh] at this; omega
  · rw [List.filter_eq_self]
    intro y hy
    obtain ⟨j, hj, rfl⟩ := List.getElem_of_mem hy
    simp only [List.length_drop] at hj
    rw [List.getElem_drop]
    have := hk i (i + 1 + j) hi (by omega) (by omega)
    simp only [decide_eq_true_eq]
    intro hh; rw [hh] at this; omega
theorem drp_none {q : List Int} {x : Int} (hx : x ∉ q) : drp q x = q := by
  unfold drp
  rw [List.filter_eq_self]
  intro y hy
  simp only [decide_eq_true_eq]
  intro hh; subst hh; exact hx hy
theorem c54 {a : Option Addr} {n c : Nat} {q : List Int} {h : Heap} (r : Rd h a n (ints q)) (hc : n ≤ c) (hq : Rise q) (hf : ∀ x ∈ q, isF x = true) {x : Int} (hx : isF x = true) (hn : n ≤ 1073741824) :
    CallsH Try.prog 54 #[.slice a n c, .int .i64 x] h fun v h' => ∃ a' c', v = .slice a' (drp q x).length c' ∧ Fr h 1 h' a' (drp q x).length c' (ints (drp q x)) := by
  have hlen : q.length = n := by have := r.len; simpa using this
  refine run54 a n c x _ h ((c53 r hq hf hx hn).mono ?_)
  rintro _ _ ⟨rfl, i, b, hs, rfl⟩
  rename_i h
  refine ⟨_, _, rfl, ?_⟩
  cases b with
  | true =>
    obtain ⟨hi, hxi⟩ := hs.at_ rfl
    have e1 : IntKind.wrap .i64 ((i : Nat) + 1 : Int) = (i : Int) + 1 := w64 (by omega) (by omega)
    refine BIf.t ?_
    rw [e1]
    refine ⟨by omega, by omega, by omega, by omega, by omega, by omega, ?_⟩
    intro h1
    have e2 : ((i : Int) + 1).toNat = i + 1 := by omega
    let s1 : Rw := ⟨cutA 1 a c 0, i, c, q.take i⟩
    let s2 : Rw := ⟨cutA 1 a c (i + 1), n - (i + 1), c - (i + 1), q.drop (i + 1)⟩
    have f1 : Fr h 1 h1 (some ⟨h.size, 0, none⟩) 2 2 ([s1, s2].map Rw.v) := by
      have := Fr.lit (.refl h) ([s1, s2].map Rw.v) 28 2 rfl
      rw [show h1 = h.push (.cells ([s1, s2].map Rw.v).toArray 28) by simp only [h1, e2]; rfl]
      exact this
    have hl1 : Rd h1 s1.a s1.n (ints s1.l) := by
      have := (r.ext f1.ext).cutA (sz := 1) (c := c) 0 i (by omega) (by omega)
      show Rd h1 (cutA 1 a c 0) i (ints (q.take i))
      rw [ints, List.map_take]
      simpa using this
    have hl2 : Rd h1 s2.a s2.n (ints s2.l) := by
      have := (r.ext f1.ext).cutA (sz := 1) (c := c) (i + 1) (n - (i + 1)) (by omega) (by omega)
      rw [List.take_of_length_le (by simp; omega)] at this
      show Rd h1 (cutA 1 a c (i + 1)) (n - (i + 1)) (ints (q.drop (i + 1)))
      rw [ints, List.map_drop]
      simpa using this
    have e3 : [s1, s2].flatMap Rw.l = drp q x := by
      rw [← hxi, drp_at hq hi]
      simp [s1, s2]
    refine (c58 (ss := [s1, s2]) f1.rd (fun s hs => by
      rcases List.mem_cons.1 hs with rfl | hs
      · exact hl1
      · rcases List.mem_cons.1 hs with rfl | hs
        · exact hl2
        · cases hs) (by simp [s1, s2]; omega) (by omega)).mono ?_
    rintro _ h2 ⟨a', c', rfl, f2⟩
    rw [e3] at f2 ⊢
    exact ⟨_, _, _, rfl, a', c', rfl, f2.own, fun ad ha => Nat.le_trans f1.ext.1 (f2.new ad ha), f1.ext.trans f2.ext⟩
  | false =>
    have hnx : x ∉ q := by have := hs.is; simpa using this
    refine BIf.f ((c65 r hn).mono ?_)
    rintro _ h2 ⟨a', c', rfl, f2⟩
    rw [drp_none hnx, hlen]
    exact ⟨_, _, _, rfl, a', c', rfl, f2⟩
end Go.Proofs.Ytbfejkmnkkpkhaa
