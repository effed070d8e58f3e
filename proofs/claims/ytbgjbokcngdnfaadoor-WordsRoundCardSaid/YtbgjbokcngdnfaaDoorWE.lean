/- Words and facts that the claim's proof leans on. No condition. -/
import Derived.Test.YtbgjbokcngdnfaaDoorWD
set_option linter.unusedVariables false
set_option linter.unusedSimpArgs false
namespace Go.Proofs.YtbgjbokcngdnfaaDoor
open Go.Hx

theorem tw_at {α : Type} {p : α → Bool} : ∀ {l : List α} {k : Nat}, k < (l.takeWhile p).length → ∃ b, l[k]? = some b ∧ (l.takeWhile p)[k]? = some b ∧ p b = true
  | [], k, h => by simp at h
  | a :: l, k, h => by
    by_cases ha : p a = true
    · rw [List.takeWhile_cons_of_pos ha] at h ⊢
      cases k with
      | zero => exact ⟨a, rfl, rfl, ha⟩
      | succ k => simpa using tw_at (l := l) (k := k) (by simpa using h)
    · rw [List.takeWhile_cons_of_neg ha] at h; simp at h
theorem tw_end {α : Type} {p : α → Bool} : ∀ {l : List α}, (l[(l.takeWhile p).length]?).any p = false
  | [] => rfl
  | a :: l => by
    by_cases ha : p a = true
    · rw [List.takeWhile_cons_of_pos ha]; simpa using tw_end (l := l)
    · rw [List.takeWhile_cons_of_neg ha]; simpa using ha
def ds (s : ByteArray) (a : Nat) : List UInt8 := ((B s).drop a).takeWhile isDig
theorem ds_len (s : ByteArray) (a : Nat) (ha : a ≤ (B s).length) : a + (ds s a).length ≤ (B s).length := by
  have := (List.takeWhile_sublist (l := (B s).drop a) isDig).length_le
  rw [List.length_drop] at this
  unfold ds; omega
theorem ds_at {s : ByteArray} {a k : Nat} (h : k < (ds s a).length) : ∃ b, (B s)[a + k]? = some b ∧ (ds s a)[k]? = some b ∧ isDig b = true := by
  obtain ⟨b, h1, h2, h3⟩ := tw_at (l := (B s).drop a) (p := isDig) h
  exact ⟨b, by rw [List.getElem?_drop] at h1; exact h1, h2, h3⟩
theorem ds_all (s : ByteArray) (a : Nat) : ∀ b ∈ ds s a, isDig b = true := fun b hb => by
  obtain ⟨i, hi, rfl⟩ := List.getElem_of_mem hb
  obtain ⟨b, _, h2, h3⟩ := ds_at hi
  rw [List.getElem?_eq_getElem hi] at h2
  cases h2
  exact h3
theorem ds_end {s : ByteArray} {a : Nat} : ((B s)[a + (ds s a).length]?).any isDig = false := by
  have := tw_end (l := (B s).drop a) (p := isDig)
  rw [List.getElem?_drop] at this; exact this
theorem ds_take {s : ByteArray} {a : Nat} : ((B s).drop a).take (ds s a).length = ds s a := List.prefix_iff_eq_take.1 (List.takeWhile_prefix isDig) |>.symm
theorem ds_any {s : ByteArray} {a k : Nat} (h : k ≤ (ds s a).length) : ((B s)[a + k]?).any isDig = decide (k < (ds s a).length) := by
  rcases Nat.lt_or_ge k (ds s a).length with h1 | h1
  · obtain ⟨b, h2, _, h3⟩ := ds_at h1
    rw [h2, decide_eq_true h1]; exact h3
  · rw [show k = (ds s a).length by omega, ds_end]; simp

def numR (s : ByteArray) (a : Nat) : Option (Nat × Nat) :=
  if ds s a ≠ [] ∧ ¬ ((ds s a)[0]? = some 48 ∧ 1 < (ds s a).length) ∧ val 0 (ds s a) ≤ 2147483647 then some (val 0 (ds s a), (ds s a).length) else none
def numV (s : ByteArray) (at_ : Int) : Value := if gvn s at_ = 0 then (match numR s at_.toNat with
  | some (n, c) => .tuple #[.int .i64 n, .int .i64 (at_ + c), flt 0 0]
  | none => .tuple #[.int .i64 0, .int .i64 0, flt at_ 20]) else .tuple #[.int .i64 0, .int .i64 0, flt 0 (gvn s at_)]
theorem numV0 {s : ByteArray} {a : Nat} (hg : gvn s a = 0) : numV s a = (match numR s a with
      | some (n, c) => .tuple #[.int .i64 n, .int .i64 (a + c), flt 0 0]
      | none => .tuple #[.int .i64 0, .int .i64 0, flt a 20]) := by unfold numV; rw [if_pos hg]; rfl
theorem numV1 {s : ByteArray} {a : Int} (hg : gvn s a ≠ 0) : numV s a = .tuple #[.int .i64 0, .int .i64 0, flt 0 (gvn s a)] := by unfold numV; rw [if_neg hg]
theorem byteAt_get {s : ByteArray} {a : Nat} {b : UInt8} (h : (B s)[a]? = some b) : byteAt s a = (b.toNat : Int) := by
  have ⟨hl, he⟩ := List.getElem?_eq_some_iff.1 h
  rw [byteAt_eq s a (by omega) (by rw [Int.toNat_natCast]; exact hl)]
  simp only [Int.toNat_natCast]
  rw [he]

theorem c68 (s : ByteArray) (a : Nat) (h : Heap) : CallsH Tryd.prog 68 #[.string s, .int .i64 a] h (Ret (.bool (((B s)[a]?).any isDig)) h) := by
  have hlen := B_len s
  refine run68 s a _ h ⟨fun _ => ⟨fun h1 => ?_, fun h1 => ?_⟩, fun h0 => by omega⟩
  · have hi : a < (B s).length := by omega
    have hg := List.getElem?_eq_getElem hi
    rw [byteAt_get hg, hg]
    refine ⟨by omega, by omega, fun h2 => ⟨by omega, by omega, fun h3 => ⟨?_, rfl⟩, fun h3 => ⟨?_, rfl⟩⟩, fun h2 => ⟨?_, rfl⟩⟩
    · rw [Option.any_some, isDig_t.2 ⟨by omega, by omega⟩]
    · rw [Option.any_some, isDig_f.2 (by omega)]
    · rw [Option.any_some, isDig_f.2 (by omega)]
  · rw [List.getElem?_eq_none (by omega)]; exact ⟨rfl, rfl⟩

def num0V (s : ByteArray) (a : Nat) : Value := match numR s a with
  | some (n, c) => .tuple #[.int .i64 n, .int .i64 (a + c), .bool true]
  | none => .tuple #[.int .i64 0, .int .i64 0, .bool false]
theorem take_snoc {α : Type} {l : List α} {k : Nat} {b : α} (h : l[k]? = some b) : l.take (k + 1) = l.take k ++ [b] := by
  have ⟨hl, he⟩ := List.getElem?_eq_some_iff.1 h
  rw [List.take_succ_eq_append_getElem hl, he]
theorem num0_none {s : ByteArray} {a : Nat} (h : ¬ (ds s a ≠ [] ∧ ¬ ((ds s a)[0]? = some 48 ∧ 1 < (ds s a).length) ∧ val 0 (ds s a) ≤ 2147483647)) : numR s a = none := if_neg h
theorem c60 (s : ByteArray) (a : Nat) (h : Heap) (hg : gvn s a = 0) : CallsH Tryd.prog 60 #[.string s, .int .i64 a] h (Ret (num0V s a) h) := by
  have ⟨hs, _, ha⟩ := gvn0 hg
  have hlen := B_len s
  have hdl := ds_len s a (by omega)
  refine run60 s a _ h (use (c68 s a h) ⟨_, rfl, ?_⟩)
  have ha0 := ds_any (s := s) (a := a) (k := 0) (by omega)
  rw [Nat.add_zero] at ha0
  rw [ha0]
  by_cases hne' : ¬ 0 < (ds s a).length
  · rw [decide_eq_false hne']
    refine ⟨?_, rfl⟩
    unfold num0V
    rw [num0_none fun hh => hh.1 (List.length_eq_zero_iff.1 (by omega))]
  have hne : 0 < (ds s a).length := Decidable.not_not.1 hne'
  rw [decide_eq_true hne]
  have hne2 : ds s a ≠ [] := fun h0 => by rw [h0] at hne; simp at hne
  obtain ⟨b0, g0, d0, p0⟩ := ds_at hne
  rw [Nat.add_zero] at g0
  have hlt0 := (List.getElem?_eq_some_iff.1 g0).1
  have hloop : ¬ (b0.toNat = 48 ∧ 1 < (ds s a).length) → J60_0 Tryd.prog (Ret (num0V s a) h) s a h := fun hz => by
    have hz2 : ¬ ((ds s a)[0]? = some 48 ∧ 1 < (ds s a).length) := fun ⟨h5, h6⟩ => hz ⟨by rw [d0] at h5; cases h5; rfl, h6⟩
    refine ⟨fun st h' m => ∃ k : Nat, st = (((val 0 ((ds s a).take k) : Nat) : Int), ((a + k : Nat) : Int)) ∧ h' = h ∧ k ≤ (ds s a).length ∧ val 0 ((ds s a).take k) ≤ 2147483647 ∧ m = (ds s a).length - k, ⟨_, 0, rfl, rfl, by omega, by simp [val], rfl⟩, ?_⟩
    rintro st _ m ⟨k, rfl, rfl, hk, hv, rfl⟩
    rename_i h'
    refine use (c68 s (a + k) h') ⟨_, rfl, ?_⟩
    rw [ds_any hk]
    by_cases hk2 : k < (ds s a).length
    · rw [decide_eq_true hk2]
      obtain ⟨b, g1, g2, g3⟩ := ds_at hk2
      have ht := take_snoc g2
      have hv1 : val 0 ((ds s a).take (k + 1)) = val 0 ((ds s a).take k) * 10 + (b.toNat - 48) := by rw [ht, val_app, val_cons]; rfl
      have hb := isDig_t.1 g3
      have hble : val 0 ((ds s a).take (k + 1)) ≤ val 0 (ds s a) := by
        conv => rhs; rw [← List.take_append_drop (k + 1) (ds s a), val_app]
        exact val_ge _ _
      have e1 : IntKind.wrap .i64 ((IntKind.wrap .i64 (((val 0 ((ds s a).take k) : Nat) : Int) * 10)) + (IntKind.wrap .i64 (IntKind.wrap .u8 (((b.toNat : Nat) : Int) - 48)))) = ((val 0 ((ds s a).take (k + 1)) : Nat) : Int) := by
        rw [hv1, wr_u8, w64 (x := ((val 0 ((ds s a).take k) : Nat) : Int) * 10) (by omega) (by omega), w64 (x := (((b.toNat : Nat) : Int) - 48) % 256) (by omega) (by omega), w64 (by omega) (by omega)]; omega
      have e2 : IntKind.wrap .i64 (((a + k : Nat) : Int) + 1) = ((a + (k + 1) : Nat) : Int) := by rw [w64 (by omega) (by omega)]; omega
      refine BIf.t ?_
      unfold J60_2
      simp only [byteAt_get g1, e1, e2]
      refine ⟨by omega, by omega, fun hbig => ⟨?_, rfl⟩, fun hsm => ⟨_, by omega, k + 1, rfl, by trivial, by omega, by omega, rfl⟩⟩
      unfold num0V
      rw [num0_none fun hh => by have := hh.2.2; omega]
    · rw [decide_eq_false hk2]
      have hk3 : k = (ds s a).length := by omega
      subst hk3
      rw [List.take_length] at hv
      refine ⟨?_, rfl⟩
      unfold num0V numR
      rw [if_pos ⟨hne2, hz2, hv⟩, List.take_length]
      simp
  refine ⟨by omega, by omega, fun hz => use (by
      have := c68 s (a + 1) h
      rwa [show ((a + 1 : Nat) : Int) = IntKind.wrap .i64 ((a : Int) + 1) by rw [w64 (by omega) (by omega)]; omega] at this) ⟨_, rfl, ?_⟩, fun hz => hloop ?_⟩
  · rw [byteAt_get g0] at hz
    rw [ds_any (by omega)]
    by_cases h1 : 1 < (ds s a).length
    · rw [decide_eq_true h1]
      refine ⟨?_, rfl⟩
      unfold num0V
      rw [num0_none fun hh => hh.2.1 ⟨by rw [d0]; congr 1; exact UInt8.toNat_inj.1 (by simpa using (by omega : b0.toNat = 48)), h1⟩]
    · rw [decide_eq_false h1]
      exact hloop fun h5 => h1 h5.2
  · rw [byteAt_get g0] at hz
    omega

theorem c33 (s : ByteArray) (at_ : Int) (h : Heap) : CallsH Tryd.prog 33 #[.string s, .int .i64 at_] h (Xt (numV s at_) h) := by
  refine run33 s at_ _ h (frame56 (J := J33_0 Tryd.prog (Xt (numV s at_) h) h s at_) (fun hg h3 f03 => ?_) fun hg h' x => ⟨(numV1 hg).symm, x⟩)
  obtain ⟨a, rfl⟩ : ∃ a : Nat, at_ = a := ⟨at_.toNat, by have := gvn0 hg; omega⟩
  refine use (c60 s a h3 hg) ?_
  rw [numV0 hg]
  unfold num0V
  cases hr : numR s a with
  | some p => exact ⟨_, _, _, rfl, fl f03 _ _ fun h' f _ => ⟨rfl, f.ext⟩⟩
  | none => exact ⟨_, _, _, rfl, BIf.t (useX (c58 _ _ _) fun h5 x5 => ⟨_, _, rfl, fl (f03.upd x5) _ _ fun h' f _ => ⟨rfl, f.ext⟩⟩)⟩

theorem c32 (s : ByteArray) (at_ : Int) (h : Heap) (g : Gl h) : CallsH Tryd.prog 32 #[.string s, .int .i64 at_] h (Xt (numV s at_) h) := by
  refine run32 s at_ _ h (frame44 (J := J32_0 Tryd.prog (Xt (numV s at_) h) h s at_) (fun hg h3 f03 => ?_) fun hg h' x => ⟨(numV1 hg).symm, x⟩)
  obtain ⟨a, rfl⟩ : ∃ a : Nat, at_ = a := ⟨at_.toNat, by have := gvn0 hg; omega⟩
  have ⟨hs, _, ha⟩ := gvn0 hg
  have hlen := B_len s
  have hdl := ds_len s a (by omega)
  rw [numV0 hg]
  have hend : J32_1 Tryd.prog (Xt (match numR s a with
      | some (n, c) => .tuple #[.int .i64 n, .int .i64 (a + c), flt 0 0]
      | none => .tuple #[.int .i64 0, .int .i64 0, flt a 20]) h) h s a ((a + (ds s a).length : Nat) : Int) h3 := by
    have hB : B (s.extract (Int.toNat (a : Int)) (Int.toNat ((a + (ds s a).length : Nat) : Int))) = ds s a := by
      rw [B_extract, Int.toNat_natCast, Int.toNat_natCast, show a + (ds s a).length - a = (ds s a).length by omega, ds_take]
    refine ⟨by omega, by omega, by omega, (c59 _ (by rw [← B_len, hB]; omega) (by rw [hB]; exact ds_all s a) h3 (g.ext f03.ext)).mono ?_⟩
    rintro v h4 ⟨x4, hv⟩
    rw [hB] at hv
    have f04 := f03.upd x4
    rcases hv with ⟨hne, hle, rfl⟩ | ⟨hbad, x, t, p, rfl⟩
    · have hpos : 0 < (ds s a).length := List.length_pos_iff.2 hne
      obtain ⟨b0, g0, d0, p0⟩ := ds_at hpos
      rw [Nat.add_zero] at g0
      have e1 : IntKind.wrap .i64 ((a : Int) + 1) = ((a + 1 : Nat) : Int) := by rw [w64 (by omega) (by omega)]; omega
      have hgood : ¬ (b0.toNat = 48 ∧ 1 < (ds s a).length) → numR s a = some (val 0 (ds s a), (ds s a).length) := fun hz => if_pos ⟨hne, fun ⟨h5, h6⟩ => hz ⟨by rw [d0] at h5; cases h5; rfl, h6⟩, hle⟩
      refine ⟨_, _, rfl, fun _ => ⟨by omega, by omega, fun h48 => ⟨fun hlt => ?_, fun hlt => ?_⟩, fun h48 => ?_⟩, fun h0 => absurd trivial h0⟩
      · rw [byteAt_get g0] at h48
        rw [e1] at hlt
        refine fl f04 _ _ fun h' f _ => ⟨?_, f.ext⟩
        rw [num0_none fun hh => hh.2.1 ⟨by rw [d0]; congr 1; exact UInt8.toNat_inj.1 (by simpa using (by omega : b0.toNat = 48)), by omega⟩]
      · rw [e1] at hlt
        refine fl f04 _ _ fun h' f _ => ⟨?_, f.ext⟩
        rw [hgood (by omega), w64 (by omega) (by omega)]; simp
      · rw [byteAt_get g0] at h48
        refine fl f04 _ _ fun h' f _ => ⟨?_, f.ext⟩
        rw [hgood (by omega), w64 (by omega) (by omega)]; simp
    · refine ⟨_, _, rfl, fun h0 => h0.elim, fun _ => fl f04 _ _ fun h' f _ => ⟨?_, f.ext⟩⟩
      rw [num0_none fun hh => by rcases hbad with hbad | hbad; exact hh.1 hbad; have := hh.2.2; omega]
  refine ⟨fun st h' m => ∃ k : Nat, st = ((a + k : Nat) : Int) ∧ h' = h3 ∧ k ≤ (ds s a).length ∧ m = (ds s a).length - k, ⟨_, 0, rfl, rfl, by omega, rfl⟩, ?_⟩
  rintro st _ m ⟨k, rfl, rfl, hk, rfl⟩
  rename_i h3
  have hany := ds_any hk
  have hfin : k = (ds s a).length → J32_1 Tryd.prog (Xt (match numR s a with
      | some (n, c) => .tuple #[.int .i64 n, .int .i64 (a + c), flt 0 0]
      | none => .tuple #[.int .i64 0, .int .i64 0, flt a 20]) h) h s a ((a + k : Nat) : Int) h3 := fun hk => by rw [hk]; exact hend
  refine ⟨fun h1 => ?_, fun h1 => hfin ?_⟩
  · have hi : a + k < (B s).length := by omega
    have hgt := List.getElem?_eq_getElem hi
    rw [byteAt_get hgt]
    rw [hgt, Option.any_some] at hany
    have e2 : IntKind.wrap .i64 (((a + k : Nat) : Int) + 1) = ((a + (k + 1) : Nat) : Int) := by rw [w64 (by omega) (by omega)]; omega
    have hno : ¬ (48 ≤ (B s)[a + k].toNat ∧ (B s)[a + k].toNat ≤ 57) → k = (ds s a).length := fun h5 => by
      rw [isDig_f.2 h5] at hany
      have := of_decide_eq_false hany.symm
      omega
    refine ⟨by omega, by omega, fun h2 => ⟨by omega, by omega, fun h3 => ?_, fun h3 => hfin (hno (by omega))⟩, fun h2 => hfin (hno (by omega))⟩
    rw [isDig_t.2 ⟨by omega, by omega⟩] at hany
    have := of_decide_eq_true hany.symm
    exact ⟨_, by omega, k + 1, e2, by trivial, by omega, rfl⟩
  · have : (B s)[a + k]? = none := List.getElem?_eq_none (by omega)
    rw [this] at hany
    have := of_decide_eq_false hany.symm
    omega
end Go.Proofs.YtbgjbokcngdnfaaDoor
