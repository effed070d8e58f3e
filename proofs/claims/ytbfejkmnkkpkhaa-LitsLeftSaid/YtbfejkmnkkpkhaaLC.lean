/- Words and facts that the claim's proof leans on. No condition. -/
import Derived.Test.YtbfejkmnkkpkhaaLB
set_option linter.unusedVariables false
set_option linter.unusedSimpArgs false
namespace Go.Proofs.Ytbfejkmnkkpkhaa
open Go.Hx

theorem cutA_zero (a : Option Addr) (sz c : Nat) : cutA sz a c (Int.toNat 0) = a := cut_zero a sz c

theorem c62 {a : Option Addr} {n c : Nat} (hc : n ≤ c) (h : Heap) : CallsH Try.prog 62 #[.slice a n c] h (Ret (.slice a n n) h) := by
  refine run62 a n c _ h ⟨by omega, by omega, by omega, by omega, ?_⟩
  rw [cutA_zero]
  exact ⟨rfl, rfl⟩

/-- The first m of a list, without what stands behind its like. -/
def ddn (r : List Int) : Nat → List Int
  | 0 => []
  | m + 1 => if 0 < m ∧ r[m]? = r[m - 1]? then ddn r m else ddn r m ++ (r[m]?).toList
theorem ddn_len (r : List Int) : ∀ m, (ddn r m).length ≤ m
  | 0 => Nat.le_refl _
  | m + 1 => by
    have := ddn_len r m
    unfold ddn
    split
    · omega
    · rw [List.length_append]
      have : (r[m]?).toList.length ≤ 1 := by cases r[m]? <;> simp
      omega

theorem Own.setL {h h' : Heap} {a : Option Addr} {n c : Nat} {vs ws : List Value} (o : Own 1 h a n c vs) (e : vs = ws) : Own 1 h a n c ws := e ▸ o

theorem zr_len (z : Array Value) (n : Nat) : (zeroRow z n).length = n := zeroRow_len z n
theorem zr_one (n : Nat) : ∀ y ∈ zeroRow #[.int .i64 0] n, y.oneCell' = true := by
  intro y hy
  simp only [zeroRow, List.mem_map, List.mem_range] at hy
  obtain ⟨i, hi, rfl⟩ := hy
  have : i % (#[Value.int .i64 0] : Array Value).size = 0 := Nat.mod_one i
  rw [this]; rfl

theorem c61 {a : Option Addr} {n c : Nat} {r : List Int} {h : Heap} (o : Own 1 h a n c (ints r)) (hn : n ≤ 4611686018427387904) : CallsH Try.prog 61 #[.slice a n c] h fun v h' =>
    v = .slice a (ddn r n).length c ∧ Upd (atb a) h h' ∧ Own 1 h' a (ddn r n).length c (ints (ddn r n)) := by
  have hlen : r.length = n := by have := o.rd.len; simpa using this
  have hcap := o.cap
  have same : ddn r n = r → (Value.slice a n c = .slice a (ddn r n).length c ∧ Upd (atb a) h h ∧ Own 1 h a (ddn r n).length c (ints (ddn r n))) := by
    intro e
    rw [e, hlen]
    exact ⟨rfl, .refl _, o⟩
  refine run61 a n c _ h ⟨fun hlt => same ?_, fun hge => ?_⟩
  · match r, hlen with
    | [], hl => subst hl; rfl
    | [x], hl => subst hl; rfl
    | _ :: _ :: _, hl => simp at hl; omega
  refine ⟨fun k h' m => h' = h ∧ 1 ≤ k ∧ k ≤ n ∧ m = (n - k).toNat ∧ ddn r k.toNat = r.take k.toNat, ⟨_, rfl, Int.le_refl _, by omega, rfl, ?_⟩, ?_⟩
  · match r with
    | [] => rfl
    | x :: r => simp [ddn]
  rintro k _ _ ⟨rfl, h1, hk, rfl, hd⟩
  rename_i h
  refine ⟨fun hlt => ?_, fun hge => ?_⟩
  · have hkl : k.toNat < r.length := by omega
    have hkl1 : (k - 1).toNat < r.length := by omega
    have e1 : IntKind.wrap .i64 (k - 1) = k - 1 := w64 (by omega) (by omega)
    unfold J61_2
    rw [e1]
    refine ⟨by omega, hlt, o.rd.geti (by omega) (by omega) fun ad _ hc0 => ⟨_, hc0, by omega, by omega, o.rd.geti (by omega) (by omega) fun ad1 _ hc1 => ⟨_, hc1, ?_⟩⟩⟩
    have step : ddn r (k.toNat + 1) = if 0 < k.toNat ∧ r[k.toNat] = r[(k - 1).toNat] then ddn r k.toNat else ddn r k.toNat ++ [r[k.toNat]] := by
      show (if 0 < k.toNat ∧ r[k.toNat]? = r[k.toNat - 1]? then _ else _) = _
      have : k.toNat - 1 = (k - 1).toNat := by omega
      rw [this, List.getElem?_eq_getElem hkl, List.getElem?_eq_getElem hkl1]
      simp only [Option.some.injEq, Option.toList_some]
    refine ⟨fun heq => ⟨by omega, by omega, by omega, ?_⟩, fun hne => ?_⟩
    · -- the first that stands behind its like
      refine ⟨fun (st : Int × Int) h' m => st.1 = (ddn r (k + st.2).toNat).length ∧ 1 ≤ st.2 ∧ k + st.2 ≤ n ∧ st.1 ≤ k + st.2 - 1 ∧ m = (n - k - st.2).toNat ∧ Upd (atb a) h h' ∧
          Own 1 h' a n c (ints (ddn r (k + st.2).toNat ++ r.drop st.1.toNat)), ⟨_, ?_, Int.le_refl _, by show k + 1 ≤ n; omega, by show k ≤ k + 1 - 1; omega, rfl, .refl _, ?_⟩, ?_⟩
      · show k = _
        rw [show (k + 1).toNat = k.toNat + 1 by omega, step, if_pos ⟨by omega, heq⟩, hd, List.length_take]
        omega
      · show Own 1 h a n c (ints (ddn r (k + 1).toNat ++ r.drop k.toNat))
        rw [show (k + 1).toNat = k.toNat + 1 by omega, step, if_pos ⟨by omega, heq⟩, hd, List.take_append_drop]
        exact o
      · rintro ⟨k1, k2⟩ h' _ ⟨hk1, h2, hle, hk12, rfl, hu, ho⟩
        simp only at hk1 h2 hle hk12 ho
        have hP : (ddn r (k + k2).toNat).length = k1.toNat := by omega
        have hrl := hlen
        -- the cells of the rest
        have hcut := ho.rd.cutA (sz := 1) (c := c) k.toNat (n - k.toNat) (by omega) (by omega)
        have hrest : ∀ j : Int, k1 - k ≤ j → 0 ≤ j → j < n - k → AtP (cutA 1 a c k.toNat) fun ad => cellH h' (ad.add (j.toNat * 1)) = some (.int .i64 (r.getD (k + j).toNat 0)) := by
          intro j hj0 hj1 hj2
          have hv : ((ints (ddn r (k + k2).toNat ++ r.drop k1.toNat)).drop (k.toNat * 1)).take (n - k.toNat) = ((ints (ddn r (k + k2).toNat ++ r.drop k1.toNat)).drop (k.toNat * 1)).take (n - k.toNat) := rfl
          have := hcut.at (i := j.toNat) (v := .int .i64 (r.getD (k + j).toNat 0)) (by
            rw [List.getElem?_take_of_lt (by omega), List.getElem?_drop, List.getElem?_map, Nat.mul_one]
            rw [List.getElem?_append_right (by omega), hP, List.getElem?_drop, show k1.toNat + (k.toNat + j.toNat - k1.toNat) = (k + j).toNat by omega]
            rw [List.getElem?_eq_getElem (by omega), List.getD_eq_getElem?_getD, List.getElem?_eq_getElem (by omega)]
            rfl)
          cases hca : cutA 1 a c k.toNat with
          | none => rw [hca] at this; exact this.elim
          | some ad => rw [hca] at this; rw [Nat.mul_one]; exact this
        refine ⟨fun hlt2 => ?_, fun hge2 => ?_⟩
        · unfold J61_5
          have e2 : IntKind.wrap .i64 (k2 - 1) = k2 - 1 := w64 (by omega) (by omega)
          have e3 : IntKind.wrap .i64 (k2 + 1) = k2 + 1 := w64 (by omega) (by omega)
          have e4 : IntKind.wrap .i64 (k1 + 1) = k1 + 1 := w64 (by omega) (by omega)
          rw [e2, e3, e4]
          have hr2 := hrest k2 (by omega) (by omega) (by omega)
          have hr1 := hrest (k2 - 1) (by omega) (by omega) (by omega)
          refine ⟨by omega, by omega, ?_⟩
          cases hca : cutA 1 a c k.toNat with
          | none => rw [hca] at hr2; exact hr2.elim
          | some ad =>
            rw [hca] at hr2 hr1
            have hm : (k + k2).toNat < r.length := by omega
            have hm1 : (k + (k2 - 1)).toNat < r.length := by omega
            have g2 : r.getD (k + k2).toNat 0 = r[(k + k2).toNat] := by rw [List.getD_eq_getElem?_getD, List.getElem?_eq_getElem hm]; rfl
            have g1 : r.getD (k + (k2 - 1)).toNat 0 = r[(k + (k2 - 1)).toNat] := by rw [List.getD_eq_getElem?_getD, List.getElem?_eq_getElem hm1]; rfl
            have step2 : ddn r ((k + k2).toNat + 1) = if r[(k + k2).toNat] = r[(k + (k2 - 1)).toNat] then ddn r (k + k2).toNat else ddn r (k + k2).toNat ++ [r[(k + k2).toNat]] := by
              show (if 0 < (k + k2).toNat ∧ r[(k + k2).toNat]? = r[(k + k2).toNat - 1]? then _ else _) = _
              have : (k + k2).toNat - 1 = (k + (k2 - 1)).toNat := by omega
              rw [this]
              have h0 : 0 < (k + k2).toNat := by omega
              rw [List.getElem?_eq_getElem hm, List.getElem?_eq_getElem hm1]
              simp only [Option.some.injEq, Option.toList_some, h0, true_and]
            refine ⟨_, hr2, by omega, by omega, _, hr1, ?_⟩
            rw [g2, g1]
            refine ⟨fun he => ?_, fun hne => ?_⟩
            · refine ⟨_, ?_, ?_, ?_, ?_, ?_, rfl, hu, ?_⟩
              · show _ < _; omega
              · show k1 = _; rw [show (k + (k2 + 1)).toNat = (k + k2).toNat + 1 by omega, step2, if_pos he]; exact hk1
              · show 1 ≤ k2 + 1; omega
              · show k + (k2 + 1) ≤ n; omega
              · show k1 ≤ k + (k2 + 1) - 1; omega
              · show Own 1 h' a n c (ints (ddn r (k + (k2 + 1)).toNat ++ r.drop k1.toNat))
                rw [show (k + (k2 + 1)).toNat = (k + k2).toNat + 1 by omega, step2, if_pos he]; exact ho
            · refine ⟨by omega, by omega, ?_⟩
              refine ⟨r[(k + k2).toNat], by rw [← g2]; exact hr2, by omega, by omega, ho.set1 (by omega) (by omega) rfl fun h2' u2 o2 => ?_⟩
              refine ⟨_, ?_, ?_, ?_, ?_, ?_, rfl, hu.trans u2, ?_⟩
              · show _ < _; omega
              · show k1 + 1 = _; rw [show (k + (k2 + 1)).toNat = (k + k2).toNat + 1 by omega, step2, if_neg hne, List.length_append]; simp; omega
              · show 1 ≤ k2 + 1; omega
              · show k + (k2 + 1) ≤ n; omega
              · show k1 + 1 ≤ k + (k2 + 1) - 1; omega
              · show Own 1 h2' a n c (ints (ddn r (k + (k2 + 1)).toNat ++ r.drop (k1 + 1).toNat))
                rw [show (k + (k2 + 1)).toNat = (k + k2).toNat + 1 by omega, step2, if_neg hne]
                refine Own.setL (h' := h2') o2 ?_
                apply List.ext_getElem?
                intro i
                rw [List.getElem?_set]
                simp only [List.getElem?_map, List.length_map, List.length_append, List.length_drop]
                rw [show (k1 + 1).toNat = k1.toNat + 1 by omega]
                by_cases hi : k1.toNat = i
                · subst hi
                  rw [if_pos rfl, if_pos (by omega), List.append_assoc, List.getElem?_append_right (by omega), hP, Nat.sub_self]
                  simp
                · rw [if_neg hi]
                  by_cases hi2 : i < k1.toNat
                  · rw [List.getElem?_append_left (by omega), List.append_assoc, List.getElem?_append_left (by omega)]
                  · rw [List.getElem?_append_right (by omega), List.getElem?_append_right (by simp; omega), hP, List.length_append, hP]
                    simp only [List.getElem?_drop, List.length_cons, List.length_nil]
                    congr 2
                    omega
        · -- the end
          have hkk : (k + k2).toNat = n := by omega
          unfold J61_4
          rw [hkk] at ho hP hk1
          refine ⟨by omega, by omega, by omega, ?_⟩
          cases a with
          | none => have : c = 0 := ho.mem; omega
          | some ad =>
            have hca : cutA 1 (some ad) c k1.toNat = some (ad.add (k1.toNat * 1)) := by unfold cutA; rw [if_neg (by omega)]; rfl
            rw [hca]
            have hzl : (zeroRow #[.int .i64 0] ((Int.toNat ((n : Nat) : Int) - k1.toNat) * 1)).length = n - k1.toNat := by rw [zr_len]; omega
            refine CpyH.some (ho.write (k1.toNat * 1) _ (by rw [hzl]; omega) (zr_one _) ?_)
            intro h2 u2 w2
            refine ⟨by omega, by omega, by omega, ?_⟩
            rw [cutA_zero]
            refine ⟨?_, hu.trans (u2.mono fun i _ hi => ⟨ad, rfl, hi⟩), ?_⟩
            · show Value.slice _ (k1.toNat - 0) (c - 0) = _
              rw [hP, Nat.sub_zero, Nat.sub_zero]
            · rw [hP]
              refine w2 _ _ (by simp [hP]) (by omega) fun i hi => ?_
              rw [if_neg (by omega)]
              simp only [ints, List.map_append]
              rw [List.getElem?_append_left (by simp; omega)]
    · refine ⟨_, ?_, rfl, ?_, ?_, rfl, ?_⟩
      · rw [w64 (by omega) (by omega)]; omega
      · rw [w64 (by omega) (by omega)]; omega
      · rw [w64 (by omega) (by omega)]; omega
      · rw [w64 (by omega) (by omega), show (k + 1).toNat = k.toNat + 1 by omega, step, if_neg (fun hh => hne hh.2), hd, List.take_succ_eq_append_getElem hkl]
  · refine same ?_
    have : k.toNat = n := by omega
    rw [this, List.take_of_length_le (by omega)] at hd
    exact hd
end Go.Proofs.Ytbfejkmnkkpkhaa
