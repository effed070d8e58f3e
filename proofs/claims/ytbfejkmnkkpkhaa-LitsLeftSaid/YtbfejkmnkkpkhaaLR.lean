/- Words and facts that the claim's proof leans on. No condition. -/
import Derived.Test.YtbfejkmnkkpkhaaLP
import Derived.Test.YtbfejkmnkkpkhaaTAc
import Derived.Test.YtbfejkmnkkpkhaaHxN
set_option linter.unusedVariables false
set_option linter.unusedSimpArgs false
namespace Go.Proofs.Ytbfejkmnkkpkhaa
open Go.Hx

/-- What is wrong with an assignment. -/
def Bad (asg : List Int) : Prop := ∃ x, x ∈ asg ∧ -x ∈ asg
open Classical in
noncomputable def wr (asg : List Int) : Int := if 262144 < asg.length then 2 else if asg.all isF = false then 1 else if Bad asg then 4 else 0
theorem wr_2 {asg : List Int} (h : 262144 < asg.length) : wr asg = 2 := by unfold wr; rw [if_pos h]
theorem wr_1 {asg : List Int} (h : ¬ 262144 < asg.length) {x : Int} (hx : x ∈ asg) (hf : isF x = false) : wr asg = 1 := by
  unfold wr
  rw [if_neg h, if_pos]
  cases ha : asg.all isF with
  | false => rfl
  | true => have := List.all_eq_true.1 ha x hx; rw [hf] at this; cases this
theorem wr_4 {asg : List Int} (h : ¬ 262144 < asg.length) (ha : asg.all isF = true) (hb : Bad asg) : wr asg = 4 := by
  unfold wr; rw [if_neg h, if_neg (by rw [ha]; simp), if_pos hb]
theorem wr_0 {asg : List Int} (h : ¬ 262144 < asg.length) (ha : asg.all isF = true) (hb : ¬ Bad asg) : wr asg = 0 := by
  unfold wr; rw [if_neg h, if_neg (by rw [ha]; simp), if_neg hb]
/-- What Rest hands back. -/
def RR (l asg q : List Int) (ok : Bool) (e : Int) : Prop :=
  (chk l ≠ 0 ∧ q = [] ∧ ok = false ∧ e = chk l) ∨ (chk l = 0 ∧ wr asg ≠ 0 ∧ q = [] ∧ ok = false ∧ e = wr asg) ∨ (chk l = 0 ∧ wr asg = 0 ∧ Taut l ∧ q = [] ∧ ok = false ∧ e = 10) ∨
  (chk l = 0 ∧ wr asg = 0 ∧ e = 0 ∧ ∃ n, NF l n ∧ ((∃ x ∈ n, x ∈ asg) ∧ q = [] ∧ ok = true ∨ (∀ x ∈ n, x ∉ asg) ∧ q = n.filter (fun x => decide (-x ∉ asg)) ∧ ok = false))
theorem RR.unique {l asg q q' : List Int} {ok ok' : Bool} {e e' : Int} (h : RR l asg q ok e) (k : RR l asg q' ok' e') : q = q' ∧ ok = ok' ∧ e = e' := by
  rcases h with ⟨h1, rfl, rfl, rfl⟩ | ⟨h1, h2, rfl, rfl, rfl⟩ | ⟨h1, h2, h3, rfl, rfl, rfl⟩ | ⟨h1, h2, rfl, n, h3, h4⟩ <;> rcases k with ⟨k1, rfl, rfl, rfl⟩ | ⟨k1, k2, rfl, rfl, rfl⟩ | ⟨k1, k2, k3, rfl, rfl, rfl⟩ | ⟨k1, k2, rfl, n', k3, k4⟩
  · exact ⟨rfl, rfl, rfl⟩
  · exact absurd k1 h1
  · exact absurd k1 h1
  · exact absurd k1 h1
  · exact absurd h1 k1
  · exact ⟨rfl, rfl, rfl⟩
  · exact absurd k2 h2
  · exact absurd k2 h2
  · exact absurd h1 k1
  · exact absurd h2 k2
  · exact ⟨rfl, rfl, rfl⟩
  · exact absurd h3 (k3.not_taut (chk_0 h1).1)
  · exact absurd h1 k1
  · exact absurd h2 k2
  · exact absurd k3 (h3.not_taut (chk_0 h1).1)
  · obtain rfl := h3.unique k3
    rcases h4 with ⟨⟨x, hx, hxa⟩, rfl, rfl⟩ | ⟨h5, rfl, rfl⟩ <;> rcases k4 with ⟨⟨y, hy, hya⟩, rfl, rfl⟩ | ⟨k5, rfl, rfl⟩
    · exact ⟨rfl, rfl, rfl⟩
    · exact absurd hxa (k5 x hx)
    · exact absurd hya (h5 y hy)
    · exact ⟨rfl, rfl, rfl⟩
theorem RR.len {l asg q : List Int} {ok : Bool} {e : Int} (h : RR l asg q ok e) : q.length ≤ 16384 := by
  rcases h with ⟨h1, rfl, rfl, rfl⟩ | ⟨h1, h2, rfl, rfl, rfl⟩ | ⟨h1, h2, h3, rfl, rfl, rfl⟩ | ⟨h1, h2, rfl, n, h3, h4⟩
  · simp
  · simp
  · simp
  · rcases h4 with ⟨_, rfl, rfl⟩ | ⟨_, rfl, rfl⟩
    · simp
    · have := h3.len; have := (chk_0 h1).2; have := List.length_filter_le (fun x => decide (-x ∉ asg)) n; omega
def RRes (h : Heap) (l asg : List Int) (v : Value) (h' : Heap) : Prop := ∃ q ok e a c, RR l asg q ok e ∧ Fr h 1 h' a q.length c (ints q) ∧ v = .tuple #[.slice a q.length c, .bool ok, .int .i64 e]
theorem RRes.nil {h h' : Heap} {l asg : List Int} {ok : Bool} {e : Int} (x : Ext h h') (r : RR l asg [] ok e) : RRes h l asg (.tuple #[.slice none 0 0, .bool ok, .int .i64 e]) h' := ⟨[], ok, e, none, 0, r, .nil x, rfl⟩

theorem Rd.olds {h0 h : Heap} {a : Option Addr} {n : Nat} {vs : List Value} (r : Rd h0 a n vs) {S : Nat → Prop} (hb : ∀ b, S b → h0.size ≤ b) {h' : Heap} (x : Ext h0 h) (u : Upd S h h') : Rd h' a n vs := by
  cases a with
  | none => exact ⟨r.read, r.len⟩
  | some ad =>
    refine ⟨fun i v hv => ?_, r.len⟩
    have hc := r.read i v hv
    have hlt := cellH_lt hc
    rw [add_block] at hlt
    refine u.cell ?_ (x.cell hc)
    rw [add_block]
    intro hs
    have := hb _ hs
    omega
theorem app1' {h0 h : Heap} {a : Option Addr} {n c : Nat} {vs : List Value} (f : Fr h0 1 h a n c vs) {v : Value} (hv : v.oneCell' = true) {e e' : TypeId} {bytes : Nat} {z : Array Value} (hb : (n + 1) * bytes ≤ 140737488355328)
    {K : Option Addr → Nat → Nat → Heap → Prop} (hK : ∀ a' c' h', Fr h0 1 h' a' (n + 1) c' (vs ++ [v]) → Upd (atb a) h h' → K a' (n + 1) c' h') :
    ∃ ys : List Value, ReadL (h.push (.cells #[v] e)) (some (Addr.mk h.size 0 none)) ys ∧ ys.length = 1 * 1 ∧ AppS (h.push (.cells #[v] e)) a n c e' bytes 1 z ys 1 K := by
  have r := (Fr.lit (.refl h) [v] e 1 rfl).rd
  exact ⟨[v], r.read, rfl, (f.upd (Ext.push h (.cells #[v] e))).app rfl (by simpa using hv) hb fun a' c' h' f' u _ => hK a' c' h' f' ((Upd.wide (Ext.push _ _)).trans u)⟩
theorem negw {x : Int} (hx : isF x = true) : IntKind.wrap .i64 (0 - x) = -x := by have := isF_t.1 hx; rw [w64 (by omega) (by omega)]; omega
theorem e_s {k : Nat} (h : k < 4611686018427387904) : IntKind.wrap .i64 ((k : Int) + 1) = ((k + 1 : Nat) : Int) := by rw [w64 (by omega) (by omega)]; omega

theorem c31 {cA : Option Addr} {cN cC : Nat} {l : List Int} {aA : Option Addr} {aN aC : Nat} {asg : List Int} {h : Heap} (rl : Rd h cA cN (ints l)) (ra : Rd h aA aN (ints asg)) :
    CallsH Try.prog 31 #[.slice cA cN cC, .slice aA aN aC] h (RRes h l asg) := by
  have e1 : l.length = cN := by have := rl.len; simpa using this
  have e2 : asg.length = aN := by have := ra.len; simpa using this
  refine run31 cA cN cC aA aN aC _ h (use (c43 rl) ⟨_, rfl, fun hc => ⟨fun hm => ?_, fun hm => ?_⟩, fun hc => ?_⟩)
  · have w2 := wr_2 (asg := asg) (by omega)
    exact .nil (.refl _) (.inr (.inl ⟨hc, by rw [w2]; decide, rfl, rfl, w2.symm⟩))
  rotate_left
  · exact .nil (.refl _) (.inl ⟨hc, rfl, rfl, rfl⟩)
  have hna : ¬ 262144 < asg.length := by omega
  obtain ⟨hlf, hll⟩ := chk_0 hc
  unfold J31_1
  intro h_3
  have m0 : IsMap h_3 h.size [] := by unfold IsMap; exact push_at _ _
  have x3 : Ext h h_3 := Ext.push _ _
  refine ⟨fun st h' m => ∃ (k : Nat) (ks : List Int), st = (k : Int) ∧ k ≤ aN ∧ IsMap h' h.size ks ∧ Ext h h' ∧ (∀ x, x ∈ ks ↔ x ∈ asg.take k) ∧ ks.length ≤ k ∧ (∀ x ∈ asg.take k, isF x = true) ∧ m = aN - k, ⟨aN, 0, [], rfl, by omega, m0, x3, by simp, by simp, by simp, rfl⟩, ?_⟩
  rintro st h4 m ⟨k, ks, rfl, hk, m4, x4, hks, hkl, hkf, rfl⟩
  have ra4 := ra.ext x4
  refine ⟨fun hlt => ?_, fun hge => ?_⟩
  · have hk2 : k < asg.length := by omega
    unfold J31_3
    refine ⟨by omega, by omega, ra4.geti (j := (k : Int)) (by omega) (by omega) fun ad hl hcell => ⟨_, hcell, use (c38 _ h4) ⟨_, rfl, ?_⟩⟩⟩
    simp only [Int.toNat_natCast, e_s (show k < 4611686018427387904 by omega)] at hl hcell ⊢
    have htake : asg.take (k + 1) = asg.take k ++ [asg[k]] := List.take_succ_eq_append_getElem hk2
    cases hf : isF asg[k] with
    | false =>
      have w1 := wr_1 hna (List.getElem_mem hk2) hf
      exact .nil x4 (.inr (.inl ⟨hc, by rw [w1]; decide, rfl, rfl, w1.symm⟩))
    | true =>
      refine BIf.f (m4.put _ fun h7 ks' m7 u7 hk7 hl7 => ⟨_, by omega, k + 1, ks', rfl, by omega, m7, x4.newer u7 fun i hi he => by omega, ?_, by omega, ?_, rfl⟩)
      · intro x; rw [hk7, hks, htake, List.mem_append, List.mem_singleton]
      · intro x hx
        rw [htake] at hx
        rcases List.mem_append.1 hx with hx | hx
        · exact hkf x hx
        · rw [List.mem_singleton.1 hx]; exact hf
  · rw [List.take_of_length_le (by omega)] at hks hkf
    have haf : asg.all isF = true := List.all_eq_true.2 hkf
    have hkF : ∀ x ∈ ks, isF x = true := fun x hx => hkf x ((hks x).1 hx)
    unfold J31_2
    refine m4.range fun h9 m9 it9 x9 => ?_
    have hne : h4.size ≠ h.size := Nat.ne_of_gt m4.lt
    have x49 : Ext h h9 := x4.trans x9
    refine ⟨fun _ h' m => ∃ seen : Array Nat, IsMap h' h.size ks ∧ IsIter h' h4.size h.size ks.length seen ∧ Upd (fun i => i = h4.size) h9 h' ∧ (∀ i (hi : i < ks.length), i ∈ seen → -ks[i] ∉ ks) ∧ m = ((List.range ks.length).filter fun i => decide (i ∉ seen)).length, ⟨_, #[], m9, it9, .refl _, by simp, rfl⟩, ?_⟩
    rintro _ h' m ⟨seen, m', it', u', hseen, rfl⟩
    have x' : Ext h h' := x49.newer u' fun i hi he => by have := x4.1; omega
    unfold B31_14
    refine ⟨rfl, m'.next it' hne (fun hall => ?_) fun i hi hns h22 m22 it22 u22 hent => ?_⟩
    · have hnb : ¬ Bad asg := by
        rintro ⟨x, hx, hnx⟩
        obtain ⟨i, hi, rfl⟩ := List.getElem_of_mem ((hks x).2 hx)
        exact hseen i hi (hall i hi) ((hks _).2 hnx)
      have w0 := wr_0 hna haf hnb
      unfold J31_5
      refine (c44 (rl.ext x') hlf (by omega)).mono ?_
      rintro v h12 ⟨x12, ⟨ht, rfl⟩ | ⟨q, a, c, hq, fq, rfl⟩⟩
      · exact ⟨_, _, _, _, rfl, .nil (x'.trans x12) (.inr (.inr (.inl ⟨hc, w0, ht, rfl, rfl, rfl⟩)))⟩
      · refine ⟨_, _, _, _, rfl, BIf.f ?_⟩
        have m12 : IsMap h12 h.size ks := m'.upd x12 fun h => h
        have hql := hq.len
        have hqf : ∀ x ∈ q, isF x = true := fun x hx => List.all_eq_true.1 hlf x ((hq.2 x).1 hx)
        have y12 : Ext h h12 := x'.trans x12
        have mlt := m'.lt
        refine ⟨fun st h' m => ∃ (k : Nat) (oA : Option Addr) (c : Nat) (p : List Int), st = ((oA, p.length, c), (k : Int)) ∧ k ≤ q.length ∧ Fr h12 1 h' oA p.length c (ints p) ∧ p = (q.take k).filter (fun x => decide (-x ∉ asg)) ∧ (∀ x ∈ q.take k, x ∉ asg) ∧ m = q.length - k, ⟨q.length, 0, none, 0, [], rfl, by omega, .nil (.refl _), by simp, by simp, rfl⟩, ?_⟩
        rintro st h15 m ⟨k, oA, c', p, rfl, hk, fp, hp, hno, rfl⟩
        have m15 : IsMap h15 h.size ks := m12.upd fp.ext fun h => h
        have hpl : p.length ≤ k := by rw [hp]; exact Nat.le_trans (List.length_filter_le _ _) (by simp; omega)
        refine ⟨fun hlt => ?_, fun hge => ?_⟩
        · simp only at hlt
          have hkq : k < q.length := by omega
          unfold J31_9
          refine ⟨by simp only; omega, by simp only; omega, (fq.rd.ext fp.ext).geti (j := (k : Int)) (by omega) (by omega) fun ad hl hcell => ⟨_, hcell, ?_⟩⟩
          simp only [Int.toNat_natCast] at hl hcell ⊢
          have hF := hqf _ (List.getElem_mem hkq)
          have htake : q.take (k + 1) = q.take k ++ [q[k]] := List.take_succ_eq_append_getElem hkq
          have y15 : Ext h h15 := y12.trans fp.ext
          refine m15.look _ (fun hnot => ⟨fun h0 => absurd h0 (by decide), fun _ => ?_⟩) (fun hin => ⟨1, rfl, fun _ => ?_, fun h0 => absurd (by decide) h0⟩)
          · have hnot' : q[k] ∉ asg := fun hh => hnot ((hks _).2 hh)
            have hno' : ∀ x ∈ q.take (k + 1), x ∉ asg := fun x hx => by
              rw [htake] at hx
              rcases List.mem_append.1 hx with hx | hx
              · exact hno x hx
              · rw [List.mem_singleton.1 hx]; exact hnot'
            unfold J31_10
            simp only [negw hF, e_s (show k < 4611686018427387904 by omega)]
            refine m15.look _ (fun hn2 => ⟨fun _ => ?_, fun h0 => absurd trivial h0⟩) (fun hin => ⟨1, rfl, fun h0 => absurd h0 (by decide), fun _ => ⟨_, by omega, k + 1, oA, c', p, rfl, by omega, fp, ?_, hno', rfl⟩⟩)
            · refine app1' fp rfl (by omega) fun a' c'' h' f' _ => ⟨_, by omega, k + 1, a', c'', p ++ [q[k]], by simp, by omega, by simpa using f', ?_, hno', rfl⟩
              rw [htake, List.filter_append, ← hp]
              simp only [List.filter_cons, List.filter_nil]
              rw [if_pos]
              exact decide_eq_true fun hh => hn2 ((hks _).2 hh)
            · rw [htake, List.filter_append, ← hp]
              simp only [List.filter_cons, List.filter_nil]
              rw [if_neg]
              · simp
              · simp only [decide_eq_true_eq]
                exact fun hh => hh ((hks _).1 hin)
          · exact .nil y15 (.inr (.inr (.inr ⟨hc, w0, rfl, q, hq, .inl ⟨⟨_, List.getElem_mem hkq, (hks _).1 hin⟩, rfl, rfl⟩⟩)))
        · simp only at hge
          rw [List.take_of_length_le (by omega)] at hp hno
          exact ⟨p, false, 0, oA, c', .inr (.inr (.inr ⟨hc, w0, rfl, q, hq, .inr ⟨hno, hp, rfl⟩⟩)), ⟨fp.own, fun ad ha => Nat.le_trans y12.1 (fp.new ad ha), y12.trans fp.ext⟩, rfl⟩
    · refine ⟨_, rfl, _, rfl, ?_⟩
      unfold J31_13
      refine ⟨rfl, hent _ ⟨_, rfl, _, rfl, ?_⟩⟩
      have hF := hkF _ (List.getElem_mem hi)
      rw [negw hF]
      have x22 : Ext h h22 := x'.newer u22 fun i hi he => by have := x4.1; omega
      refine m22.look _ (fun hnot => ⟨fun h0 => absurd h0 (by decide), fun _ => ⟨_, ?_, seen.push i, m22, it22, u'.trans u22, ?_, rfl⟩⟩) (fun hin => ⟨1, rfl, fun _ => ?_, fun h0 => absurd (by decide) h0⟩)
      · have hlt : ((List.range ks.length).filter fun j => decide (j ∉ seen.push i)).length < ((List.range ks.length).filter fun j => decide (j ∉ seen)).length := by
          have hsub : (List.range ks.length).filter (fun j => decide (j ∉ seen.push i)) = ((List.range ks.length).filter fun j => decide (j ∉ seen)).filter fun j => decide (j ≠ i) := by
            rw [List.filter_filter]
            apply List.filter_congr
            intro j _
            simp [Array.mem_push, not_or, and_comm]
          rw [hsub]
          apply List.length_filter_lt_length_iff_exists.2
          exact ⟨i, by simp [hi, hns], by simp⟩
        exact hlt
      · intro j hj hjs
        rcases Array.mem_push.1 hjs with hjs | rfl
        · exact hseen j hj hjs
        · exact hnot
      · have hb : Bad asg := ⟨_, (hks _).1 (List.getElem_mem hi), (hks _).1 hin⟩
        have w4 := wr_4 hna haf hb
        exact .nil x22 (.inr (.inl ⟨hc, by rw [w4]; decide, rfl, rfl, w4.symm⟩))
end Go.Proofs.Ytbfejkmnkkpkhaa
