/- A run that is cut reaches what it came by. No condition. -/
import Derived.Test.YtpmpacdjcfijbaaGA
import Derived.Test.YtpmpacdjcfijbaaFA
import Derived.Test.YtpmpacdjcfijbaaSN
import Derived.Test.YtpmpacdjcfijbaaPC
set_option linter.unusedVariables false
set_option linter.unusedSimpArgs false
namespace Go.Hx
theorem RdBs.take {h : Heap} {a : Option Addr} {n : Nat} {L : List (List Bool)} (r : RdBs h a n L) {k : Nat} (hk : k ≤ n) : RdBs h a k (L.take k) := by
  obtain ⟨rows, h1, h2, h3⟩ := r.ex
  refine ⟨rows.take k, ?_, fun s hs => h2 s (List.mem_of_mem_take hs), by rw [← h3, List.map_take]⟩
  have := h1.take k hk
  rwa [← List.map_take] at this
end Go.Hx
namespace Go.Proofs.Ytpmpacdjcfijbaa
open Go.Hx Go.Deep
theorem cut_iff {C : Circ} {T : Tr} (hz : (runQ C T).2.2 = 0) {i : Int} (h0 : 0 ≤ i) (h1 : i < C.bads.length) {k : Nat} (hk1 : 1 ≤ k) (hk2 : k ≤ T.ins.length) : (propQ C 98 i ⟨T.init, T.ins.take k, -1⟩).2 = 0 ↔ ∃ M, (runQ C T).1[k - 1]? = some M ∧ i ∈ M.bads := by
  obtain ⟨hc, hf, hQ, hi, hb⟩ := runQ_ok hz
  rw [hQ]
  rw [brkF_none] at hb
  have hf2 : Fit C ⟨T.init, T.ins.take k, -1⟩ := ⟨hf.1, by simp; omega, by have := hf.2.2.1; simp; omega, by simp, by simp; omega, fun r hr => hf.2.2.2.2.2 r (List.mem_of_mem_take hr)⟩
  have hl : (movs C T.init T.ins).length = T.ins.length := movs_len
  obtain ⟨M0, hM⟩ : ∃ M0, (movs C T.init T.ins)[k - 1]? = some M0 := ⟨_, List.getElem?_eq_getElem (show k - 1 < _ by omega)⟩
  have hlast : lastM (movs C T.init (T.ins.take k)) = M0 := by
    rw [movs_take]
    unfold lastM
    rw [List.length_take, hl, Nat.min_eq_left hk2, List.getD_eq_getElem?_getD, List.getElem?_take_of_lt (by omega), hM]; rfl
  rw [bad_iff2 hc hf2, hlast]
  constructor
  · rintro ⟨_, _, _, h⟩
    exact ⟨_, hM, h⟩
  · rintro ⟨M, hM', h⟩
    rw [hM] at hM'
    obtain rfl := Option.some.inj hM'
    exact ⟨⟨h0, h1⟩, hi, fun m hm => hb m (by rw [movs_take] at hm; exact List.mem_of_mem_take hm), h⟩
section
variable {h : Heap} {v : CV} {C : Circ} {w : TV} {T : Tr}
set_option maxRecDepth 4000 in
theorem c6 (r : CIs h v C) (ok : C.Ok) (q : TIs h w T) (hcap : w.s.n ≤ w.s.c) : CallsH Try.prog 6 #[v.v, w.v] h (Xt (.bool true) h) := by
  have qs := q.s.len
  have q4 := r.len.b
  refine run6 v.mx v.i.a v.i.n v.i.c v.l.a v.l.n v.l.c v.o.a v.o.n v.o.c v.b.a v.b.n v.b.c v.c.a v.c.n v.c.c v.j.a v.j.n v.j.c v.f.a v.f.n v.f.c v.g.a v.g.n v.g.c v.s.a v.s.n v.s.c v.m.a v.m.n v.m.c w.i.a w.i.n w.i.c w.s.a w.s.n w.s.c w.lp _ h ?_
  unfold VC6
  intro h1 h2
  have e1 : Ext h h1 := Ext.box h _
  have e2 : Ext h h2 := e1.trans (Ext.push h1 _)
  have hb : Rd h2 (some ⟨h.size, 0, none⟩) 11 v.cs := (boxC v 29).ext (Ext.push h1 _)
  have hw : Rd h2 (some ⟨h1.size, 0, none⟩) 3 w.cs := boxT w 35
  refine useX (c23 h2) fun h3 e3 => ⟨true, rfl, BIf.f ?_⟩
  refine ldC (hb.ext e3) (ldT (hw.ext e3) ((c30 ((r.ext e2).ext e3) ok ((q.ext e2).ext e3)).mono ?_))
  rintro _ h4 ⟨e4, la, ln, lc, rfl, rl⟩
  have e24 := e3.trans e4
  have e04 := e2.trans e24
  have yes : ∀ h', Ext h h' → Xt (.bool true) h (.bool true) h' := fun h' e => ⟨rfl, e⟩
  refine ⟨_, _, _, _, rfl, fun hz => ?_, fun hz => ⟨fun h => absurd h hz, fun _ => ⟨fun _ => yes _ e04, fun hn => absurd ?_ hn⟩⟩⟩
  rotate_left
  · have hR : reachR C T = ([], (runQ C T).2.2) := by
      unfold reachR at hz ⊢
      split
      · rfl
      · rename_i h1; rw [if_neg h1] at hz; exact absurd rfl hz
    have := rl.ilen
    rw [hR] at this
    rw [← this]; rfl
  have hz0 : (runQ C T).2.2 = 0 := by
    unfold reachR at hz
    split at hz
    · exact hz
    · rename_i h1; exact Decidable.not_not.1 h1
  have hRR : reachR C T = (reachL (runQ C T).1, 0) := by unfold reachR; rw [if_neg (by simp [hz0])]
  rw [hRR] at rl
  replace rl : Rd h4 la ln (ints (reachL (runQ C T).1)) := rl
  obtain ⟨hc, hf, hQ, _, _⟩ := runQ_ok hz0
  have hbd := chk_bounds hc
  have hLn : (runQ C T).1.length = T.ins.length := by rw [hQ, movs_len]
  have r2 := r.ext e2
  have q2 := q.ext e2
  refine ⟨_, _, _, (hw.ext e24).fld 1 rfl, fun _ => ⟨fun _ => yes _ e04, fun h => absurd hz h⟩, fun hle => ?_⟩
  refine ⟨_, _, _, (hb.ext e24).fld 4 rfl, ?_⟩
  have hlnl : ln ≤ 1000000000 := by
    have h1 := rl.ilen
    have h2 : (reachL (runQ C T).1).length ≤ 512 * 16384 := by
      unfold reachL
      refine Nat.le_trans compact_len ?_
      rw [List.length_mergeSort]
      refine Nat.le_trans (bads_len fun M hM => ?_) (Nat.mul_le_mul_right _ (by rw [hLn]; exact hf.2.2.1))
      rw [hQ] at hM; exact (movs_mem hc hf.1 hM).2.1
    omega
  refine LoopT.to (n := v.b.n) (by omega) (fun i h' => Ext h2 h' ∧ Ext h4 h') ⟨e24, .refl _⟩ ?_
  rintro i h6 K hi ⟨e26, e46⟩ hK
  refine ⟨fun hlt => ?_, fun hlt => yes _ (e2.trans e26)⟩
  have hib : i < C.bads.length := by omega
  have cut : ∀ k : Nat, 1 ≤ k → k ≤ T.ins.length → ((propQ C 98 i ⟨T.init, T.ins.take k, -1⟩).2 = 0 ↔ ∃ M, (runQ C T).1[k - 1]? = some M ∧ (i : Int) ∈ M.bads) := fun k h1 h2 => cut_iff hz0 (by omega) (by omega) h1 h2
  -- is there one among the first k?
  refine LoopT.from2 (n := w.s.n + 1) (lo := 1) (by omega) (by omega) (fun k t h' => 1 ≤ k ∧ Ext h2 h' ∧ Ext h4 h' ∧ (t = true ↔ ∃ M ∈ (runQ C T).1.take (k - 1), (i : Int) ∈ M.bads)) ⟨Nat.le_refl _, e26, e46, by simp⟩ ?_
  rintro k t h8 K2 hk ⟨hk1, e28, e48, ht⟩ hK2
  refine ⟨_, _, _, (hw.ext e28).fld 1 rfl, fun hle2 => ?_, fun hgt => ?_⟩
  · obtain ⟨M, hM⟩ : ∃ M, (runQ C T).1[k - 1]? = some M := ⟨_, List.getElem?_eq_getElem (show k - 1 < _ by omega)⟩
    have htk : (runQ C T).1.take (k + 1 - 1) = (runQ C T).1.take (k - 1) ++ [M] := by
      rw [show k + 1 - 1 = (k - 1) + 1 by omega, List.take_add_one, hM]; rfl
    have ti : TIs h8 ⟨w.i, ⟨cutA 1 w.s.a w.s.c (Int.toNat 0), Int.toNat (k : Int) - Int.toNat 0, w.s.c - Int.toNat 0⟩, -1⟩ ⟨T.init, T.ins.take k, -1⟩ := ⟨(q2.ext e28).i, by
      simp only
      rw [cutA0]
      exact (q2.ext e28).s.take (k := k) (by omega), rfl⟩
    refine ldC (hb.ext e28) ⟨_, _, _, (hw.ext e28).fld 0 rfl, _, _, _, (hw.ext e28).fld 1 rfl, Int.le_refl _, by omega, by omega, useX (c17 (r2.ext e28) ok ti i) fun h9 e9 => ⟨_, _, rfl, ?_⟩⟩
    have nx : ∀ b : Bool, (b = true ↔ (t = true ∨ (i : Int) ∈ M.bads)) → K2 (b, IntKind.wrap .i64 ((k : Int) + 1)) h9 := fun b hb => hK2 _ _ (by omega) ⟨by omega, e28.trans e9, e48.trans e9, by
      rw [hb, ht, htk]
      constructor
      · rintro (⟨M', hM', h⟩ | h)
        · exact ⟨M', List.mem_append_left _ hM', h⟩
        · exact ⟨M, List.mem_append_right _ (List.mem_singleton.2 rfl), h⟩
      · rintro ⟨M', hM', h⟩
        rcases List.mem_append.1 hM' with hM' | hM'
        · exact .inl ⟨M', hM', h⟩
        · rw [List.mem_singleton] at hM'; subst hM'; exact .inr h⟩
    have hc2 : (propQ C 98 i ⟨T.init, T.ins.take k, -1⟩).2 = 0 ↔ (i : Int) ∈ M.bads := by
      rw [cut k hk1 (by omega), hM]
      simp
    cases ht2 : t with
    | true => exact BIf.t (nx true (by simp [ht2]))
    | false => exact BIf.f ⟨fun he => nx true (by simp [hc2.1 he]), fun he => nx false (by simp [ht2, mt hc2.2 he])⟩
  · have hkn : k = w.s.n + 1 := by omega
    subst hkn
    rw [Nat.add_sub_cancel, List.take_of_length_le (by omega), ← mem_reachL] at ht
    refine LoopT.to2 (n := ln) (by omega) (fun j told h' => h' = h8 ∧ (told = true ↔ (i : Int) ∈ (reachL (runQ C T).1).take j)) ⟨rfl, by simp⟩ ?_
    rintro j told h9 K3 hj ⟨hh, hI⟩ hK3
    replace hh := hh.symm
    subst hh
    refine ⟨fun hlt3 => ?_, fun hge => ?_⟩
    · refine ⟨by omega, hlt3, (rl.ext e48).getn (i := j) (by omega) fun ad hl hc => ⟨_, hc, ?_⟩⟩
      have nx : ∀ b : Bool, (b = true ↔ (told = true ∨ (reachL (runQ C T).1)[j] = (i : Int))) → K3 (b, IntKind.wrap .i64 ((j : Int) + 1)) h8 := fun b hb => hK3 _ _ (by omega) ⟨rfl, by
        rw [hb, hI, List.take_succ_eq_append_getElem hl, List.mem_append, List.mem_singleton]
        exact or_congr_right ⟨Eq.symm, Eq.symm⟩⟩
      cases ht2 : told with
      | true => exact BIf.t (nx true (by simp [ht2]))
      | false => exact BIf.f ⟨fun he => nx true (by simp [he]), fun he => nx false (by simp [ht2, he])⟩
    · have hlr := rl.ilen
      rw [List.take_of_length_le (by omega), ← ht] at hI
      have : t = told := by cases t <;> cases told <;> simp_all
      exact ⟨fun _ => hK _ (by omega) ⟨e28, e48⟩, fun h => absurd this h⟩
end
end Go.Proofs.Ytpmpacdjcfijbaa
