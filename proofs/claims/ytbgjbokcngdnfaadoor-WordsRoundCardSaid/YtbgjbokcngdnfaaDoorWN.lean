/- Words and facts that the claim's proof leans on. No condition. -/
import Derived.Test.YtbgjbokcngdnfaaDoorWM
set_option linter.unusedVariables false
set_option linter.unusedSimpArgs false
namespace Go.Proofs.YtbgjbokcngdnfaaDoor
open Go.Hx

/-! ### A shift by a and one by b -/
theorem shR_twice {row : List Bool} {a b : Int} (h : (0 ≤ a ∧ 0 ≤ b) ∨ (a ≤ 0 ∧ b ≤ 0)) : shR (shR row a) b = shR row (a + b) := by
  apply List.ext_getElem?
  intro i
  by_cases hi : i < row.length
  · rw [shR_at (by rw [shR_len]; exact hi), shR_at hi]
    congr 1
    unfold shB
    by_cases h1 : (i : Int) < b
    · rw [if_pos h1, if_pos (by omega)]
    · rw [if_neg h1]
      by_cases h2 : ((i : Int) - b).toNat < row.length
      · rw [List.getD_eq_getElem?_getD, shR_at h2, Option.getD_some]
        unfold shB
        by_cases h3 : (i : Int) < a + b
        · rw [if_pos h3, if_pos (by omega)]
        · rw [if_neg h3, if_neg (by omega)]
          congr 1
          omega
      · rw [getD_ge (by rw [shR_len]; omega)]
        by_cases h3 : (i : Int) < a + b
        · rw [if_pos h3]
        · rw [if_neg h3, getD_ge (by omega)]
  · rw [List.getElem?_eq_none (by rw [shR_len, shR_len]; omega), List.getElem?_eq_none (by rw [shR_len]; omega)]
theorem sum_zero (l : List Nat) (h : ∀ x ∈ l, x = 0) : l.sum = 0 := by
  induction l with
  | nil => rfl
  | cons a l ih => rw [List.sum_cons, h a (List.mem_cons_self ..), ih fun x hx => h x (List.mem_cons_of_mem _ hx)]
theorem mx_self (w : List Nat) : ones (mxL false w w) = 0 := by
  have h0 : ∀ x : Nat, op2 false x x = 0 := fun x => by unfold op2; simp
  unfold mxL ones
  split
  · apply sum_zero
    intro x hx
    rw [List.map_map] at hx
    obtain ⟨i, _, rfl⟩ := List.mem_map.1 hx
    simp only [Function.comp]
    unfold mxG
    rw [h0]; exact pc_zero 64
  · rfl
theorem fit_pk {row : List Bool} {n : Nat} (hn : row.length = n) (hl : n ≤ 16384) : unE (packL row) n = 0 ∧ unL (packL row) n = row := by
  have h1 := fits_packL row
  rw [hn] at h1
  have h2 := rowOf_packL row
  rw [hn] at h2
  obtain ⟨e1, e2⟩ := un_yes hl h1
  exact ⟨e1, e2.trans h2⟩
theorem sh_pk {row : List Bool} {n : Nat} (hn : row.length = n) (hl : n ≤ 16384) (by_ : Int) : shL (packL row) n by_ = packL (shR row by_) := by
  unfold shL
  have h2 := rowOf_packL row
  rw [hn] at h2
  rw [if_pos (fit_pk hn hl).1, Int.toNat_natCast, h2]
theorem pk_len (row : List Bool) : (packL row).length = nw row.length := by unfold packL; rw [packN_len]
/-- WordsTwice. -/
theorem c10 {rA : Option Addr} {rN rC : Nat} {row : List Bool} {h : Heap} (r : Rd h rA rN (bools row)) (a b : Int) (g : Gl h) : CallsH Tryd.prog 10 #[.slice rA rN rC, .int .i64 a, .int .i64 b] h (Yes h) := by
  have hlen : row.length = rN := by have := r.len; rwa [List.length_map] at this
  refine run10 rA rN rC a b _ h (useX (c12 h g) fun h1 x1 => ⟨_, rfl, BIf.f ((c20 (r.ext x1)).mono ?_)⟩)
  rintro v h2 ⟨a2, k2, rfl, f2⟩
  have y2 : Ext h h2 := x1.trans f2.ext
  unfold pkL pkE at *
  by_cases hbig : 16384 < row.length
  · rw [if_pos hbig] at f2
    simp only [if_pos hbig]
    exact ⟨_, _, _, _, rfl, pf (by decide) ⟨rfl, y2⟩⟩
  rw [if_neg hbig] at f2
  simp only [if_neg hbig]
  have hn : rN ≤ 16384 := by omega
  refine ⟨_, _, _, _, rfl, pt rfl ⟨fun _ => ⟨rfl, y2⟩, fun q1 => ⟨fun _ => ⟨rfl, y2⟩, fun q2 => ⟨fun _ => ⟨rfl, y2⟩, fun q3 => ⟨fun _ => ⟨rfl, y2⟩, fun q4 => ?_⟩⟩⟩⟩⟩
  have hpl : (packL row).length = nw rN := by rw [pk_len, hlen]
  have hnw : nw rN ≤ 300 := by unfold nw; omega
  have hw := packN_lt (m := nw row.length) (row := row)
  have main : ∀ b1 : Int, -40000 ≤ b1 → b1 ≤ 40000 → ((0 ≤ a ∧ 0 ≤ b1) ∨ (a ≤ 0 ∧ b1 ≤ 0)) → J10_2 Tryd.prog (Yes h) rN a a2 (packL row).length k2 b1 h2 := fun b1 p1 p2 hs => by
    unfold J10_2
    have e1 : IntKind.wrap .i64 (a + b1) = a + b1 := w64 (by omega) (by omega)
    rw [e1]
    have E0 := (fit_pk hlen hn).1
    refine (c40 f2.rd hw rN a (by omega) (by omega)).mono ?_
    rintro v h3 ⟨a3, k3, rfl, f3⟩
    rw [sh_pk hlen hn] at f3
    rw [E0, sh_pk hlen hn]
    have hl3 : (shR row a).length = rN := by rw [shR_len, hlen]
    have E1 := (fit_pk hl3 hn).1
    refine ⟨_, _, _, _, rfl, (c40 f3.rd (packN_lt) rN b1 (by omega) (by omega)).mono ?_⟩
    rintro v h4 ⟨a4, k4, rfl, f4⟩
    rw [sh_pk hl3 hn, shR_twice hs] at f4
    rw [E1, sh_pk hl3 hn, shR_twice hs]
    have f2' := f2.upd (f3.ext.trans f4.ext)
    refine ⟨_, _, _, _, rfl, (c40 f2'.rd hw rN (a + b1) (by omega) (by omega)).mono ?_⟩
    rintro v h5 ⟨a5, k5, rfl, f5⟩
    rw [sh_pk hlen hn] at f5
    rw [E0, sh_pk hlen hn]
    have hl5 : (packL (shR row (a + b1))).length = nw rN := by rw [pk_len, shR_len, hlen]
    have hx : ∀ w : List Nat, w.length = nw rN → mxE w w = 0 := fun w hw => by unfold mxE; rw [if_neg (by omega), if_pos rfl]
    have f4' := f4.upd f5.ext
    refine ⟨_, _, _, _, rfl, (c17 f4'.rd f5.rd packN_lt packN_lt).mono ?_⟩
    rintro v h6 ⟨a6, k6, rfl, f6⟩
    rw [hx _ hl5]
    have f2'' := f2'.upd (f5.ext.trans f6.ext)
    refine ⟨_, _, _, _, rfl, (c17 f2''.rd f2''.rd hw hw).mono ?_⟩
    rintro v h7 ⟨a7, k7, rfl, f7⟩
    rw [hx _ hpl]
    have y7 : Ext h h7 := y2.trans (f3.ext.trans (f4.ext.trans (f5.ext.trans (f6.ext.trans f7.ext))))
    have m1 := mxL_le false (packL (shR row (a + b1))) (packL (shR row (a + b1)))
    have m2 := mxL_le false (packL row) (packL row)
    have bd : ∀ w : List Nat, (∀ x ∈ w, x < 18446744073709551616) → ∀ x ∈ mxL false w w, x < 18446744073709551616 := fun w hw x hx => by
      unfold mxL at hx
      split at hx
      · obtain ⟨i, hi, rfl⟩ := List.mem_map.1 hx
        unfold mxG op2; simp
      · cases hx
    refine ⟨_, _, _, _, rfl, pt rfl (pt rfl (pt rfl (pt rfl (pt rfl (use (c42 (f6.upd f7.ext).rd (bd _ packN_lt) (by omega)) ⟨_, rfl, ?_⟩)))))⟩
    rw [mx_self]
    refine pt rfl (use (c42 f7.rd (bd _ hw) (by omega)) ⟨_, rfl, ?_⟩)
    rw [mx_self, hl5, hpl]
    exact pt rfl (pt rfl ⟨rfl, y7⟩)
  have e0 : IntKind.wrap .i64 (0 - b) = -b := by rw [w64 (by omega) (by omega)]; omega
  unfold J10_1
  rw [e0]
  refine ⟨fun ha => ⟨fun hb => main _ (by omega) (by omega) (by omega), fun hb => ⟨fun hc => by omega, fun hc => main _ (by omega) (by omega) (by omega)⟩⟩, fun ha => ⟨fun hb => ⟨fun hc => main _ (by omega) (by omega) (by omega), fun hc => main _ (by omega) (by omega) (by omega)⟩, fun hb => main _ (by omega) (by omega) (by omega)⟩⟩

/-! ### A row there and back -/
def cnt (l : List Bool) : Nat := (l.map Bool.toNat).sum
theorem cnt_app (l m : List Bool) : cnt (l ++ m) = cnt l + cnt m := by unfold cnt; rw [List.map_append, List.sum_append]
theorem fsum_wv (l : List Bool) : ∀ m, l.length ≤ m → fsum 1 m (wv l) = cnt l := by
  induction l with
  | nil => intro m _; exact pc_zero m
  | cons b l ih =>
    intro m hm
    cases m with
    | zero => simp at hm
    | succ m =>
      rw [fsum, wv, Nat.pow_one]
      have h1 : (b.toNat + 2 * wv l) / 2 = wv l := by cases b <;> simp <;> omega
      have h2 : (b.toNat + 2 * wv l) % 2 = b.toNat := by cases b <;> simp <;> omega
      rw [h1, h2, ih m (by simpa using hm)]
      simp [cnt]
theorem pc_wv {l : List Bool} (h : l.length ≤ 64) : pc (wv l) = cnt l := fsum_wv l 64 h
theorem cnt_chunks : ∀ (m : Nat) (row : List Bool), row.length ≤ 64 * m → ((List.range m).map fun j => cnt (chunk row j)).sum = cnt row
  | 0, row, h => by rw [List.length_eq_zero_iff.1 (by omega : row.length = 0)]; rfl
  | m + 1, row, h => by
    rw [List.range_succ_eq_map, List.map_cons, List.sum_cons, List.map_map]
    have e : ((fun j => cnt (chunk row j)) ∘ Nat.succ) = fun j => cnt (chunk (row.drop 64) j) := by
      funext j
      simp only [Function.comp, chunk]
      rw [List.drop_drop, show 64 + 64 * j = 64 * j.succ by omega]
    rw [e, cnt_chunks m (row.drop 64) (by simp; omega)]
    have : chunk row 0 = row.take 64 := by simp [chunk]
    rw [this, ← cnt_app, List.take_append_drop]
theorem ones_pk (row : List Bool) : ones (packL row) = cnt row := by
  unfold ones packL packN
  rw [List.map_map, ← cnt_chunks (nw row.length) row (by unfold nw; omega)]
  refine congrArg List.sum (List.map_congr_left fun j _ => ?_)
  exact pc_wv (by rw [chunk_len]; omega)
theorem cnt_le (l : List Bool) : cnt l ≤ l.length := by
  induction l with
  | nil => exact Nat.le_refl _
  | cons b l ih => unfold cnt at *; rw [List.map_cons, List.sum_cons, List.length_cons]; have : b.toNat ≤ 1 := by cases b <;> decide
                   omega
theorem bits_wv (row : List Bool) : bitsOf (wv row) row.length = row := by
  unfold bitsOf
  conv => rhs; rw [← list_range row false]
  apply List.map_congr_left
  intro i _
  exact wv_testBit row i
theorem tx_at {row : List Bool} {i : Nat} (hi : i < row.length) : (txt row)[i]? = some (txB row i) := by simp [txt, hi]
theorem tw_all {p : UInt8 → Bool} : ∀ {l : List UInt8}, (∀ b ∈ l, p b = true) → l.takeWhile p = l
  | [], _ => rfl
  | a :: l, h => by rw [List.takeWhile_cons_of_pos (h a (List.mem_cons_self ..)), tw_all fun b hb => h b (List.mem_cons_of_mem _ hb)]
theorem bt_back (row : List Bool) (h : row.length ≤ 16384) : btL (mk (txt row)) = row ∧ btF (mk (txt row)) = flt 0 0 := by
  have hl : (txt row).length = row.length := by simp [txt]
  have hsz : (mk (txt row)).size = row.length := by rw [mk_size, hl]
  have hbad : bad (mk (txt row)) = row.length := by
    unfold bad
    rw [B_mk, tw_all, hl]
    intro b hb
    obtain ⟨i, _, rfl⟩ := List.mem_map.1 hb
    unfold txB
    split <;> decide
  constructor
  · rw [btL_ok (by rw [hsz]; omega) (by rw [hsz, hbad]; omega), hsz]
    conv => rhs; rw [← list_range row false]
    apply List.map_congr_left
    intro i hi
    have hi := List.mem_range.1 hi
    unfold btG
    rw [B_mk, List.getD_eq_getElem?_getD, tx_at hi, Option.getD_some]
    unfold txB
    cases row.getD i false <;> decide
  · unfold btF
    rw [if_neg (by rw [hsz]; omega), if_neg (by rw [hsz, hbad]; omega)]
/-- WordsRound. -/
theorem c11 {rA : Option Addr} {rN rC : Nat} {row : List Bool} {h : Heap} (r : Rd h rA rN (bools row)) (hbig0 : rN ≤ 140737488351232) (g : Gl h) : CallsH Tryd.prog 11 #[.slice rA rN rC] h (Yes h) := by
  have hlen : row.length = rN := by have := r.len; rwa [List.length_map] at this
  refine run11 rA rN rC _ h (useX (c12 h g) fun h1 x1 => ⟨_, rfl, BIf.f ((c20 (r.ext x1)).mono ?_)⟩)
  rintro v h2 ⟨a2, k2, rfl, f2⟩
  have y2 : Ext h h2 := x1.trans f2.ext
  refine ⟨_, _, _, _, rfl, useX (c22 (r.ext y2)) fun h3 x3 => ?_⟩
  have y3 := y2.trans x3
  unfold txV pkL pkE at *
  by_cases hbig : 16384 < row.length
  · rw [if_pos hbig] at f2
    simp only [if_pos hbig]
    exact ⟨_, _, rfl, pf (by decide) (pt (by omega) (pt rfl (pt rfl ⟨rfl, y3⟩)))⟩
  rw [if_neg hbig] at f2
  simp only [if_neg hbig]
  have hn : rN ≤ 16384 := by omega
  have hpl : (packL row).length = nw rN := by rw [pk_len, hlen]
  have hnw : nw rN ≤ 300 := by unfold nw; omega
  have hw := packN_lt (m := nw row.length) (row := row)
  obtain ⟨E0, L0⟩ := fit_pk hlen hn
  obtain ⟨B1, B2⟩ := bt_back row (by omega)
  refine ⟨_, _, rfl, pt (by first | trivial | rfl) (pt (by first | trivial | rfl) ?_)⟩
  have f2' := f2.upd x3
  unfold J11_1
  refine (c38 f2'.rd hw rN).mono ?_
  rintro v h5 ⟨a5, k5, rfl, f5⟩
  rw [L0] at f5
  rw [E0, L0]
  refine ⟨_, _, _, _, rfl, (c34 _ h5).mono ?_⟩
  rintro v h6 ⟨a6, k6, rfl, f6⟩
  rw [B1] at f6
  rw [B1, B2]
  refine ⟨_, _, _, _, _, rfl, pushput _ _ fun h8 f8 => pt rfl ⟨_, _, f8.rd.cells, pt rfl ?_⟩⟩
  have x58 : Ext h5 h8 := f6.ext.trans f8.ext
  have y8 : Ext h h8 := y3.trans (f5.ext.trans x58)
  have f5' := f5.upd x58
  have f6' := f6.upd f8.ext
  have r8 := r.ext y8
  refine use (c26 f5'.rd r8 (by omega)) ⟨_, rfl, ?_⟩
  rw [decide_eq_true rfl]
  refine BIf.f (use (c26 f6'.rd r8 (by omega)) ⟨_, rfl, ?_⟩)
  rw [decide_eq_true rfl]
  refine BIf.f ?_
  have f2'' := f2'.upd (f5.ext.trans x58)
  refine ⟨fun st h' m => ∃ k : Nat, st = (((cnt (row.take k) : Nat) : Int), (k : Int)) ∧ h' = h8 ∧ k ≤ rN ∧ m = rN - k, ⟨rN, 0, rfl, rfl, by omega, rfl⟩, ?_⟩
  rintro st _ m ⟨k, rfl, rfl, hk, rfl⟩
  rename_i h8
  have hck := cnt_le (row.take k)
  rw [List.length_take] at hck
  refine ⟨fun hlt => ?_, fun hge => ?_⟩
  · simp only at hlt
    have hk2 : k < row.length := by omega
    unfold J11_4
    refine ⟨by simp only; omega, by simp only; omega, r8.geti (j := (k : Int)) (by omega) (by omega) fun ad hl hc => ⟨_, hc, ?_⟩⟩
    simp only [Int.toNat_natCast, e_succ (show k < 4611686018427387904 by omega)] at hl hc ⊢
    have hs : cnt (row.take (k + 1)) = cnt (row.take k) + row[k].toNat := by rw [List.take_succ_eq_append_getElem hk2, cnt_app]; simp [cnt]
    cases hb : row[k] with
    | false => rw [hb] at hs; exact ⟨_, by omega, k + 1, by rw [hs]; rfl, by trivial, by omega, rfl⟩
    | true => rw [hb] at hs; exact ⟨_, by omega, k + 1, by rw [hs, e_succ (by omega)]; rfl, by trivial, by omega, rfl⟩
  · simp only at hge
    rw [List.take_of_length_le (by omega)]
    unfold J11_3
    refine useX (c24 r8) fun h9 x9 => ?_
    have y9 := y8.trans x9
    have f29 := f2''.upd x9
    unfold ixV
    by_cases h62 : 62 < row.length
    · rw [if_pos h62]
      refine ⟨_, _, rfl, use (c42 f29.rd hw (by omega)) ⟨_, rfl, ?_⟩⟩
      rw [ones_pk]
      refine pt rfl (pf (by decide) (pf (by omega) (pt rfl ?_)))
      unfold J11_6
      exact pf (by decide) ⟨rfl, y9⟩
    · rw [if_neg h62]
      refine ⟨_, _, rfl, use (c42 f29.rd hw (by omega)) ⟨_, rfl, ?_⟩⟩
      rw [ones_pk]
      refine pt rfl (pt rfl (pt (by omega) (pt rfl ?_)))
      unfold J11_6
      refine pt rfl ?_
      unfold J11_7
      have hwv := wv_62 (row := row) (by omega)
      have hy := rw_yes (x := wv row) (n := rN) (by omega) (by rw [← hlen]; exact wv_lt row)
      refine (c36 (wv row) rN h9 (by omega)).mono ?_
      rintro v h10 ⟨a10, k10, rfl, f10⟩
      unfold rwL rwE at *
      rw [hy] at *
      simp only [if_true, Int.toNat_natCast] at *
      have hbw : bitsOf (wv row) rN = row := by rw [← hlen]; exact bits_wv row
      rw [hbw] at f10 ⊢
      have y10 := y9.trans f10.ext
      refine ⟨_, _, _, _, rfl, pt rfl (use (c26 f10.rd (r.ext y10) (by omega)) ⟨_, rfl, ?_, y10⟩)⟩
      rw [decide_eq_true rfl]
end Go.Proofs.YtbgjbokcngdnfaaDoor
