/- Words and facts that the claim's proof leans on. No condition. -/
import Derived.Test.YtbgjbokcngdnfaaDoorWAb
import Derived.Test.YtbgjbokcngdnfaaDoorWE
import Derived.Test.YtbgjbokcngdnfaaDoorWJ
set_option linter.unusedVariables false
set_option linter.unusedSimpArgs false
namespace Go.Proofs.YtbgjbokcngdnfaaDoor
open Go.Hx

theorem pt {p : Prop} {X Y : Prop} (hp : p) (h : X) : PIf p X Y := ⟨fun _ => h, fun n => absurd hp n⟩
theorem pf {p : Prop} {X Y : Prop} (hp : ¬ p) (h : Y) : PIf p X Y := ⟨fun n => absurd n hp, fun _ => h⟩
abbrev Yes (h : Heap) : Value → Heap → Prop := Xt (.bool true) h
theorem shape_put (n : Int) : ∃ s e, putV n = .tuple #[.string s, .int .i64 e] := by unfold putV; split <;> exact ⟨_, _, rfl⟩
theorem shape_dig (n : Int) : ∃ s e, digV n = .tuple #[.string s, .int .i64 e] := by unfold digV; split <;> exact ⟨_, _, rfl⟩
theorem shape_get (s : ByteArray) (a : Int) : ∃ x y c d, getV s a = .tuple #[.int .i64 x, .int .i64 y, flt c d] := by
  unfold getV; split
  · split <;> exact ⟨_, _, _, _, rfl⟩
  · exact ⟨_, _, _, _, rfl⟩
theorem shape_num (s : ByteArray) (a : Int) : ∃ x y c d, numV s a = .tuple #[.int .i64 x, .int .i64 y, flt c d] := by
  unfold numV; split
  · split <;> exact ⟨_, _, _, _, rfl⟩
  · exact ⟨_, _, _, _, rfl⟩
/-- A fault is put into a new place. -/
theorem pushput {h : Heap} (a b : Int) {e : TypeId} {K : Heap → Prop} (hK : ∀ h', Fr h 1 h' (some ⟨h.size, 0, none⟩) 2 2 [.int .i64 a, .int .i64 b] → K h') :
    StoreH (h.push (.cells #[(.int .i64 0), (.int .i64 0)] e)) (Addr.mk h.size 0 none) [.int .i64 a, .int .i64 b] K :=
  (Fr.two h 0 0 e).put rfl (by simp [Value.oneCell']) fun h' f _ => hK h' f

theorem works_put : putV 128 = .tuple #[.string (ByteArray.mk #[128, 1]), .int .i64 0] := by
  unfold putV
  rw [show isN 128 = true by decide, if_pos rfl, show (128 : Int).toNat = 128 from rfl, putL_ge (by omega), putL_lt (by omega)]
  rfl
theorem works_num : numV (ByteArray.mk #[97, 49, 50, 98]) 1 = .tuple #[.int .i64 12, .int .i64 3, flt 0 0] := by kernel_rfl
theorem works_pk : pkL [true, false, true] = [5] := by kernel_rfl
theorem c12 (h : Heap) (g : Gl h) : CallsH Tryd.prog 12 #[] h (Yes h) := by
  refine run12 _ h (useX (c14 128 h) fun h1 x1 => ⟨_, _, works_put, useX (c32 _ _ h1 (g.ext x1)) fun h2 x2 => ⟨_, _, _, _, works_num, pushput _ _ fun h3 f3 => ?_⟩⟩)
  intro h_4
  have f4 : Fr h3 1 h_4 (some ⟨h3.size, 0, none⟩) 3 3 (bools [true, false, true]) := Fr.lit (.refl h3) (bools [true, false, true]) 4 3 rfl
  refine (c20 f4.rd).mono ?_
  rintro v h5 ⟨a, c, rfl, f5⟩
  have x5 : Ext h h5 := x1.trans (x2.trans (f3.ext.trans (f4.ext.trans f5.ext)))
  have f35 := (f3.upd f4.ext).upd f5.ext
  rw [works_pk] at f5 ⊢
  obtain ⟨ad, rfl⟩ := f5.rd.some (by decide)
  refine ⟨_, _, _, _, rfl, pt rfl (pt rfl (pt rfl (pt rfl ⟨_, _, f35.rd.cells, pt rfl (pt (by decide) (pt (by decide) ⟨by decide, by decide, _, f5.rd.getN (i := 0) rfl, pt rfl ⟨rfl, x5⟩⟩))⟩)))⟩
theorem c30 (h : Heap) : CallsH Tryd.prog 30 #[] h (Ret (.bool true) h) := run30 _ h ⟨rfl, rfl⟩

/-- WordsNumbers. -/
theorem c6 (n : Int) (s : ByteArray) (at_ : Int) (h : Heap) (g : Gl h) : CallsH Tryd.prog 6 #[.int .i64 n, .string s, .int .i64 at_] h (Yes h) := by
  obtain ⟨t, e, hp⟩ := shape_put n
  obtain ⟨d, e2, hd⟩ := shape_dig n
  obtain ⟨a1, a2, a3, a4, hg⟩ := shape_get s at_
  obtain ⟨b1, b2, b3, b4, hn⟩ := shape_num s at_
  refine run6 n s at_ _ h (useX (c14 n h) fun h1 x1 => ⟨_, _, hp, useX (c27 n h1) fun h2 x2 => ⟨_, _, hp, useX (c28 n h2 (g.ext (x1.trans x2))) fun h3 x3 => ⟨_, _, hd, useX (c29 n h3) fun h4 x4 => ⟨_, _, hd, use (c30 h4) ⟨_, rfl, BIf.f (pt rfl (pt rfl (pt rfl (pt rfl ?_))))⟩⟩⟩⟩⟩)
  have y4 : Ext h h4 := x1.trans (x2.trans (x3.trans x4))
  refine useX (c13 s at_ h4) fun h6 x6 => ⟨_, _, _, _, hg, pushput _ _ fun h8 f8 => useX (c31 s at_ h8) fun h9 x9 => ⟨_, _, _, _, hg, pushput _ _ fun h11 f11 => pt rfl (pt rfl ?_)⟩⟩
  have f8' : Fr h6 1 h11 (some ⟨h6.size, 0, none⟩) 2 2 _ := (f8.upd x9).upd f11.ext
  have lt : h6.size < h9.size := Nat.lt_of_lt_of_le f8.own.lt x9.1
  have y11 : Ext h h11 := y4.trans (x6.trans f8'.ext)
  have y6 : Ext h h6 := y4.trans x6
  refine ⟨_, _, f8'.rd.cells, _, _, f11.rd.cells, pt rfl ?_⟩
  refine useX (c32 s at_ h11 (g.ext y11)) fun h13 x13 => ⟨_, _, _, _, hn, ?_⟩
  have p1 := f8'.upd x13
  have p2 := f11.upd x13
  refine p1.put rfl (by simp [Value.oneCell']) fun h14 q1 u1 => ?_
  have q2 : Fr h6 1 h14 (some ⟨h9.size, 0, none⟩) 2 2 _ := (p2.base (f8.ext.trans x9)).other u1 (fun x y hx hy => by cases hx; cases hy; exact Nat.ne_of_gt lt) (fun y hy => by cases hy; exact Nat.le_refl _)
  refine useX (c33 s at_ h14) fun h15 x15 => ⟨_, _, _, _, hn, ?_⟩
  refine (q2.upd x15).put rfl (by simp [Value.oneCell']) fun h16 r2 u2 => ?_
  have r1 : Fr h6 1 h16 (some ⟨h6.size, 0, none⟩) 2 2 _ := (q1.upd x15).other u2 (fun x y hx hy => by cases hx; cases hy; exact Nat.ne_of_lt lt) (fun y hy => by cases hy; exact Nat.le_of_lt lt)
  have y16 : Ext h h16 := y6.trans r1.ext
  exact pt rfl (pt rfl ⟨_, _, r1.rd.cells, _, _, r2.rd.cells, pt rfl (useX (c12 h16 (g.ext y16)) fun h17 x17 => ⟨_, rfl, rfl, y16.trans x17⟩)⟩)

/-! ### There and back -/
theorem dd_all (k : Nat) : ∀ b ∈ Lib.decDigits k, isDig b = true := by
  induction k using Nat.strongRecOn with
  | ind k ih =>
    have one : ∀ d, d < 10 → isDig (UInt8.ofNat (48 + d)) = true := fun d hd => by
      have key : ∀ x : Fin 10, isDig (UInt8.ofNat (48 + x.val)) = true := by decide +kernel
      exact key ⟨d, hd⟩
    by_cases hk : k < 10
    · rw [dd_lt hk]; intro b hb; rw [List.mem_singleton.1 hb]; exact one k hk
    · rw [dd_ge (by omega)]
      intro b hb
      rcases List.mem_append.1 hb with hb | hb
      · exact ih (k / 10) (by omega) b hb
      · rw [List.mem_singleton.1 hb]; exact one _ (by omega)
theorem dd_val (k : Nat) : val 0 (Lib.decDigits k) = k := by
  induction k using Nat.strongRecOn with
  | ind k ih =>
    have one : ∀ d, d < 10 → (UInt8.ofNat (48 + d)).toNat - 48 = d := fun d hd => by
      have key : ∀ x : Fin 10, (UInt8.ofNat (48 + x.val)).toNat - 48 = x.val := by decide +kernel
      exact key ⟨d, hd⟩
    by_cases hk : k < 10
    · rw [dd_lt hk, val_cons, one k hk]; simp [val]
    · rw [dd_ge (by omega), val_app, ih (k / 10) (by omega), val_cons, one _ (by omega)]
      show _ = _
      simp only [val, List.foldl_nil]
      omega
theorem dd_head (k : Nat) (hk : (Lib.decDigits k)[0]? = some 48) : k = 0 := by
  induction k using Nat.strongRecOn with
  | ind k ih =>
    by_cases h10 : k < 10
    · rw [dd_lt h10] at hk
      have key : ∀ x : Fin 10, ([UInt8.ofNat (48 + x.val)] : List UInt8)[0]? = some 48 → x.val = 0 := by decide +kernel
      exact key ⟨k, h10⟩ hk
    · rw [dd_ge (by omega), List.getElem?_append_left (dd_pos _)] at hk
      have := ih (k / 10) (by omega) hk
      omega
theorem dd_len (k : Nat) : k < 10 ^ 10 → (Lib.decDigits k).length ≤ 10 := by
  suffices ∀ m k, k < 10 ^ (m + 1) → (Lib.decDigits k).length ≤ m + 1 from this 9 k
  intro m
  induction m with
  | zero => intro k h; rw [dd_lt (by simpa using h)]; simp
  | succ m ih =>
    intro k h
    by_cases h10 : k < 10
    · rw [dd_lt h10]; simp
    · rw [dd_ge (by omega), List.length_append]
      have := ih (k / 10) (by rw [Nat.pow_succ] at h; omega)
      simp only [List.length_cons, List.length_nil]
      omega
theorem tw_app {p : UInt8 → Bool} : ∀ {l r : List UInt8}, (∀ b ∈ l, p b = true) → (l ++ r).takeWhile p = l ++ r.takeWhile p
  | [], _, _ => rfl
  | a :: l, r, h => by
    rw [List.cons_append, List.takeWhile_cons_of_pos (h a (List.mem_cons_self ..)), tw_app fun b hb => h b (List.mem_cons_of_mem _ hb)]; rfl
theorem drop_ahead (a l r : List UInt8) : ((a ++ l) ++ r).drop a.length = l ++ r := by rw [List.append_assoc, List.drop_left]
theorem get_back (ahead : ByteArray) (k : Nat) (ha : ahead.size ≤ 1000) (hk : k ≤ 2147483647) : getV ((ahead ++ mk (putL k)) ++ ahead) (ahead.size : Nat) = .tuple #[.int .i64 k, .int .i64 ((ahead.size : Int) + (putL k).length), flt 0 0] := by
  have h5 : (putL k).length ≤ 5 := putL_len 4 k (by omega)
  have hsz : ((ahead ++ mk (putL k)) ++ ahead).size = ahead.size + (putL k).length + ahead.size := by
    rw [← B_len, B_append, B_append, List.length_append, List.length_append, B_len]
  have hg : gvn ((ahead ++ mk (putL k)) ++ ahead) (ahead.size : Nat) = 0 := by
    unfold gvn; rw [hsz, if_neg (by omega), if_neg (by omega)]
  have hd : (B ((ahead ++ mk (putL k)) ++ ahead)).drop ahead.size = putL k ++ B ahead := by
    rw [B_append, B_append, ← B_len ahead, drop_ahead]
  rw [getV0 hg]
  have : getR ((ahead ++ mk (putL k)) ++ ahead) ahead.size = some (k, (putL k).length) := by
    unfold getR
    rw [hd, dec_of_put h5]
    simp only
    rw [if_pos ⟨by simp, hk⟩]
  rw [this]
theorem num_back (ahead : ByteArray) (k : Nat) (ha : ahead.size ≤ 1000) (hk : k ≤ 2147483647) : numV ((ahead ++ mk (Lib.decDigits k)) ++ ByteArray.mk #[120]) (ahead.size : Nat) = .tuple #[.int .i64 k, .int .i64 ((ahead.size : Int) + (Lib.decDigits k).length), flt 0 0] := by
  have h5 := dd_len k (by omega)
  have hsz : ((ahead ++ mk (Lib.decDigits k)) ++ ByteArray.mk #[120]).size = ahead.size + (Lib.decDigits k).length + 1 := by
    rw [← B_len, B_append, B_append, List.length_append, List.length_append, B_len]; rfl
  have hg : gvn ((ahead ++ mk (Lib.decDigits k)) ++ ByteArray.mk #[120]) (ahead.size : Nat) = 0 := by
    unfold gvn; rw [hsz, if_neg (by omega), if_neg (by omega)]
  have hd : ds ((ahead ++ mk (Lib.decDigits k)) ++ ByteArray.mk #[120]) ahead.size = Lib.decDigits k := by
    unfold ds
    rw [B_append, B_append, ← B_len ahead, drop_ahead, tw_app (dd_all k)]
    rw [show (B (ByteArray.mk #[120])).takeWhile isDig = [] by decide, List.append_nil]
  rw [numV0 hg]
  have : numR ((ahead ++ mk (Lib.decDigits k)) ++ ByteArray.mk #[120]) ahead.size = some (k, (Lib.decDigits k).length) := by
    unfold numR
    rw [hd, dd_val, if_pos]
    refine ⟨fun h0 => by have := dd_pos k; rw [h0] at this; simp at this, fun ⟨h6, h7⟩ => ?_, hk⟩
    have := dd_head k h6
    subst this
    rw [dd_lt (by omega)] at h7
    simp at h7
  rw [this]
/-- WordsBack. -/
theorem c8 (n m : Int) (ahead : ByteArray) (h : Heap) (g : Gl h) : CallsH Tryd.prog 8 #[.int .i64 n, .int .i64 m, .string ahead] h (Yes h) := by
  refine run8 n m ahead _ h (useX (c12 h g) fun h1 x1 => ⟨_, rfl, BIf.f ⟨fun _ => ⟨rfl, x1⟩, fun ha => ?_⟩⟩)
  unfold J8_1
  refine useX (c14 n h1) fun h2 x2 => ?_
  have y2 := x1.trans x2
  unfold putV
  cases hn : isN n with
  | false =>
    refine ⟨_, _, rfl, useX (c28 n h2 (g.ext y2)) fun h3 x3 => ?_⟩
    unfold digV
    rw [hn]
    have := isN_f.1 hn
    exact ⟨_, _, rfl, pf (by decide) (pt rfl (pt rfl ⟨fun _ => ⟨rfl, y2.trans x3⟩, fun h5 => pt (by omega) ⟨rfl, y2.trans x3⟩⟩))⟩
  | true =>
    obtain ⟨hn0, hn1⟩ := isN_t.1 hn
    obtain ⟨k, rfl⟩ : ∃ k : Nat, n = k := ⟨n.toNat, by omega⟩
    have ha2 : ahead.size ≤ 1000 := by omega
    have h5 : (putL k).length ≤ 5 := putL_len 4 k (by omega)
    have h6 := dd_len k (by omega)
    rw [if_pos rfl, Int.toNat_natCast]
    refine ⟨_, _, rfl, useX (c28 k h2 (g.ext y2)) fun h3 x3 => ?_⟩
    have y3 := y2.trans x3
    unfold digV
    rw [hn, if_pos rfl, Int.toNat_natCast]
    refine ⟨_, _, rfl, pt rfl (pt rfl ?_)⟩
    unfold J8_2
    have s1 : (ahead ++ mk (putL k)).size = ahead.size + (putL k).length := by rw [← B_len, B_append, List.length_append, B_len]
    have s2 : (ahead ++ mk (Lib.decDigits k)).size = ahead.size + (Lib.decDigits k).length := by rw [← B_len, B_append, List.length_append, B_len]
    have s3 : (ByteArray.mk #[120]).size = 1 := rfl
    refine ⟨by rw [mk_size (putL k)]; omega, by rw [s1]; omega, useX (c13 _ _ h3) fun h4 x4 => ⟨_, _, _, _, get_back ahead k ha2 (by omega), pushput _ _ fun h5' f5 => ⟨by rw [mk_size (Lib.decDigits k)]; omega, by rw [s2, s3]; omega, ?_⟩⟩⟩
    have y5 := y3.trans (x4.trans f5.ext)
    refine useX (c32 _ _ h5' (g.ext y5)) fun h7 x7 => ⟨_, _, _, _, num_back ahead k ha2 (by omega), pushput _ _ fun h8 f8 => ?_⟩
    have f5' := (f5.upd x7).upd f8.ext
    refine ⟨_, _, f5'.rd.cells, pt rfl ⟨_, _, f8.rd.cells, pt rfl (pt rfl (pt rfl (pt ?_ (pt ?_ ?_))))⟩⟩
    · rw [mk_size (putL k), w64 (by omega) (by omega)]
    · rw [mk_size (Lib.decDigits k), w64 (by omega) (by omega)]
    · have y8 := y5.trans (x7.trans f8.ext)
      unfold J8_3
      refine useX (c14 m h8) fun h9 x9 => ?_
      have y9 := y8.trans x9
      unfold putV
      cases hm : isN m with
      | false => exact ⟨_, _, rfl, pf (by decide) ⟨rfl, y9⟩⟩
      | true =>
        obtain ⟨hm0, hm1⟩ := isN_t.1 hm
        refine ⟨_, _, rfl, pt rfl ⟨fun _ => ⟨rfl, y9⟩, fun h10 => pt ?_ ⟨rfl, y9⟩⟩⟩
        have := putL_mono m.toNat k (by omega)
        rw [mk_size (putL k), mk_size (putL m.toNat)]
        omega
theorem end_le {a c L S : Nat} (h : c ≤ L - a) (h1 : 1 ≤ c) (hl : L = S) : (a : Int) + (c : Int) ≤ (S : Nat) := by omega
/-- WordsOnly. -/
theorem c3 (s : ByteArray) (at_ : Int) (h : Heap) (g : Gl h) : CallsH Tryd.prog 3 #[.string s, .int .i64 at_] h (Yes h) := by
  refine run3 s at_ _ h (useX (c12 h g) fun h1 x1 => ⟨_, rfl, BIf.f (useX (c13 s at_ h1) fun h2 x2 => ?_)⟩)
  have hno : ∀ c d : Int, d ≠ 0 → getV s at_ = .tuple #[.int .i64 0, .int .i64 0, flt c d] → ∃ (t1 : Int), ∃ (t2 : Int), ∃ (t3 : Int), ∃ (t4 : Int), getV s at_ = (.tuple #[(.int .i64 t1), (.int .i64 t2), (.agg #[(.int .i64 t3), (.int .i64 t4)])]) ∧ let h_3 : Heap := (h2).push (.cells #[(.int .i64 0), (.int .i64 0)] 25); StoreH h_3 (Addr.mk (h2).size 0 none) [(.int .i64 t3), (.int .i64 t4)] fun h_4 => ∃ (t5 : Int), ∃ (t6 : Int), cellsH h_4 (Addr.mk (h2).size 0 none) 0 [(.int .i64 t5), (.int .i64 t6)] ∧ PIf ((#[(.int .i64 t5), (.int .i64 t6)] : Array Value) = #[(.int .i64 0), (.int .i64 0)])
     (J3_1 Tryd.prog (Yes h) s at_ t1 t2 h_4)
     (PIf ((t1 : Int) = 0)
     (PIf ((t2 : Int) = 0)
     (∃ (t9 : Int), cellH h_4 (Addr.add (Addr.mk (h2).size 0 none) 1) = some (.int .i64 t9) ∧ PIf ((t9 : Int) = 0)
     (Yes h (.bool false) h_4)
     (Yes h (.bool true) h_4))
     (Yes h (.bool false) h_4))
     (Yes h (.bool false) h_4)) := fun c d hd he =>
    ⟨_, _, _, _, he, pushput _ _ fun h4 f4 => ⟨_, _, f4.rd.cells, pf (fun h0 => hd (flt_eq.1 h0).2) (pt rfl (pt rfl ⟨_, f4.rd.read 1 _ rfl, pf hd ⟨rfl, x1.trans (x2.trans f4.ext)⟩⟩))⟩⟩
  by_cases hg : gvn s at_ = 0
  · obtain ⟨hs, ha0, ha1⟩ := gvn0 hg
    obtain ⟨a, rfl⟩ : ∃ a : Nat, at_ = a := ⟨at_.toNat, by omega⟩
    have hV := getV0 hg
    cases hr : getR s a with
    | none => rw [hr] at hV; exact hno _ _ (by decide) hV
    | some p =>
      obtain ⟨n, c⟩ := p
      rw [hr] at hV
      have hr2 := hr
      unfold getR at hr2
      split at hr2
      · rename_i x d hdec
        split at hr2
        · rename_i hcan
          simp only [Option.some.injEq, Prod.mk.injEq] at hr2
          obtain ⟨hx1, hx2⟩ := hr2
          rw [hx1, hx2] at hdec hcan
          clear hx1 hx2
          have hin : isN (n : Int) = true := isN_t.2 ⟨by omega, by omega⟩
          obtain ⟨q1, q2, _⟩ := dec_put hdec
          rw [List.length_drop] at q2
          have hlen := B_len s
          refine ⟨_, _, _, _, hV, pushput _ _ fun h4 f4 => ⟨_, _, f4.rd.cells, pt rfl ?_⟩⟩
          unfold J3_1
          refine useX (c14 _ h4) fun h5 x5 => ?_
          unfold putV
          rw [hin, if_pos rfl, Int.toNat_natCast]
          have y5 := x1.trans (x2.trans (f4.ext.trans x5))
          have i1 : (a : Int) < (a : Int) + (c : Int) := by omega
          have i2 : (a : Int) + (c : Int) ≤ (s.size : Nat) := end_le q2 q1 hlen
          have i3 : (0 : Int) ≤ (a : Int) := by omega
          have i4 : (a : Int) ≤ (a : Int) + (c : Int) := by omega
          refine ⟨_, _, rfl, pt rfl (pt i1 (pt i2 ⟨i3, i4, i2, pt ?_ ⟨rfl, y5⟩⟩))⟩
          apply B_inj
          rw [B_extract, B_mk, hcan.1]
          congr 1
          omega
        · cases hr2
      · cases hr2
  · exact hno _ _ hg (getV1 hg)
end Go.Proofs.YtbgjbokcngdnfaaDoor
