/- Words and facts that the claim's proof leans on. No condition. -/
import Derived.Test.YtbgjbokcngdnfaaDoorWK
set_option linter.unusedVariables false
set_option linter.unusedSimpArgs false
namespace Go.Proofs.YtbgjbokcngdnfaaDoor
open Go.Hx

theorem shape_btF (s : ByteArray) : ∃ a b, btF s = flt a b := by unfold btF; split; exact ⟨_, _, rfl⟩; split <;> exact ⟨_, _, rfl⟩
theorem len_btL (s : ByteArray) : (btL s).length ≤ 16384 := by unfold btL; split; simp; simp; omega
theorem len_rwL (ix n : Int) : (rwL ix n).length ≤ 62 := by
  unfold rwL
  split
  · rename_i h
    unfold rwB at h
    have := of_decide_eq_true h
    simp [bitsOf]; omega
  · simp
/-- WordsTexts. -/
theorem c7 (s : ByteArray) (ix n : Int) (hix : ix ≤ 9223372036854775807) (h : Heap) (g : Gl h) : CallsH Tryd.prog 7 #[.string s, .int .i64 ix, .int .i64 n] h (Yes h) := by
  obtain ⟨e1, e2, he⟩ := shape_btF s
  have hl := len_btL s
  have hl2 := len_rwL ix n
  refine run7 s ix n _ h ((c34 s h).mono ?_)
  rintro v h1 ⟨a1, k1, rfl, f1⟩
  refine ⟨_, _, _, _, _, by rw [he], pushput _ _ fun h2 p2 => (c35 s h2).mono ?_⟩
  rintro v h3 ⟨a3, k3, rfl, f3⟩
  refine ⟨_, _, _, _, _, by rw [he], pushput _ _ fun h5 p5 => (c36 ix n h5 hix).mono ?_⟩
  rintro v h6 ⟨a6, k6, rfl, f6⟩
  refine ⟨_, _, _, _, rfl, (c37 ix n h6 hix).mono ?_⟩
  rintro v h7 ⟨a7, k7, rfl, f7⟩
  have x23 : Ext h2 h7 := f3.ext.trans (p5.ext.trans (f6.ext.trans f7.ext))
  have x13 : Ext h1 h7 := p2.ext.trans x23
  have x57 : Ext h5 h7 := f6.ext.trans f7.ext
  have x37 : Ext h3 h7 := p5.ext.trans x57
  refine ⟨_, _, _, _, rfl, use (c26 (f1.rd.ext x13) (f3.rd.ext x37) (by omega)) ⟨_, rfl, ?_⟩⟩
  rw [decide_eq_true rfl]
  refine BIf.t ⟨_, _, (p2.upd x23).rd.cells, _, _, (p5.upd x57).rd.cells, pt rfl (use (c26 (f6.rd.ext f7.ext) f7.rd (by omega)) ⟨_, rfl, ?_⟩)⟩
  rw [decide_eq_true rfl]
  have y7 : Ext h h7 := f1.ext.trans x13
  exact BIf.t (pt rfl (useX (c12 h7 (g.ext y7)) fun h8 x8 => ⟨_, rfl, rfl, y7.trans x8⟩))

/-- A copy of a row and one element behind it. -/
theorem copied {α : Type} {f : α → Value} (h1f : ∀ x, (f x).oneCell' = true) {h : Heap} {a : Option Addr} {n : Nat} {l : List α} (r : Rd h a n (l.map f)) (x : α) {e e2 e3 e4 : TypeId} {bytes : Nat} {z : Array Value} (hb : (n + 1) * bytes ≤ 140737488355328)
    {K : Option Addr → Nat → Nat → Heap → Prop} (hK : ∀ a' c' h', Fr h 1 h' a' (n + 1) c' ((l ++ [x]).map f) → K a' (n + 1) c' h') :
    ∃ ys : List Value, ReadL (h.push (.cells #[] e)) a ys ∧ ys.length = n * 1 ∧ AppS (h.push (.cells #[] e)) (some (Addr.mk h.size 0 none)) 0 0 e2 bytes 1 z ys n fun apA apN apC h_1 =>
      ∃ ys1 : List Value, ReadL (h_1.push (.cells #[f x] e3)) (some (Addr.mk h_1.size 0 none)) ys1 ∧ ys1.length = 1 * 1 ∧ AppS (h_1.push (.cells #[f x] e3)) apA apN apC e4 bytes 1 z ys1 1 K := by
  have hlen : l.length = n := by have := r.len; rwa [List.length_map] at this
  have f0 : Fr h 1 (h.push (.cells #[] e)) (some ⟨h.size, 0, none⟩) 0 0 [] := Fr.lit (.refl h) [] e 0 rfl
  have hone : ∀ y ∈ l.map f, y.oneCell' = true := by intro y hy; obtain ⟨q, _, rfl⟩ := List.mem_map.1 hy; exact h1f q
  have hb1 : (0 + n) * bytes ≤ 140737488355328 := Nat.le_trans (Nat.mul_le_mul_right _ (by omega)) hb
  refine ⟨l.map f, (r.ext f0.ext).read, by rw [List.length_map, hlen, Nat.mul_one], f0.app (by rw [List.length_map, hlen, Nat.mul_one]) hone hb1 fun a1 c1 h1 f1 _ _ => ?_⟩
  rw [Nat.zero_add] at f1 ⊢
  refine app1 f1 (h1f x) hb fun a2 c2 h2 f2 => hK a2 c2 h2 ?_
  rw [List.map_append]
  exact f2
theorem cut0 {sz c : Nat} {a : Option Addr} : cutA sz a c (Int.toNat 0) = a := by
  show cutA sz a c 0 = a
  unfold cutA
  split
  · rfl
  · cases a with
    | none => rfl
    | some ad => rw [Option.map_some, Nat.zero_mul, addr_add0]
theorem rd_take {α : Type} {f : α → Value} {h : Heap} {a : Option Addr} {n : Nat} {l : List α} {x : α} (r : Rd h a (n + 1) ((l ++ [x]).map f)) (hl : l.length = n) : Rd h a n (l.map f) := by
  have := r.take n (by omega)
  rwa [List.map_append, List.take_append_of_le_length (by simp; omega), List.take_of_length_le (by simp; omega)] at this
/-- Other rows stay while one is written over. -/
theorem over_loop {h0 : Heap} {a : Option Addr} {n c : Nat} {vs : List Value} {h : Heap} (f : Fr h0 1 h a n c vs) (x : Value) (hx : x.oneCell' = true) (hn : n ≤ 4611686018427387904) {F : Heap → Prop}
    (hF : ∀ h' vs', Fr h0 1 h' a n c vs' → Upd (atb a) h h' → F h') :
    LoopT (σ := Int) (fun k h next => PIf ((k : Int) < ((n : Nat) : Int)) (0 ≤ (k : Int) ∧ (k : Int) < (n : Nat) ∧ AtP a fun ad => StoreH h (Addr.add ad (Int.toNat k * 1)) [x] fun h' => next ((IntKind.wrap .i64 (k + 1))) h') (F h)) 0 h := by
  refine ⟨fun k h' m => ∃ i : Nat, k = (i : Int) ∧ i ≤ n ∧ (∃ vs', Fr h0 1 h' a n c vs') ∧ Upd (atb a) h h' ∧ m = n - i, ⟨n, 0, rfl, by omega, ⟨vs, f⟩, .refl _, rfl⟩, ?_⟩
  rintro k h' m ⟨i, rfl, hi, ⟨vs', f'⟩, u, rfl⟩
  refine ⟨fun hlt => ⟨by omega, by omega, f'.set1 (by omega) (by omega) hx fun h'' u2 f'' => ⟨_, by omega, i + 1, e_succ (by omega), by omega, ⟨_, f''⟩, u.trans u2, rfl⟩⟩, fun hge => hF h' vs' f' u⟩
theorem Rd.apart {h0 h h' : Heap} {a b : Option Addr} {n m c : Nat} {vs ws : List Value} (r : Rd h a n vs) (u : Upd (atb b) h h') (hn : ∀ x y, a = some x → b = some y → x.block ≠ y.block) : Rd h' a n vs :=
  r.upd u fun ad ha ⟨y, hy, e⟩ => hn ad y ha hy e
/-- Rows of an older memory stand elsewhere. -/
theorem Rd.old {h0 h : Heap} {a : Option Addr} {n : Nat} {vs : List Value} (r : Rd h0 a n vs) (x : Ext h0 h) {b : Option Addr} (hb : ∀ y, b = some y → h0.size ≤ y.block) {h' : Heap} (u : Upd (atb b) h h') : Rd h' a n vs := by
  cases a with
  | none => exact ⟨r.read, r.len⟩
  | some ad =>
    refine ⟨fun i v hv => ?_, r.len⟩
    have hc := r.read i v hv
    have hlt := cellH_lt hc
    rw [add_block] at hlt
    refine u.cell ?_ (x.cell hc)
    rw [add_block]
    rintro ⟨y, hy, e⟩
    have := hb y hy
    omega
theorem shape_tx (row : List Bool) : ∃ s e, txV row = .tuple #[.string s, .int .i64 e] := by unfold txV; split <;> exact ⟨_, _, rfl⟩
theorem shape_ix (row : List Bool) : ∃ s e, ixV row = .tuple #[.int .i64 s, .int .i64 e] := by unfold ixV; split <;> exact ⟨_, _, rfl⟩
theorem len_pkL (row : List Bool) : (pkL row).length ≤ 300 := by unfold pkL; split; simp; unfold packL; rw [packN_len]; unfold nw; omega
theorem Fr.lt_of {h0 h : Heap} {a : Option Addr} {n c : Nat} {vs : List Value} (f : Fr h0 1 h a n c vs) : ∀ y, a = some y → y.block < h.size := fun y hy => by subst hy; exact f.own.lt
/-- WordsRows. -/
theorem c5 {rA : Option Addr} {rN rC : Nat} {row : List Bool} {h : Heap} (r : Rd h rA rN (bools row)) (hn : rN ≤ 140737488351232) (g : Gl h) : CallsH Tryd.prog 5 #[.slice rA rN rC] h (Yes h) := by
  have hlen : row.length = rN := by have := r.len; rwa [List.length_map] at this
  obtain ⟨s1, s2, hs⟩ := shape_tx row
  obtain ⟨i1, i2, hi⟩ := shape_ix row
  have hpl := len_pkL row
  refine run5 rA rN rC _ h (copied (f := Value.bool) (fun _ => rfl) r true (by omega) fun a0 c0 h3 f3 => ?_)
  have hcap := f3.own.cap
  refine ⟨by omega, by omega, by omega, ?_⟩
  rw [cut0]
  have e1 : Int.toNat ((rN : Nat) : Int) - Int.toNat 0 = rN := by simp
  have rin : Rd h3 a0 rN (bools row) := rd_take f3.rd hlen
  rw [e1]
  have x3 : Ext h h3 := f3.ext
  refine (c20 rin).mono ?_
  rintro v h4 ⟨a4, k4, rfl, f4⟩
  refine ⟨_, _, _, _, rfl, (c20 (rin.ext f4.ext)).mono ?_⟩
  rintro v h5 ⟨a5, k5, rfl, f5⟩
  have x5 := f4.ext.trans f5.ext
  refine ⟨_, _, _, _, rfl, (c21 (r.ext (x3.trans x5))).mono ?_⟩
  rintro v h6 ⟨a6, k6, rfl, f6⟩
  have x6 := x5.trans f6.ext
  refine ⟨_, _, _, _, rfl, useX (c22 (rin.ext x6)) fun h7 x7 => ⟨_, _, hs, useX (c23 (r.ext (x3.trans (x6.trans x7)))) fun h8 x8 => ⟨_, _, hs, useX (c24 (rin.ext (x6.trans (x7.trans x8)))) fun h9 x9 => ⟨_, _, hi, useX (c25 (r.ext (x3.trans (x6.trans (x7.trans (x8.trans x9)))))) fun h10 x10 => ⟨_, _, hi, ?_⟩⟩⟩⟩⟩
  have x610 : Ext h6 h10 := x7.trans (x8.trans (x9.trans x10))
  have x310 : Ext h3 h10 := x6.trans x610
  have f4' := f4.upd (f5.ext.trans (f6.ext.trans x610))
  have f5' := f5.upd (f6.ext.trans x610)
  have f6' := f6.upd x610
  refine use (c19 f4'.rd f6'.rd (by omega)) ⟨_, rfl, ?_⟩
  rw [decide_eq_true rfl]
  refine BIf.f (pt rfl (pt rfl (pt rfl (pt rfl (pt rfl ?_)))))
  have hnew : ∀ y, a4 = some y → h3.size ≤ y.block := f4.new
  refine over_loop f4' (.int .u64 77) rfl (by omega) fun h12 vs f12 u12 => ?_
  have lt4 := Fr.lt_of f4
  have rd5 : Rd h12 a5 _ _ := f5'.rd.upd u12 fun ad ha ⟨y, hy, e⟩ => by have := f5.new ad ha; have := lt4 y hy; omega
  have rd6 : Rd h12 a6 _ _ := f6'.rd.upd u12 fun ad ha ⟨y, hy, e⟩ => by have := f6.new ad ha; have := lt4 y hy; have := f5.ext.1; omega
  refine use (c19 rd5 rd6 (by omega)) ⟨_, rfl, ?_⟩
  rw [decide_eq_true rfl, cut0, e1]
  have rin' : Rd h12 a0 rN (bools row) := Rd.old rin x310 hnew u12
  have r' : Rd h12 rA rN (bools row) := Rd.old r (x3.trans x310) (fun y hy => Nat.le_trans x3.1 (hnew y hy)) u12
  refine BIf.t (use (c26 rin' r' (by omega)) ⟨_, rfl, ?_⟩)
  rw [decide_eq_true rfl]
  have y12 : Ext h h12 := x3.trans f12.ext
  exact BIf.t (useX (c12 h12 (g.ext y12)) fun h8 x8 => ⟨_, rfl, rfl, y12.trans x8⟩)
end Go.Proofs.YtbgjbokcngdnfaaDoor
