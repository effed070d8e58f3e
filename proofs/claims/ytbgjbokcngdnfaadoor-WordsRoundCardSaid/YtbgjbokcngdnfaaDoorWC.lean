/- Words and facts that the claim's proof leans on. No condition. -/
import Derived.Test.YtbgjbokcngdnfaaDoorWB
set_option linter.unusedVariables false
set_option linter.unusedSimpArgs false
namespace Go.Proofs.YtbgjbokcngdnfaaDoor
open Go.Hx

/-! ### A number out of its bytes -/
def dec : Nat → List UInt8 → Option (Nat × Nat)
  | 0, _ => none
  | _ + 1, [] => none
  | k + 1, b :: l => if b.toNat < 128 then some (b.toNat, 1) else (dec k l).map fun p => (b.toNat % 128 + 128 * p.1, p.2 + 1)
theorem dec_put {k : Nat} : ∀ {l : List UInt8} {n c : Nat}, dec k l = some (n, c) → 1 ≤ c ∧ c ≤ l.length ∧ n < 128 ^ c ∧ (putL n = l.take c ↔ (c = 1 ∨ ∃ b, l[c - 1]? = some b ∧ b.toNat ≠ 0)) ∧ (c ≠ 1 → (∃ b, l[c - 1]? = some b ∧ b.toNat ≠ 0) → n ≠ 0) := by
  induction k with
  | zero => intro l n c h; cases h
  | succ k ih =>
    intro l n c h
    match l with
    | [] => cases h
    | b :: l =>
      unfold dec at h
      split at h
      · rename_i hb
        obtain ⟨rfl, rfl⟩ : b.toNat = n ∧ 1 = c := by simpa using h
        refine ⟨by omega, by simp, by simpa using hb, ⟨fun _ => .inl rfl, fun _ => ?_⟩, fun h => absurd rfl h⟩
        rw [putL_lt hb]; simp
      · rename_i hb
        cases hd : dec k l with
        | none => rw [hd] at h; cases h
        | some p =>
          obtain ⟨x, d⟩ := p
          rw [hd] at h
          obtain ⟨rfl, rfl⟩ : b.toNat % 128 + 128 * x = n ∧ d + 1 = c := by simpa using h
          obtain ⟨h1, h2, h3, h4, h5⟩ := ih hd
          have hb256 := b.toNat_lt
          have e3 : l[d - 1]? = (b :: l)[d + 1 - 1]? := by
            rw [show d + 1 - 1 = d - 1 + 1 by omega, List.getElem?_cons_succ]
          have hxz : (∃ b', (b :: l)[d + 1 - 1]? = some b' ∧ b'.toNat ≠ 0) → x ≠ 0 := by
            rw [← e3]
            intro hh
            by_cases hd1 : d = 1
            · subst hd1
              obtain ⟨b', hb', hne⟩ := hh
              intro hx0
              subst hx0
              have := h4.2 (.inl rfl)
              rw [putL_lt (by omega)] at this
              cases l with
              | nil => cases hb'
              | cons b2 l2 =>
                simp at hb' this
                subst hb'
                rw [← this] at hne
                exact hne rfl
            · exact h5 hd1 hh
          refine ⟨by omega, by simp; omega, ?_, ?_, fun _ hh => ?_⟩
          · rw [Nat.pow_succ]; omega
          · rw [← e3]
            constructor
            · intro hp
              refine .inr ?_
              have hx0 : x ≠ 0 := by
                intro hx0
                subst hx0
                rw [putL_lt (by omega)] at hp
                have := congrArg List.length hp
                rw [List.length_take, List.length_cons] at this
                simp only [List.length_cons, List.length_nil] at this
                omega
              rw [putL_ge (by omega), show (b.toNat % 128 + 128 * x) / 128 = x by omega, List.take_succ_cons] at hp
              have hp2 := (List.cons.inj hp).2
              rcases h4.1 hp2 with h6 | h6
              · subst h6
                cases l with
                | nil => simp at h2
                | cons b2 l2 =>
                  refine ⟨b2, rfl, fun h0 => hx0 ?_⟩
                  cases k with
                  | zero => cases hd
                  | succ k =>
                    unfold dec at hd
                    rw [if_pos (by omega)] at hd
                    simp at hd
                    omega
              · exact h6
            · intro hh
              have hh2 : ∃ b', l[d - 1]? = some b' ∧ b'.toNat ≠ 0 := by
                rcases hh with hh | hh
                · omega
                · exact hh
              have hx0 := hxz (e3 ▸ hh2)
              rw [putL_ge (by omega), show (b.toNat % 128 + 128 * x) / 128 = x by omega, List.take_succ_cons, (h4.2 (.inr hh2)), show (b.toNat % 128 + 128 * x) % 128 + 128 = b.toNat by omega]
              simp
          · have := hxz hh; omega
theorem dec_of_put {k : Nat} : ∀ {n : Nat} {r : List UInt8}, (putL n).length ≤ k → dec k (putL n ++ r) = some (n, (putL n).length) := by
  induction k with
  | zero => intro n r h; have := putL_pos n; omega
  | succ k ih =>
    intro n r h
    by_cases hn : n < 128
    · rw [putL_lt hn]
      have : (UInt8.ofNat n).toNat = n := by have := ofNat_toNat (n := n) (by omega); omega
      simp only [List.cons_append, List.nil_append, dec, this, if_pos hn, List.length_cons, List.length_nil]
    · rw [putL_ge (by omega)] at h ⊢
      have : (UInt8.ofNat (n % 128 + 128)).toNat = n % 128 + 128 := by have := ofNat_toNat (n := n % 128 + 128) (by omega); omega
      rw [List.cons_append, dec, this, if_neg (by omega), ih (by simp at h; omega)]
      simp
      omega

def getR (s : ByteArray) (a : Nat) : Option (Nat × Nat) := match dec 5 ((B s).drop a) with
  | some (n, c) => if putL n = ((B s).drop a).take c ∧ n ≤ 2147483647 then some (n, c) else none
  | none => none
def getV (s : ByteArray) (at_ : Int) : Value := if gvn s at_ = 0 then (match getR s at_.toNat with
  | some (n, c) => .tuple #[.int .i64 n, .int .i64 (at_ + c), flt 0 0]
  | none => .tuple #[.int .i64 0, .int .i64 0, flt at_ 20]) else .tuple #[.int .i64 0, .int .i64 0, flt 0 (gvn s at_)]

theorem dec_drop {s : ByteArray} {i : Nat} {k : Nat} (hi : i < (B s).length) : dec (k + 1) ((B s).drop i) = if (B s)[i].toNat < 128 then some ((B s)[i].toNat, 1) else (dec k ((B s).drop (i + 1))).map fun p => ((B s)[i].toNat % 128 + 128 * p.1, p.2 + 1) := by
  rw [List.drop_eq_getElem_cons hi, dec]
theorem dec_end {s : ByteArray} {i : Nat} {k : Nat} (hi : (B s).length ≤ i ∨ k = 0) : dec k ((B s).drop i) = none := by
  rcases hi with hi | hi
  · rw [List.drop_eq_nil_of_le hi]; cases k <;> rfl
  · subst hi; rfl

/-- What Get0's loop has done. -/
def GInv (s : ByteArray) (a k n : Nat) : Prop := n < 128 ^ k ∧ k ≤ 5 ∧ a + k ≤ (B s).length ∧ dec 5 ((B s).drop a) = (dec (5 - k) ((B s).drop (a + k))).map fun p => (n + 128 ^ k * p.1, p.2 + k)
theorem GInv.zero {s : ByteArray} {a : Nat} (h : a ≤ (B s).length) : GInv s a 0 0 := ⟨by simp, by omega, h, by simp [Option.map_id']⟩
theorem GInv.fin {s : ByteArray} {a k n : Nat} (g : GInv s a k n) (hk : k < 5) (hi : a + k < (B s).length) (hb : (B s)[a + k].toNat < 128) : dec 5 ((B s).drop a) = some (n + 128 ^ k * (B s)[a + k].toNat, k + 1) := by
  obtain ⟨h1, h2, h3, h4⟩ := g
  rw [h4, show 5 - k = (4 - k) + 1 by omega, dec_drop hi, if_pos hb]
  simp [Nat.add_comm]
theorem GInv.step {s : ByteArray} {a k n : Nat} (g : GInv s a k n) (hk : k < 5) (hi : a + k < (B s).length) (hb : ¬ (B s)[a + k].toNat < 128) : GInv s a (k + 1) (n + 128 ^ k * ((B s)[a + k].toNat % 128)) := by
  obtain ⟨h1, h2, h3, h4⟩ := g
  refine ⟨?_, by omega, by omega, ?_⟩
  · have h6 := Nat.mul_le_mul_left (128 ^ k) (show (B s)[a + k].toNat % 128 ≤ 127 by omega)
    rw [Nat.pow_succ]; omega
  · rw [h4, show 5 - k = (5 - (k + 1)) + 1 by omega, dec_drop hi, if_neg hb, Option.map_map]
    rw [show a + k + 1 = a + (k + 1) by omega]
    congr 1
    funext p
    simp only [Function.comp, Prod.mk.injEq]
    rw [Nat.mul_add, Nat.pow_succ, ← Nat.mul_assoc, Nat.add_assoc]
    exact ⟨rfl, by omega⟩
theorem GInv.none {s : ByteArray} {a k n : Nat} (g : GInv s a k n) (hi : (B s).length ≤ a + k ∨ 5 ≤ k) : dec 5 ((B s).drop a) = .none := by
  obtain ⟨h1, h2, h3, h4⟩ := g
  rw [h4, dec_end (by omega)]; rfl

theorem pow128 {k : Nat} (hk : k ≤ 5) : 128 ^ k ≤ 34359738368 := Nat.le_trans (Nat.pow_le_pow_right (by omega) hk) (by decide)

/-- What Get0 hands back. -/
def get0V (s : ByteArray) (a : Nat) (v : Value) : Prop := match getR s a with
  | some (n, c) => v = .tuple #[.int .i64 n, .int .i64 (a + c), .bool true]
  | none => ∃ x y : Int, v = .tuple #[.int .i64 x, .int .i64 y, .bool false]
theorem c57 (s : ByteArray) (a : Nat) (h : Heap) (hg : gvn s a = 0) : CallsH Tryd.prog 57 #[.string s, .int .i64 a] h fun v h' => Ext h h' ∧ get0V s a v := by
  have ⟨hs, _, ha⟩ := gvn0 hg
  have hlen := B_len s
  refine run57 s a _ h ?_
  refine ⟨fun st h' m => ∃ k n : Nat, st = ((n : Int), ((128 ^ k : Nat) : Int), ((a + k : Nat) : Int)) ∧ GInv s a k n ∧ Ext h h' ∧ m = 5 - k, ⟨5, 0, 0, rfl, .zero (by omega), .refl _, rfl⟩, ?_⟩
  rintro st h' m ⟨k, n, rfl, g, x, rfl⟩
  have hp := pow128 g.2.1
  have hn := g.1
  have ha2 := g.2.2.1
  have hend : ((B s).length ≤ a + k ∨ 5 ≤ k) → J57_0 (fun v h' => Ext h h' ∧ get0V s a v) h' := fun hi => by
    refine ⟨x, ?_⟩
    unfold get0V getR
    rw [g.none hi]
    exact ⟨_, _, rfl⟩
  refine ⟨fun h1 => ⟨fun h2 => ?_, fun h2 => hend (.inr ?_)⟩, fun h1 => hend (.inl (by simp only at h1; omega))⟩
  · simp only at h1 h2
    rw [w64 (by omega) (by omega)] at h2
    have hi : a + k < (B s).length := by omega
    have hk : k < 5 := by omega
    have hb := byteAt_eq s ((a + k : Nat) : Int) (by omega) (by rw [Int.toNat_natCast]; exact hi)
    simp only [Int.toNat_natCast] at hb
    have hb256 := ((B s)[a + k]).toNat_lt
    have hk4 : 128 ^ k ≤ 268435456 := Nat.le_trans (Nat.pow_le_pow_right (by omega) (show k ≤ 4 by omega)) (by decide)
    unfold J57_1
    simp only [hb]
    have hmul : (((B s)[a + k].toNat : Int) % 128) * ((128 ^ k : Nat) : Int) = ((128 ^ k * ((B s)[a + k].toNat % 128) : Nat) : Int) := by rw [Int.natCast_mul, Int.mul_comm]; congr 1
    have hle : 128 ^ k * ((B s)[a + k].toNat % 128) ≤ 268435456 * 127 := Nat.mul_le_mul hk4 (by omega)
    have e1 : IntKind.wrap .i64 ((n : Int) + IntKind.wrap .i64 (Int.tmod (IntKind.wrap .i64 ((B s)[a + k].toNat : Int)) 128 * ((128 ^ k : Nat) : Int))) = ((n + 128 ^ k * ((B s)[a + k].toNat % 128) : Nat) : Int) := by
      rw [w64 (x := ((B s)[a + k].toNat : Int)) (by omega) (by omega), Int.tmod_eq_emod_of_nonneg (by omega), hmul, w64 (x := ((128 ^ k * ((B s)[a + k].toNat % 128) : Nat) : Int)) (by omega) (by omega), w64 (by omega) (by omega)]
      omega
    have e2 : IntKind.wrap .i64 (((a + k : Nat) : Int) + 1) = ((a + (k + 1) : Nat) : Int) := by rw [w64 (by omega) (by omega)]; omega
    rw [e1, e2]
    refine ⟨by omega, by omega, fun hlt => ?_, fun hge => ?_⟩
    · rw [w64 (by omega) (by omega)] at hlt
      have hd := g.fin hk hi (by omega)
      rw [show (B s)[a + k].toNat % 128 = (B s)[a + k].toNat by omega]
      refine useX (c27 _ _) fun h2 x2 => ?_
      unfold putV
      have hR : ∀ v, get0V s a v → Ext h h2 ∧ get0V s a v := fun v hv => ⟨x.trans x2, hv⟩
      have hex : B (s.extract (Int.toNat (a : Int)) (Int.toNat ((a + (k + 1) : Nat) : Int))) = ((B s).drop a).take (k + 1) := by
        rw [B_extract]; congr 1; omega
      have hgr : getR s a = if putL (n + 128 ^ k * (B s)[a + k].toNat) = ((B s).drop a).take (k + 1) ∧ n + 128 ^ k * (B s)[a + k].toNat ≤ 2147483647 then some (n + 128 ^ k * (B s)[a + k].toNat, k + 1) else none := by unfold getR; rw [hd]
      cases hin : isN ((n + 128 ^ k * (B s)[a + k].toNat : Nat) : Int) with
      | false =>
        have := isN_f.1 hin
        refine ⟨mk [], 1, rfl, fun h0 => by omega, fun _ => hR _ ?_⟩
        unfold get0V
        rw [hgr, if_neg (by omega)]
        exact ⟨_, _, rfl⟩
      | true =>
        have := isN_t.1 hin
        refine ⟨mk (putL (n + 128 ^ k * (B s)[a + k].toNat)), 0, by rw [if_pos rfl, Int.toNat_natCast], fun _ => ⟨by omega, by omega, by omega, fun he => hR _ ?_, fun hne => hR _ ?_⟩, fun h0 => absurd rfl h0⟩
        · unfold get0V
          rw [hgr, if_pos ⟨(congrArg B he).trans hex, by omega⟩]
          rfl
        · unfold get0V
          rw [hgr, if_neg]
          · exact ⟨_, _, rfl⟩
          · rintro ⟨h5, _⟩
            exact hne (B_inj (h5.trans hex.symm))
    · rw [w64 (by omega) (by omega)] at hge
      have e3 : IntKind.wrap .i64 (((128 ^ k : Nat) : Int) * 128) = ((128 ^ (k + 1) : Nat) : Int) := by
        rw [Nat.pow_succ, w64 (by omega) (by omega)]; simp
      rw [e3]
      exact ⟨5 - (k + 1), by omega, k + 1, _, rfl, g.step hk hi (by omega), x, rfl⟩
  · simp only at h2
    rw [w64 (by omega) (by omega)] at h2
    omega

/-- The frame of the document's Get and Number. -/
theorem frame56 {s : ByteArray} {at_ : Int} {h : Heap} {R : Value → Heap → Prop} {J : Heap → Prop} (hJ : gvn s at_ = 0 → ∀ h', Fr h 1 h' (some ⟨h.size, 0, none⟩) 2 2 [.int .i64 0, .int .i64 0] → J h')
    (hR : gvn s at_ ≠ 0 → ∀ h', Ext h h' → R (.tuple #[.int .i64 0, .int .i64 0, flt 0 (gvn s at_)]) h') :
    let h_ : Heap := (h).push (.cells #[(.int .i64 0), (.int .i64 0)] 25); CallsH Tryd.prog 56 #[(.string s), (.int .i64 at_)] h_ fun v h_1 =>
 ∃ (t : Int), ∃ (t1 : Int), v = (.agg #[(.int .i64 t), (.int .i64 t1)]) ∧ let h_2 : Heap := (h_1).push (.cells #[(.int .i64 0), (.int .i64 0)] 25); StoreH h_2 (Addr.mk (h_1).size 0 none) [(.int .i64 t), (.int .i64 t1)] fun h_3 => ∃ (t2 : Int), cellH h_3 (Addr.add (Addr.mk (h_1).size 0 none) 1) = some (.int .i64 t2) ∧ PIf ((t2 : Int) = 0)
 (J h_3)
 (∃ (t3 : Int), ∃ (t4 : Int), cellsH h_3 (Addr.mk (h_1).size 0 none) 0 [(.int .i64 t3), (.int .i64 t4)] ∧ StoreH h_3 (Addr.mk (h).size 0 none) [(.int .i64 t3), (.int .i64 t4)] fun h_4 => ∃ (t5 : Int), ∃ (t6 : Int), cellsH h_4 (Addr.mk (h).size 0 none) 0 [(.int .i64 t5), (.int .i64 t6)] ∧ R (.tuple #[(.int .i64 0), (.int .i64 0), (.agg #[(.int .i64 t5), (.int .i64 t6)])]) h_4) := by
  intro h_
  have f0 : Fr h 1 h_ (some ⟨h.size, 0, none⟩) 2 2 _ := Fr.two h 0 0 25
  refine useX (c56 s at_ h_) fun h1 x1 => ⟨_, _, rfl, ?_⟩
  intro h_2
  have lt : h.size < h1.size := Nat.lt_of_lt_of_le f0.own.lt x1.1
  have f1 : Fr h 1 h_2 (some ⟨h1.size, 0, none⟩) 2 2 _ := Fr.two' (f0.upd x1).ext 0 0 25
  have f02 : Fr h 1 h_2 (some ⟨h.size, 0, none⟩) 2 2 _ := (f0.upd x1).upd (Ext.push _ _)
  refine f1.put rfl (by simp [Value.oneCell']) fun h3 f3 u3 => ?_
  have f03 : Fr h 1 h3 (some ⟨h.size, 0, none⟩) 2 2 _ := f02.other u3 (fun x y hx hy => by cases hx; cases hy; exact Nat.ne_of_lt lt) (fun y hy => by cases hy; exact Nat.le_of_lt lt)
  refine ⟨gvn s at_, f3.rd.read 1 _ rfl, fun hg => hJ hg h3 f03, fun hg => ?_⟩
  exact ⟨_, _, f3.rd.cells, fl f03 _ _ fun h' f _ => hR hg h' f.ext⟩
theorem frame44 {s : ByteArray} {at_ : Int} {h : Heap} {R : Value → Heap → Prop} {J : Heap → Prop} (hJ : gvn s at_ = 0 → ∀ h', Fr h 1 h' (some ⟨h.size, 0, none⟩) 2 2 [.int .i64 0, .int .i64 0] → J h')
    (hR : gvn s at_ ≠ 0 → ∀ h', Ext h h' → R (.tuple #[.int .i64 0, .int .i64 0, flt 0 (gvn s at_)]) h') :
 let h_ : Heap := (h).push (.cells #[(.int .i64 0), (.int .i64 0)] 25); CallsH Tryd.prog 44 #[(.string s), (.int .i64 at_)] h_ fun v h_1 =>
 ∃ (t : Int), ∃ (t1 : Int), v = (.agg #[(.int .i64 t), (.int .i64 t1)]) ∧ let h_2 : Heap := (h_1).push (.cells #[(.int .i64 0), (.int .i64 0)] 25); StoreH h_2 (Addr.mk (h_1).size 0 none) [(.int .i64 t), (.int .i64 t1)] fun h_3 => ∃ (t2 : Int), ∃ (t3 : Int), cellsH h_3 (Addr.mk (h_1).size 0 none) 0 [(.int .i64 t2), (.int .i64 t3)] ∧ PIf ((#[(.int .i64 t2), (.int .i64 t3)] : Array Value) = #[(.int .i64 0), (.int .i64 0)])
 (J h_3)
 (∃ (t8 : Int), ∃ (t9 : Int), cellsH h_3 (Addr.mk (h_1).size 0 none) 0 [(.int .i64 t8), (.int .i64 t9)] ∧ StoreH h_3 (Addr.mk (h).size 0 none) [(.int .i64 t8), (.int .i64 t9)] fun h_12 => ∃ (t10 : Int), ∃ (t11 : Int), cellsH h_12 (Addr.mk (h).size 0 none) 0 [(.int .i64 t10), (.int .i64 t11)] ∧ R (.tuple #[(.int .i64 0), (.int .i64 0), (.agg #[(.int .i64 t10), (.int .i64 t11)])]) h_12) := by
  intro h_
  have f0 : Fr h 1 h_ (some ⟨h.size, 0, none⟩) 2 2 _ := Fr.two h 0 0 25
  refine useX (c44 s at_ h_) fun h1 x1 => ⟨_, _, rfl, ?_⟩
  intro h_2
  have lt : h.size < h1.size := Nat.lt_of_lt_of_le f0.own.lt x1.1
  have f1 : Fr h 1 h_2 (some ⟨h1.size, 0, none⟩) 2 2 _ := Fr.two' (f0.upd x1).ext 0 0 25
  have f02 : Fr h 1 h_2 (some ⟨h.size, 0, none⟩) 2 2 _ := (f0.upd x1).upd (Ext.push _ _)
  refine f1.put rfl (by simp [Value.oneCell']) fun h3 f3 u3 => ?_
  have f03 : Fr h 1 h3 (some ⟨h.size, 0, none⟩) 2 2 _ := f02.other u3 (fun x y hx hy => by cases hx; cases hy; exact Nat.ne_of_lt lt) (fun y hy => by cases hy; exact Nat.le_of_lt lt)
  refine ⟨_, _, f3.rd.cells, fun hg => hJ (flt_eq.1 hg).2 h3 f03, fun hg => ?_⟩
  exact ⟨_, _, f3.rd.cells, fl f03 _ _ fun h' f _ => hR (fun h0 => hg (flt_eq.2 ⟨rfl, h0⟩)) h' f.ext⟩

theorem getV0 {s : ByteArray} {a : Nat} (hg : gvn s a = 0) : getV s a = (match getR s a with
      | some (n, c) => .tuple #[.int .i64 n, .int .i64 (a + c), flt 0 0]
      | none => .tuple #[.int .i64 0, .int .i64 0, flt a 20]) := by unfold getV; rw [if_pos hg]; rfl
theorem getV1 {s : ByteArray} {a : Int} (hg : gvn s a ≠ 0) : getV s a = .tuple #[.int .i64 0, .int .i64 0, flt 0 (gvn s a)] := by unfold getV; rw [if_neg hg]
theorem c31 (s : ByteArray) (at_ : Int) (h : Heap) : CallsH Tryd.prog 31 #[.string s, .int .i64 at_] h (Xt (getV s at_) h) := by
  refine run31 s at_ _ h (frame56 (J := J31_0 Tryd.prog (Xt (getV s at_) h) h s at_) (fun hg h3 f03 => ?_) fun hg h' x => ⟨(getV1 hg).symm, x⟩)
  obtain ⟨a, rfl⟩ : ∃ a : Nat, at_ = a := ⟨at_.toNat, by have := gvn0 hg; omega⟩
  refine (c57 s a h3 hg).mono ?_
  rintro v h4 ⟨x4, hv⟩
  have f04 := f03.upd x4
  rw [getV0 hg]
  unfold get0V at hv
  cases hr : getR s a with
  | some p =>
    obtain ⟨n, c⟩ := p
    rw [hr] at hv
    subst hv
    exact ⟨_, _, _, rfl, fl f04 _ _ fun h' f _ => ⟨rfl, f.ext⟩⟩
  | none =>
    rw [hr] at hv
    obtain ⟨x, y, rfl⟩ := hv
    exact ⟨_, _, _, rfl, BIf.t (useX (c58 _ _ _) fun h5 x5 => ⟨_, _, rfl, fl (f04.upd x5) _ _ fun h' f _ => ⟨rfl, f.ext⟩⟩)⟩
theorem c13 (s : ByteArray) (at_ : Int) (h : Heap) : CallsH Tryd.prog 13 #[.string s, .int .i64 at_] h (Xt (getV s at_) h) := by
  refine run13 s at_ _ h (frame44 (J := J13_0 (Xt (getV s at_) h) h s at_) (fun hg h3 f03 => ?_) fun hg h' x => ⟨(getV1 hg).symm, x⟩)
  obtain ⟨a, rfl⟩ : ∃ a : Nat, at_ = a := ⟨at_.toNat, by have := gvn0 hg; omega⟩
  have ⟨hs, _, ha⟩ := gvn0 hg
  have hlen := B_len s
  rw [getV0 hg]
  refine ⟨fun st h' m => ∃ k n : Nat, st = ((n : Int), ((a + k : Nat) : Int)) ∧ GInv s a k n ∧ h' = h3 ∧ m = 5 - k, ⟨5, 0, 0, rfl, .zero (by omega), rfl, rfl⟩, ?_⟩
  rintro st _ m ⟨k, n, rfl, g, rfl, rfl⟩
  rename_i h'
  have hp := pow128 g.2.1
  have hn := g.1
  have ha2 := g.2.2.1
  have hbad : getR s a = none → J13_1 (Xt (match getR s a with
      | some (n, c) => .tuple #[.int .i64 n, .int .i64 (a + c), flt 0 0]
      | none => .tuple #[.int .i64 0, .int .i64 0, flt a 20]) h) h a h' := fun hr => fl f03 _ _ fun h' f _ => ⟨by rw [hr], f.ext⟩
  have hend : ((B s).length ≤ a + k ∨ 5 ≤ k) → getR s a = none := fun hi => by unfold getR; rw [g.none hi]
  have e0 : IntKind.wrap .i64 (((a + k : Nat) : Int) - a) = k := by rw [w64 (by omega) (by omega)]; omega
  refine ⟨fun h1 => ⟨fun h2 => ?_, fun h2 => hbad (hend (.inr (by simp only [e0] at h2; omega)))⟩, fun h1 => hbad (hend (.inl (by simp only at h1; omega)))⟩
  simp only [e0] at h1 h2
  have hi : a + k < (B s).length := by omega
  have hk : k < 5 := by omega
  have hb := byteAt_eq s ((a + k : Nat) : Int) (by omega) (by rw [Int.toNat_natCast]; exact hi)
  simp only [Int.toNat_natCast] at hb
  have hb256 := ((B s)[a + k]).toNat_lt
  have hk4 : 128 ^ k ≤ 268435456 := Nat.le_trans (Nat.pow_le_pow_right (by omega) (show k ≤ 4 by omega)) (by decide)
  have hle : 128 ^ k * ((B s)[a + k].toNat % 128) ≤ 268435456 * 127 := Nat.mul_le_mul hk4 (by omega)
  have e1 : bop .or .u64 (n : Int) (IntKind.wrap .u64 ((IntKind.wrap .u64 (bop .and .u8 ((B s)[a + k].toNat : Int) 127)) * 2 ^ min (Int.toNat (IntKind.wrap .i64 (7 * (k : Int)))) (IntKind.bits .u64))) = ((n + 128 ^ k * ((B s)[a + k].toNat % 128) : Nat) : Int) := by
    rw [show (127 : Int) = ((127 : Nat) : Int) from rfl, and8 _ _ (by omega) (by omega), show (127 : Nat) = 2 ^ 7 - 1 from rfl, Nat.and_two_pow_sub_one_eq_mod, w64 (x := 7 * (k : Int)) (by omega) (by omega),
      show min (7 * (k : Int)).toNat (IntKind.bits .u64) = 7 * k by simp only [IntKind.bits]; omega]
    have e5 : ((((B s)[a + k].toNat % 2 ^ 7 : Nat) : Int) * 2 ^ (7 * k)) = ((128 ^ k * ((B s)[a + k].toNat % 128) : Nat) : Int) := by
      rw [Int.natCast_mul, Int.mul_comm, show (128 : Nat) = 2 ^ 7 from rfl, ← Nat.pow_mul]; simp
    have e6 : IntKind.wrap .u64 (((B s)[a + k].toNat % 2 ^ 7 : Nat) : Int) = (((B s)[a + k].toNat % 2 ^ 7 : Nat) : Int) := by rw [wr_u64]; omega
    have e7 : IntKind.wrap .u64 ((128 ^ k * ((B s)[a + k].toNat % 128) : Nat) : Int) = ((128 ^ k * ((B s)[a + k].toNat % 128) : Nat) : Int) := by rw [wr_u64]; omega
    rw [e6, e5, e7, or64 _ _ (by omega) (by omega)]
    congr 1
    have hor := Nat.two_pow_add_eq_or_of_lt (i := 7 * k) (b := n) (by rw [Nat.pow_mul]; exact hn) ((B s)[a + k].toNat % 128)
    rw [Nat.pow_mul] at hor
    rw [Nat.or_comm]
    exact hor.symm.trans (Nat.add_comm _ _)
  unfold J13_2
  simp only [hb, e0, e1]
  have e2 : IntKind.wrap .i64 (((a + k : Nat) : Int) + 1) = ((a + (k + 1) : Nat) : Int) := by rw [w64 (by omega) (by omega)]; omega
  refine ⟨by omega, by omega, by rw [w64 (by omega) (by omega)]; omega, by omega, by omega, fun hge => ?_, fun hlt => ?_⟩
  · exact ⟨5 - (k + 1), by omega, k + 1, _, by rw [e2], g.step hk hi (by omega), by trivial, rfl⟩
  · have hd := g.fin hk hi (by omega)
    have hmod : (B s)[a + k].toNat % 128 = (B s)[a + k].toNat := by omega
    unfold J13_3 J13_4
    simp only [hb, e0, e1, e2, hmod]
    have hgr : getR s a = if putL (n + 128 ^ k * (B s)[a + k].toNat) = ((B s).drop a).take (k + 1) ∧ n + 128 ^ k * (B s)[a + k].toNat ≤ 2147483647 then some (n + 128 ^ k * (B s)[a + k].toNat, k + 1) else none := by unfold getR; rw [hd]
    have hcan := (dec_put hd).2.2.2.1
    have hlast : ((B s).drop a)[k + 1 - 1]? = some (B s)[a + k] := by rw [List.getElem?_drop, show a + (k + 1 - 1) = a + k by omega, List.getElem?_eq_getElem hi]
    have hgood : (k = 0 ∨ (B s)[a + k].toNat ≠ 0) → ¬ ((2147483647 : Int) < ((n + 128 ^ k * (B s)[a + k].toNat : Nat) : Int)) → getR s a = some (n + 128 ^ k * (B s)[a + k].toNat, k + 1) := fun h5 h6 => by
      rw [hgr, if_pos ⟨hcan.2 (by rcases h5 with h5 | h5; exact .inl (by omega); exact .inr ⟨_, hlast, h5⟩), by omega⟩]
    have hfin : getR s a = some (n + 128 ^ k * (B s)[a + k].toNat, k + 1) → StoreH h' (Addr.mk (h).size 0 none) [(.int .i64 0), (.int .i64 0)] fun h_11 => ∃ (t6 : Int), ∃ (t7 : Int), cellsH h_11 (Addr.mk (h).size 0 none) 0 [(.int .i64 t6), (.int .i64 t7)] ∧ Xt (match getR s a with
      | some (n, c) => .tuple #[.int .i64 n, .int .i64 (a + c), flt 0 0]
      | none => .tuple #[.int .i64 0, .int .i64 0, flt a 20]) h (.tuple #[(.int .i64 (IntKind.wrap .i64 ((n + 128 ^ k * (B s)[a + k].toNat : Nat) : Int))), (.int .i64 ((a + (k + 1) : Nat) : Int)), (.agg #[(.int .i64 t6), (.int .i64 t7)])]) h_11 := fun hr =>
      fl f03 _ _ fun h' f _ => ⟨by rw [hr, w64 (by omega) (by rw [hmod] at hle; omega)]; simp, f.ext⟩
    refine ⟨by omega, by omega, fun h0 => ⟨fun hgt => hbad ?_, fun hle2 => ⟨fun hbig => hbad ?_, fun hsm => hfin (hgood (.inl (by omega)) hsm)⟩⟩, fun hne => ⟨fun hbig => hbad ?_, fun hsm => hfin (hgood (.inr (by omega)) hsm)⟩⟩
    · rw [hgr, if_neg]
      rintro ⟨h5, _⟩
      rcases hcan.1 h5 with h6 | ⟨b, h6, h7⟩
      · omega
      · rw [hlast] at h6
        cases h6
        omega
    · rw [hgr, if_neg (by omega)]
    · rw [hgr, if_neg (by omega)]
end Go.Proofs.YtbgjbokcngdnfaaDoor
