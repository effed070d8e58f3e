/- Words and facts that the claim's proof leans on. No condition. -/
import Derived.Test.YtbgjbokcngdnfaaDoorWF
set_option linter.unusedVariables false
set_option linter.unusedSimpArgs false
namespace Go.Proofs.YtbgjbokcngdnfaaDoor
open Go.Hx

/-- A row that is filled. -/
def fillV {α : Type} (f : α → Value) (g : Nat → α) (n k : Nat) (z : Value) : List Value := (List.range k).map (fun i => f (g i)) ++ List.replicate (n - k) z
theorem fill_len {α : Type} {f : α → Value} {g : Nat → α} {n k : Nat} {z : Value} (h : k ≤ n) : (fillV f g n k z).length = n := by simp [fillV]; omega
theorem fill_step {α : Type} {f : α → Value} {g : Nat → α} {n k : Nat} {z : Value} (h : k < n) : (fillV f g n k z).set k (f (g k)) = fillV f g n (k + 1) z := by
  unfold fillV
  rw [List.set_append_right _ _ (by simp), List.range_succ, List.map_append]
  simp only [List.length_map, List.length_range, Nat.sub_self]
  rw [show n - k = n - (k + 1) + 1 by omega, List.replicate_succ, List.set_cons_zero]
  simp
theorem fill_full {α : Type} {f : α → Value} {g : Nat → α} {n : Nat} {z : Value} : fillV f g n n z = ((List.range n).map g).map f := by simp [fillV, List.map_map, Function.comp_def]
theorem fill_zero {α : Type} {f : α → Value} {g : Nat → α} {n : Nat} {z : Value} : fillV f g n 0 z = List.replicate n z := by simp [fillV]
theorem e_succ {k : Nat} (h : k < 4611686018427387904) : IntKind.wrap .i64 ((k : Int) + 1) = ((k + 1 : Nat) : Int) := by rw [w64 (by omega) (by omega)]; omega
theorem list_range {α : Type} (l : List α) (d : α) : (List.range l.length).map (fun i => l.getD i d) = l := by
  apply List.ext_getElem?
  intro i
  rw [List.getElem?_map]
  by_cases h : i < l.length
  · rw [List.getElem?_range h, List.getElem?_eq_getElem h, Option.map_some, List.getD_eq_getElem?_getD, List.getElem?_eq_getElem h]; rfl
  · rw [List.getElem?_eq_none (by simp; omega), List.getElem?_eq_none (by omega)]; rfl
theorem getD_lt {α : Type} {l : List α} {i : Nat} (h : i < l.length) (d : α) : l.getD i d = l[i] := by rw [List.getD_eq_getElem?_getD, List.getElem?_eq_getElem h]; rfl

/-! ### Texts of rows -/
def txB (row : List Bool) (i : Nat) : UInt8 := if row.getD i false then 49 else 48
def txt (row : List Bool) : List UInt8 := (List.range row.length).map (txB row)
def txV (row : List Bool) : Value := if 16384 < row.length then .tuple #[.string (mk []), .int .i64 2] else .tuple #[.string (mk (txt row)), .int .i64 0]
theorem c52 {rA : Option Addr} {rN rC : Nat} {row : List Bool} {h : Heap} (r : Rd h rA rN (bools row)) (hn : rN ≤ 1073741824) : CallsH Tryd.prog 52 #[.slice rA rN rC] h (Xt (.string (mk (txt row))) h) := by
  have hlen : row.length = rN := by have := r.len; rwa [List.length_map] at this
  refine run52 rA rN rC _ h ⟨by omega, by omega, by omega, ?_⟩
  simp only [Int.toNat_natCast]
  refine ⟨fun st h' m => ∃ k : Nat, st = (k : Int) ∧ k ≤ rN ∧ Fr h 1 h' (some ⟨h.size, 0, none⟩) rN rN (fillV u8v (txB row) rN k (.int .u8 0)) ∧ m = rN - k, ⟨rN, 0, rfl, by omega, by rw [fill_zero]; exact Fr.zeros _ _ _, rfl⟩, ?_⟩
  rintro st h' m ⟨k, rfl, hk, f, rfl⟩
  refine ⟨fun hlt => ?_, fun hge => ?_⟩
  · have hk2 : k < row.length := by omega
    unfold J52_1
    simp only [Int.toNat_natCast]
    refine ⟨by omega, by omega, f.at1 (j := (k : Int)) (by omega) (by omega) rfl fun h2 u f2 => ⟨by omega, by omega, (r.ext f2.ext).geti (j := (k : Int)) (by omega) (by omega) fun ad hl hc => ⟨_, hc, ?_⟩⟩⟩
    simp only [Int.toNat_natCast, e_succ (show k < 4611686018427387904 by omega)] at hl hc f2 ⊢
    have hd := getD_lt hk2 false
    cases hb : row[k] with
    | false =>
      refine ⟨_, by omega, k + 1, rfl, by omega, ?_, rfl⟩
      rw [← fill_step (by omega), show txB row k = 48 by unfold txB; rw [hd, hb]; rfl]
      exact f2
    | true =>
      refine ⟨by omega, by omega, f2.at1 (j := (k : Int)) (by omega) (by omega) rfl fun h3 u3 f3 => ⟨_, by omega, k + 1, rfl, by omega, ?_, rfl⟩⟩
      rw [← fill_step (by omega), show txB row k = 49 by unfold txB; rw [hd, hb]; rfl]
      simp only [Int.toNat_natCast, List.set_set] at f3
      exact f3
  · have hk3 : k = rN := by omega
    subst hk3
    rw [fill_full] at f
    refine ⟨mk (txt row), by rw [mk_size]; simp [txt]; omega, ?_, rfl, f.ext⟩
    rw [bytesV_mk]
    have := f.rd.read
    unfold txt
    rw [hlen]
    exact this
theorem c22 {rA : Option Addr} {rN rC : Nat} {row : List Bool} {h : Heap} (r : Rd h rA rN (bools row)) : CallsH Tryd.prog 22 #[.slice rA rN rC] h (Xt (txV row) h) := by
  have hlen : row.length = rN := by have := r.len; rwa [List.length_map] at this
  refine run22 rA rN rC _ h ⟨fun h1 => ?_, fun h1 => ?_⟩
  · unfold txV; rw [if_pos (by omega)]; exact ⟨rfl, .refl _⟩
  unfold J22_0
  refine ⟨by omega, by omega, by omega, ?_⟩
  simp only [Int.toNat_natCast]
  refine ⟨fun st h' m => ∃ k : Nat, st = (k : Int) ∧ k ≤ rN ∧ Fr h 1 h' (some ⟨h.size, 0, none⟩) rN rN (fillV u8v (txB row) rN k (.int .u8 0)) ∧ m = rN - k, ⟨rN, 0, rfl, by omega, by rw [fill_zero]; exact Fr.zeros _ _ _, rfl⟩, ?_⟩
  rintro st h' m ⟨k, rfl, hk, f, rfl⟩
  refine ⟨fun hlt => ?_, fun hge => ?_⟩
  · have hk2 : k < row.length := by omega
    unfold J22_2
    simp only [Int.toNat_natCast]
    refine ⟨by omega, by omega, (r.ext f.ext).geti (j := (k : Int)) (by omega) (by omega) fun ad hl hc => ⟨_, hc, by omega, by omega, f.at1 (j := (k : Int)) (by omega) (by omega) rfl fun h2 u f2 => ?_⟩⟩
    simp only [Int.toNat_natCast, e_succ (show k < 4611686018427387904 by omega)] at hl hc f2 ⊢
    have hd := getD_lt hk2 false
    cases hb : row[k] with
    | false =>
      refine ⟨_, by omega, k + 1, rfl, by omega, ?_, rfl⟩
      rw [← fill_step (by omega), show txB row k = 48 by unfold txB; rw [hd, hb]; rfl]
      exact f2
    | true =>
      have hc2 := f2.rd.read k (.int .u8 48) (by rw [List.getElem?_set_self (by rw [fill_len hk]; omega)])
      refine ⟨by omega, by omega, 48, by rw [Nat.mul_one]; exact hc2, by omega, by omega, f2.at1 (j := (k : Int)) (by omega) (by omega) rfl fun h3 u3 f3 => ⟨_, by omega, k + 1, rfl, by omega, ?_, rfl⟩⟩
      rw [← fill_step (by omega), show txB row k = 49 by unfold txB; rw [hd, hb]; rfl]
      simp only [Int.toNat_natCast, List.set_set] at f3
      exact f3
  · have hk3 : k = rN := by omega
    subst hk3
    rw [fill_full] at f
    refine ⟨mk (txt row), by rw [mk_size]; simp [txt]; omega, ?_, ?_, f.ext⟩
    · rw [bytesV_mk]
      have := f.rd.read
      unfold txt
      rw [hlen]
      exact this
    · unfold txV; rw [if_neg (by omega)]
theorem c23 {rA : Option Addr} {rN rC : Nat} {row : List Bool} {h : Heap} (r : Rd h rA rN (bools row)) : CallsH Tryd.prog 23 #[.slice rA rN rC] h (Xt (txV row) h) := by
  have hlen : row.length = rN := by have := r.len; rwa [List.length_map] at this
  refine run23 rA rN rC _ h ⟨fun h1 => ?_, fun h1 => useX (c52 r (by omega)) fun h' x => ⟨_, rfl, ?_, x⟩⟩
  · unfold txV; rw [if_pos (by omega)]; exact ⟨rfl, .refl _⟩
  · unfold txV; rw [if_neg (by omega)]

/-! ### Rows of texts -/
def isBit (b : UInt8) : Bool := decide (b.toNat = 48 ∨ b.toNat = 49)
def bad (s : ByteArray) : Nat := ((B s).takeWhile isBit).length
def btL (s : ByteArray) : List Bool := if 16384 < s.size ∨ bad s < s.size then [] else (List.range s.size).map fun i => decide (((B s).getD i 0).toNat = 49)
def btF (s : ByteArray) : Value := if 16384 < s.size then flt 0 2 else if bad s < s.size then flt (bad s) 21 else flt 0 0
theorem tw_at' {p : UInt8 → Bool} : ∀ {l : List UInt8} {k : Nat}, k < (l.takeWhile p).length → ∃ b, l[k]? = some b ∧ p b = true
  | [], k, h => by simp at h
  | a :: l, k, h => by
    by_cases ha : p a = true
    · rw [List.takeWhile_cons_of_pos ha] at h
      cases k with
      | zero => exact ⟨a, rfl, ha⟩
      | succ k => simpa using tw_at' (l := l) (k := k) (by simpa using h)
    · rw [List.takeWhile_cons_of_neg ha] at h; simp at h
theorem tw_end' {p : UInt8 → Bool} : ∀ {l : List UInt8}, (l[(l.takeWhile p).length]?).any p = false
  | [] => rfl
  | a :: l => by
    by_cases ha : p a = true
    · rw [List.takeWhile_cons_of_pos ha]; simpa using tw_end' (l := l)
    · rw [List.takeWhile_cons_of_neg ha]; simpa using ha
theorem bad_le (s : ByteArray) : bad s ≤ (B s).length := (List.takeWhile_sublist (l := B s) isBit).length_le
theorem bad_iff {s : ByteArray} {k : Nat} (hk : k ≤ bad s) (hi : k < (B s).length) : k < bad s ↔ isBit (B s)[k] = true := by
  constructor
  · intro h
    obtain ⟨b, h1, h2⟩ := tw_at' (p := isBit) h
    rw [List.getElem?_eq_getElem hi] at h1
    cases h1; exact h2
  · intro h
    rcases Nat.lt_or_ge k (bad s) with h1 | h1
    · exact h1
    · have := tw_end' (p := isBit) (l := B s)
      rw [show ((B s).takeWhile isBit).length = k by unfold bad at *; omega, List.getElem?_eq_getElem hi] at this
      rw [Option.any_some, h] at this; cases this
theorem byteAt_nat {s : ByteArray} {k : Nat} (hi : k < (B s).length) : byteAt s (k : Int) = ((B s)[k].toNat : Int) := by
  have := byteAt_eq s (k : Int) (by omega) (by rw [Int.toNat_natCast]; exact hi)
  simpa using this
def btG (s : ByteArray) (i : Nat) : Bool := decide (((B s).getD i 0).toNat = 49)
theorem btL_ok {s : ByteArray} (h1 : ¬ 16384 < s.size) (h2 : ¬ bad s < s.size) : btL s = (List.range s.size).map (btG s) := by unfold btL; rw [if_neg (by omega)]; rfl

theorem c34 (s : ByteArray) (h : Heap) : CallsH Tryd.prog 34 #[.string s] h (SlT Value.bool h (btL s) (btF s)) := by
  have hlen := B_len s
  refine run34 s _ h ?_
  unfold VC34
  intro h_
  have f0 : Fr h 1 h_ (some ⟨h.size, 0, none⟩) 2 2 _ := Fr.two h 0 0 25
  refine ⟨fun h1 => ?_, fun h1 => ?_⟩
  · refine fl f0 _ _ fun h' f _ => ?_
    unfold btL btF
    rw [if_pos (by omega), if_pos (by omega)]
    exact .nil f.ext
  unfold J34_0
  refine ⟨by omega, by omega, by omega, ?_⟩
  simp only [Int.toNat_natCast]
  have hne : h.size < h_.size := f0.own.lt
  refine ⟨fun st h' m => ∃ k : Nat, st = (k : Int) ∧ k ≤ s.size ∧ k ≤ bad s ∧ Fr h 1 h' (some ⟨h_.size, 0, none⟩) s.size s.size (fillV Value.bool (btG s) s.size k (.bool false)) ∧ Fr h 1 h' (some ⟨h.size, 0, none⟩) 2 2 [.int .i64 0, .int .i64 0] ∧ m = s.size - k, ⟨s.size, 0, rfl, by omega, by omega, ?_, f0.upd (Ext.push _ _), rfl⟩, ?_⟩
  · rw [fill_zero, zeroRow_one, Nat.mul_one]
    exact Fr.lit f0.ext (List.replicate s.size (.bool false)) 4 s.size (by simp)
  rintro st h' m ⟨k, rfl, hk, hkb, f, g, rfl⟩
  refine ⟨fun hlt => ?_, fun hge => ?_⟩
  · have hi : k < (B s).length := by omega
    unfold J34_2
    rw [byteAt_nat hi]
    have hb256 := ((B s)[k]).toNat_lt
    have hor : bop .or .u8 ((B s)[k].toNat : Int) 1 = 49 ↔ isBit (B s)[k] = true := by
      rw [show (1 : Int) = ((1 : Nat) : Int) from rfl, or8 _ _ (by omega) (by omega)]
      have key : ∀ b : Fin 256, (b.val ||| 1) = 49 ↔ decide (b.val = 48 ∨ b.val = 49) = true := by decide +kernel
      have := key ⟨(B s)[k].toNat, by omega⟩
      simp only at this
      unfold isBit
      rw [← this]; omega
    refine ⟨by omega, by omega, fun h2 => ?_, fun h2 => ?_⟩
    · have hbit := hor.1 h2
      have hk3 := (bad_iff hkb hi).2 hbit
      unfold J34_3
      rw [byteAt_nat hi]
      simp only [Int.toNat_natCast, e_succ (show k < 4611686018427387904 by omega)]
      have fin : ∀ b, btG s k = b → StoreH h' ((Addr.mk h_.size 0 none).add (k * 1)) [.bool b] fun h_8 => ∃ m', m' < s.size - k ∧ ∃ k1 : Nat, ((k + 1 : Nat) : Int) = (k1 : Int) ∧ k1 ≤ s.size ∧ k1 ≤ bad s ∧ Fr h 1 h_8 (some ⟨h_.size, 0, none⟩) s.size s.size (fillV Value.bool (btG s) s.size k1 (.bool false)) ∧ Fr h 1 h_8 (some ⟨h.size, 0, none⟩) 2 2 [.int .i64 0, .int .i64 0] ∧ m' = s.size - k1 := fun b hb =>
        f.at1 (j := (k : Int)) (by omega) (by omega) rfl fun h'' u f' => ⟨_, by omega, k + 1, rfl, by omega, by omega, by rw [← fill_step (by omega), hb]; exact f', g.other u (fun x y hx hy => by cases hx; cases hy; exact Nat.ne_of_lt hne) (fun y hy => by cases hy; exact Nat.le_of_lt hne), rfl⟩
      refine ⟨by omega, by omega, fun h49 => ⟨by omega, by omega, fin true ?_⟩, fun h49 => ⟨by omega, by omega, fin false ?_⟩⟩
      · unfold btG; rw [getD_lt hi, decide_eq_true (by omega)]
      · unfold btG; rw [getD_lt hi, decide_eq_false (by omega)]
    · have hk3 : ¬ k < bad s := fun h5 => h2 (hor.2 ((bad_iff hkb hi).1 h5))
      have hk4 : bad s = k := by omega
      refine fl g _ _ fun h' f _ => ?_
      unfold btL btF
      rw [if_pos (by omega), if_neg (by omega), if_pos (by omega), hk4]
      exact .nil f.ext
  · have hk3 : k = s.size := by omega
    subst hk3
    have hb := bad_le s
    unfold J34_1
    simp only [Int.toNat_natCast]
    refine fl g _ _ fun h' f' u => ?_
    have e : (btL s).length = s.size := by rw [btL_ok (s := s) (by omega) (by omega)]; simp
    unfold SlT
    rw [e]
    refine ⟨_, _, by unfold btF; rw [if_neg (by omega), if_neg (by omega)], ?_⟩
    rw [btL_ok (s := s) (by omega) (by omega), ← fill_full (z := .bool false)]
    exact f.other u (fun x y hx hy => by cases hx; cases hy; exact Nat.ne_of_gt hne) (fun y hy => by cases hy; exact Nat.le_refl _)
theorem c35 (s : ByteArray) (h : Heap) : CallsH Tryd.prog 35 #[.string s] h (SlT Value.bool h (btL s) (btF s)) := by
  have hlen := B_len s
  refine run35 s _ h ?_
  unfold VC35
  intro h_
  have f0 : Fr h 1 h_ (some ⟨h.size, 0, none⟩) 2 2 _ := Fr.two h 0 0 25
  refine ⟨fun h1 => ?_, fun h1 => ?_⟩
  · refine useX (c58 _ _ _) fun h1 x1 => ⟨_, _, rfl, fl (f0.upd x1) _ _ fun h' f _ => ?_⟩
    unfold btL btF
    rw [if_pos (by omega), if_pos (by omega)]
    exact .nil f.ext
  unfold J35_0
  refine ⟨by omega, by omega, by omega, ?_⟩
  simp only [Int.toNat_natCast]
  have hne : h.size < h_.size := f0.own.lt
  refine ⟨fun st h' m => ∃ k : Nat, st = (k : Int) ∧ k ≤ s.size ∧ k ≤ bad s ∧ Fr h 1 h' (some ⟨h_.size, 0, none⟩) s.size s.size (fillV Value.bool (btG s) s.size k (.bool false)) ∧ Fr h 1 h' (some ⟨h.size, 0, none⟩) 2 2 [.int .i64 0, .int .i64 0] ∧ m = s.size - k, ⟨s.size, 0, rfl, by omega, by omega, ?_, f0.upd (Ext.push _ _), rfl⟩, ?_⟩
  · rw [fill_zero, zeroRow_one, Nat.mul_one]
    exact Fr.lit f0.ext (List.replicate s.size (.bool false)) 4 s.size (by simp)
  rintro st h' m ⟨k, rfl, hk, hkb, f, g, rfl⟩
  refine ⟨fun hlt => ?_, fun hge => ?_⟩
  · have hi : k < (B s).length := by omega
    unfold J35_2
    rw [byteAt_nat hi]
    have hstep : isBit (B s)[k] = true → J35_3 s h_ k (fun st' h'_1 => ∃ m', m' < s.size - k ∧ ∃ k : Nat, st' = (k : Int) ∧ k ≤ s.size ∧ k ≤ bad s ∧ Fr h 1 h'_1 (some ⟨h_.size, 0, none⟩) s.size s.size (fillV Value.bool (btG s) s.size k (.bool false)) ∧ Fr h 1 h'_1 (some ⟨h.size, 0, none⟩) 2 2 [.int .i64 0, .int .i64 0] ∧ m' = s.size - k) h' := fun hbit => by
      have hk3 := (bad_iff hkb hi).2 hbit
      unfold J35_3
      rw [byteAt_nat hi]
      simp only [Int.toNat_natCast, e_succ (show k < 4611686018427387904 by omega)]
      have fin : ∀ b, btG s k = b → StoreH h' ((Addr.mk h_.size 0 none).add (k * 1)) [.bool b] fun h_8 => ∃ m', m' < s.size - k ∧ ∃ k1 : Nat, ((k + 1 : Nat) : Int) = (k1 : Int) ∧ k1 ≤ s.size ∧ k1 ≤ bad s ∧ Fr h 1 h_8 (some ⟨h_.size, 0, none⟩) s.size s.size (fillV Value.bool (btG s) s.size k1 (.bool false)) ∧ Fr h 1 h_8 (some ⟨h.size, 0, none⟩) 2 2 [.int .i64 0, .int .i64 0] ∧ m' = s.size - k1 := fun b hb =>
        f.at1 (j := (k : Int)) (by omega) (by omega) rfl fun h'' u f' => ⟨_, by omega, k + 1, rfl, by omega, by omega, by rw [← fill_step (by omega), hb]; exact f', g.other u (fun x y hx hy => by cases hx; cases hy; exact Nat.ne_of_lt hne) (fun y hy => by cases hy; exact Nat.le_of_lt hne), rfl⟩
      refine ⟨by omega, by omega, fun h49 => ⟨by omega, by omega, fin true ?_⟩, fun h49 => ⟨by omega, by omega, fin false ?_⟩⟩
      · unfold btG; rw [getD_lt hi, decide_eq_true (by omega)]
      · unfold btG; rw [getD_lt hi, decide_eq_false (by omega)]
    refine ⟨by omega, by omega, fun h48 => hstep (by unfold isBit; rw [decide_eq_true (by omega)]), fun h48 => ⟨by omega, by omega, fun h49 => hstep (by unfold isBit; rw [decide_eq_true (by omega)]), fun h49 => ?_⟩⟩
    have hk3 : ¬ k < bad s := fun h5 => by
      have := (bad_iff hkb hi).1 h5
      unfold isBit at this
      have := of_decide_eq_true this
      omega
    have hk4 : bad s = k := by omega
    refine useX (c58 _ _ _) fun h2 x2 => ⟨_, _, rfl, fl (g.upd x2) _ _ fun h' f _ => ?_⟩
    unfold btL btF
    rw [if_pos (by omega), if_neg (by omega), if_pos (by omega), hk4]
    exact .nil f.ext
  · have hk3 : k = s.size := by omega
    subst hk3
    have hb := bad_le s
    unfold J35_1
    simp only [Int.toNat_natCast]
    refine fl g _ _ fun h' f' u => ?_
    have e : (btL s).length = s.size := by rw [btL_ok (s := s) (by omega) (by omega)]; simp
    unfold SlT
    rw [e]
    refine ⟨_, _, by unfold btF; rw [if_neg (by omega), if_neg (by omega)], ?_⟩
    rw [btL_ok (s := s) (by omega) (by omega), ← fill_full (z := .bool false)]
    exact f.other u (fun x y hx hy => by cases hx; cases hy; exact Nat.ne_of_gt hne) (fun y hy => by cases hy; exact Nat.le_refl _)
end Go.Proofs.YtbgjbokcngdnfaaDoor
