/- Words and facts that the claim's proof leans on. No condition. -/
import Derived.Test.YtbgjbokcngdnfaaDoorWC
import Derived.Test.YtbgjbokcngdnfaaDoorWAc
import Derived.Test.YtbgjbokcngdnfaaDoorWSh
import Derived.Below
set_option linter.unusedVariables false
set_option linter.unusedSimpArgs false
namespace Go.Proofs.YtbgjbokcngdnfaaDoor
open Go.Hx Go.RowKit

/-! ### What the package-level variables hold -/
structure Gl (h : Heap) : Prop where
  syn : ∃ te pe, cellH h ⟨0, 0, none⟩ = some (.iface te pe)
  ran : ∃ te pe, cellH h ⟨1, 0, none⟩ = some (.iface te pe)
  pow : ∃ e fr, h[2]? = some (.cells (Lib.pow10Tab.map fun z => Value.int .u64 z).toArray e fr)
theorem Gl.ext {h h' : Heap} (g : Gl h) (x : Ext h h') : Gl h' := by
  obtain ⟨⟨a, b, hs⟩, ⟨c, d, hr⟩, ⟨e, f, hp⟩⟩ := g
  exact ⟨⟨a, b, x.cell hs⟩, ⟨c, d, x.cell hr⟩, ⟨e, f, by rw [x.2 _ (Array.getElem?_eq_some_iff.1 hp).1 (fun h => h)]; exact hp⟩⟩

theorem callsH_below {P : Program} {f : FuncId} {args : Array Value} {h : Heap} {R : Value → Prop} (hc : ∀ w : World, w.heap = h → Calls P f args w fun e w' => ∃ v, e = .returned v ∧ Below h.size w w' ∧ R v) :
    CallsH P f args h fun v h' => Ext h h' ∧ R v :=
  fun w hw => (hc w hw).mono fun e w' ⟨v, he, hb, hr⟩ => ⟨v, he, ⟨hb.tape, hb.os, hb.output⟩, by subst hw; exact ⟨⟨hb.size, fun b hlt _ => hb.block b hlt⟩, hr⟩⟩
theorem c54 (n : Int) (h0 : -9223372036854775808 ≤ n) (h1 : n ≤ 9223372036854775807) (h : Heap) (g : Gl h) : CallsH Tryd.prog 54 #[.int .i64 n] h (Xt (.string (mk (Lib.itoa n))) h) := by
  refine CallsH.mono (callsH_below (R := fun v => v = .string (mk (Lib.itoa n))) fun w hw => ?_) fun v h' ⟨x, hv⟩ => ⟨hv, x⟩
  have htab : Lib.TabIs Tryd.prog w "internal/strconv.uint64pow10" .u64 Lib.pow10Tab := by
    obtain ⟨e, fr, hp⟩ := g.pow
    unfold Lib.TabIs World.var?
    rw [show Tryd.prog.globalNamed "internal/strconv.uint64pow10" = some 2 by kernel_rfl]
    simp only [Option.bind_some]
    rw [hw, hp]
  refine (Tryd.strconv_Itoa n h0 h1 w htab).mono ?_
  rintro e w' ⟨rfl, k, os, rfl⟩
  refine ⟨_, rfl, ⟨rfl, rfl, rfl, ?_, fun i hi => ?_⟩, rfl⟩
  · show w.heap.size ≤ (w.heap ++ os).size
    simp
  · show (w.heap ++ os)[i]? = w.heap[i]?
    rw [Array.getElem?_append_left (by rw [hw]; exact hi)]

/-! ### Digits -/
def digV (n : Int) : Value := if isN n then .tuple #[.string (mk (Lib.decDigits n.toNat)), .int .i64 0] else .tuple #[.string (mk []), .int .i64 1]
theorem itoa_nat (n : Nat) : Lib.itoa (n : Int) = Lib.decDigits n := by unfold Lib.itoa; rw [if_neg (by omega)]; simp
theorem dd_lt {n : Nat} (h : n < 10) : Lib.decDigits n = [UInt8.ofNat (48 + n)] := by rw [Lib.decDigits, dif_pos h]
theorem dd_ge {n : Nat} (h : 10 ≤ n) : Lib.decDigits n = Lib.decDigits (n / 10) ++ [UInt8.ofNat (48 + n % 10)] := by rw [Lib.decDigits, dif_neg (by omega)]
theorem dd_pos (n : Nat) : 0 < (Lib.decDigits n).length := by
  by_cases hn : n < 10
  · rw [dd_lt hn]; simp
  · rw [dd_ge (by omega)]; simp
theorem c28 (n : Int) (h : Heap) (g : Gl h) : CallsH Tryd.prog 28 #[.int .i64 n] h (Xt (digV n) h) := by
  have hno : isN n = false → Xt (digV n) h (.tuple #[.string (ByteArray.mk #[]), .int .i64 1]) h := fun hf => ⟨by unfold digV; rw [hf]; rfl, .refl _⟩
  refine run28 n _ h ⟨fun h1 => hno (isN_f.2 (by omega)), fun h1 => ⟨fun h2 => hno (isN_f.2 (by omega)), fun h2 => useX (c54 n (by omega) (by omega) h g) fun h' x => ⟨_, rfl, ?_, x⟩⟩⟩
  obtain ⟨m, rfl⟩ : ∃ m : Nat, n = m := ⟨n.toNat, by omega⟩
  unfold digV
  rw [isN_t.2 ⟨by omega, by omega⟩, itoa_nat]
  rfl
/-- The digits of n, but none of 0. -/
def dig0 (n : Nat) : List UInt8 := if n = 0 then [] else Lib.decDigits n
theorem dig0_step {n : Nat} (h : n ≠ 0) : dig0 n = dig0 (n / 10) ++ [UInt8.ofNat (48 + n % 10)] := by
  unfold dig0
  rw [if_neg h]
  by_cases hn : n < 10
  · rw [dd_lt hn, if_pos (by omega), show n % 10 = n by omega]; rfl
  · rw [dd_ge (by omega), if_neg (by omega)]
theorem tens (d : Nat) (hd : d < 10) : (ByteArray.mk #[48, 49, 50, 51, 52, 53, 54, 55, 56, 57]).extract d (d + 1) = mk [UInt8.ofNat (48 + d)] := by
  have key : ∀ k : Fin 10, (ByteArray.mk #[48, 49, 50, 51, 52, 53, 54, 55, 56, 57]).extract k.val (k.val + 1) = mk [UInt8.ofNat (48 + k.val)] := by decide +kernel
  exact key ⟨d, hd⟩
theorem mk_append (l m : List UInt8) : mk l ++ mk m = mk (l ++ m) := B_inj (by rw [B_append])
theorem c55 (n : Nat) (h : Heap) (hn : n ≤ 2147483647) : CallsH Tryd.prog 55 #[.int .i64 n] h (Ret (.string (mk (Lib.decDigits n))) h) := by
  refine run55 n _ h ?_
  refine ⟨fun st h' m => ∃ (x : Nat) (s : List UInt8), st = ((x : Int), mk s) ∧ h' = h ∧ x ≤ 2147483647 ∧ s.length + x ≤ 2147483648 ∧ m = x + (if s = [] then 1 else 0) ∧ ((s = [] ∧ x = n) ∨ (s ≠ [] ∧ dig0 x ++ s = Lib.decDigits n)), ⟨n + 1, n, [], rfl, rfl, hn, by simp; omega, rfl, .inl ⟨rfl, rfl⟩⟩, ?_⟩
  rintro st _ m ⟨x, s, rfl, rfl, hx, hs, rfl, hor⟩
  rename_i h'
  have step : (0 < x ∨ s = []) → J55_1 (x : Int) (mk s) (fun st' h'_1 => ∃ m', m' < x + (if s = [] then 1 else 0) ∧ ∃ (x : Nat) (s : List UInt8), st' = ((x : Int), mk s) ∧ h'_1 = h' ∧ x ≤ 2147483647 ∧ s.length + x ≤ 2147483648 ∧ m' = x + (if s = [] then 1 else 0) ∧ ((s = [] ∧ x = n) ∨ (s ≠ [] ∧ dig0 x ++ s = Lib.decDigits n))) h' := fun hc => by
    unfold J55_1
    have e1 : Int.tmod (x : Int) 10 = ((x % 10 : Nat) : Int) := by rw [Int.tmod_eq_emod_of_nonneg (by omega)]; omega
    have e2 : IntKind.wrap .i64 (((x % 10 : Nat) : Int) + 1) = ((x % 10 + 1 : Nat) : Int) := by rw [w64 (by omega) (by omega)]; omega
    have e3 : IntKind.wrap .i64 (Int.tdiv (x : Int) 10) = ((x / 10 : Nat) : Int) := by rw [Int.tdiv_eq_ediv_of_nonneg (by omega), w64 (by omega) (by omega)]; omega
    simp only [e1, e2, e3, Int.toNat_natCast]
    rw [tens _ (by omega), mk_append]
    refine ⟨by omega, by omega, ?_, ?_, _, ?_, x / 10, UInt8.ofNat (48 + x % 10) :: s, rfl, by trivial, by omega, by rcases hc with hc | hc; (simp; omega); (subst hc; simp; omega), rfl, .inr ⟨by simp, ?_⟩⟩
    · show ((x % 10 + 1 : Nat) : Int) ≤ 10
      omega
    · rw [mk_size, mk_size]; simp; omega
    · simp only [List.cons_ne_nil, if_false]
      split
      · omega
      · rename_i h5; rcases hc with hc | hc; omega; exact absurd hc h5
    · rcases hor with ⟨rfl, rfl⟩ | ⟨h5, h6⟩
      · by_cases h0 : x = 0
        · subst h0; rw [dd_lt (by omega)]; rfl
        · have := dig0_step h0
          rw [show dig0 x = Lib.decDigits x by unfold dig0; rw [if_neg h0]] at this
          exact this.symm
      · have h0 : x ≠ 0 := by rcases hc with hc | hc; omega; exact absurd hc h5
        rw [← h6, dig0_step h0]; simp
  refine ⟨fun h1 => step (.inl (by simp only at h1; omega)), fun h1 => ⟨fun h2 => step (.inr (mk_inj.1 h2)), fun h2 => ?_⟩⟩
  simp only at h1
  have hs0 : s ≠ [] := fun h => h2 (by rw [h])
  rcases hor with ⟨h5, _⟩ | ⟨_, h6⟩
  · exact absurd h5 hs0
  · refine ⟨?_, rfl⟩
    rw [← h6, show x = 0 by omega]; rfl
theorem c29 (n : Int) (h : Heap) : CallsH Tryd.prog 29 #[.int .i64 n] h (Xt (digV n) h) := by
  have hno : isN n = false → Xt (digV n) h (.tuple #[.string (ByteArray.mk #[]), .int .i64 1]) h := fun hf => ⟨by unfold digV; rw [hf]; rfl, .refl _⟩
  refine run29 n _ h ⟨fun h1 => hno (isN_f.2 (by omega)), fun h1 => ⟨fun h2 => hno (isN_f.2 (by omega)), fun h2 => ?_⟩⟩
  obtain ⟨m, rfl⟩ : ∃ m : Nat, n = m := ⟨n.toNat, by omega⟩
  refine use (c55 m h (by omega)) ⟨_, rfl, ?_, .refl _⟩
  unfold digV
  rw [isN_t.2 ⟨by omega, by omega⟩]
  rfl

/-! ### A number out of its digits -/
def isDig (b : UInt8) : Bool := decide (48 ≤ b.toNat ∧ b.toNat ≤ 57)
theorem isDig_t {b : UInt8} : isDig b = true ↔ 48 ≤ b.toNat ∧ b.toNat ≤ 57 := by simp [isDig]
theorem isDig_f {b : UInt8} : isDig b = false ↔ ¬ (48 ≤ b.toNat ∧ b.toNat ≤ 57) := by simp [isDig]
def val (acc : Nat) (l : List UInt8) : Nat := l.foldl (fun a c => a * 10 + (c.toNat - 48)) acc
theorem val_cons (acc : Nat) (c : UInt8) (r : List UInt8) : val acc (c :: r) = val (acc * 10 + (c.toNat - 48)) r := by unfold val; rw [List.foldl_cons]
theorem val_ge (l : List UInt8) (acc : Nat) : acc ≤ val acc l := by
  induction l generalizing acc with
  | nil => exact Nat.le_refl _
  | cons c r ih => rw [val_cons]; have := ih (acc * 10 + (c.toNat - 48)); omega
theorem val_app (l m : List UInt8) (acc : Nat) : val acc (l ++ m) = val (val acc l) m := by unfold val; rw [List.foldl_append]
def puV (l : List UInt8) : Value := if l = [] then .tuple #[.int .u64 0, .iface 82 (.int .i64 2)] else if val 0 l ≤ 2147483647 then .tuple #[.int .u64 (val 0 l), .nilIface] else .tuple #[.int .u64 2147483647, .iface 82 (.int .i64 1)]
theorem c66 (s : ByteArray) (hs : s.size ≤ 262144) (hd : ∀ b ∈ B s, isDig b = true) (h : Heap) : CallsH Tryd.prog 66 #[.string s, .int .i64 10, .int .i64 31] h (Xt (puV (B s)) h) := by
  have hlen := B_len s
  refine run66 s 10 31 _ h (by decide) (fun he => ?_) (fun he => ?_)
  · subst he; exact ⟨rfl, .refl _⟩
  have hne : B s ≠ [] := fun h0 => he (B_inj h0)
  unfold VB66
  refine ⟨fun _ => ⟨fun _ => ?_, fun h0 => absurd (by decide) h0⟩, fun h0 => absurd (by decide) h0⟩
  unfold J66_11
  refine ⟨fun h0 => absurd h0 (by decide), fun _ => ⟨fun h0 => absurd h0 (by decide), fun _ => ⟨fun h0 => absurd h0 (by decide), fun _ => ?_⟩⟩⟩
  unfold J66_12
  refine ⟨fun _ => ?_, fun h0 => absurd rfl h0⟩
  unfold J66_13
  refine ⟨by decide, fun cap hcap => ?_⟩
  intro h_4
  have hrow : ∀ (i : Nat) (hi : i < (B s).length), cellH h_4 (Addr.add (Addr.mk h.size 0 none) (i * 1)) = some (.int .u8 ((B s)[i].toNat : Int)) := fun i hi => by
    rw [cellH_row (push_at h _) rfl]
    have hb : i < (bytesV s).length := by simp only [bytesV, List.length_map]; exact hi
    simp only [Nat.zero_add, Nat.mul_one, List.getElem?_toArray]
    rw [List.getElem?_append_left hb, List.getElem?_eq_getElem hb]
    simp [bytesV]
  have x4 : Ext h h_4 := Ext.push _ _
  have eM : IntKind.wrap .u64 ((IntKind.wrap .u64 (1 * 2 ^ min (Int.toNat (IntKind.wrap .u64 31)) (IntKind.bits .u64))) - 1) = 2147483647 := by decide
  refine ⟨fun st h' m => ∃ (k acc : Nat), st = (false, (acc : Int), (k : Int)) ∧ h' = h_4 ∧ k ≤ (B s).length ∧ acc ≤ 2147483647 ∧ val 0 (B s) = val acc ((B s).drop k) ∧ m = (B s).length - k, ⟨_, 0, 0, rfl, rfl, by omega, by omega, rfl, rfl⟩, ?_⟩
  rintro st h' m ⟨k, acc, rfl, hh, hk, ha, hv, rfl⟩
  refine ⟨fun hlt => ?_, fun hge => ?_⟩
  · simp only at hlt
    have hi : k < (B s).length := by omega
    have hdig := isDig_t.1 (hd _ (List.getElem_mem hi))
    rw [List.drop_eq_getElem_cons hi, val_cons] at hv
    have hcell := hrow k hi
    rw [← hh] at hcell
    unfold J66_15
    refine ⟨by simp only; omega, by simp only; omega, ((B s)[k].toNat : Int), by simpa using hcell, fun h0 => by omega, fun _ => ⟨fun _ => ⟨fun _ => ?_, fun h0 => by omega⟩, fun h0 => by omega⟩⟩
    have e1 : IntKind.wrap .u8 (((B s)[k].toNat : Int) - 48) = (((B s)[k].toNat - 48 : Nat) : Int) := by rw [wr_u8]; omega
    have e2 : IntKind.wrap .u64 ((acc : Int) * (IntKind.wrap .u64 10)) = ((acc * 10 : Nat) : Int) := by rw [wr_u64, wr_u64]; omega
    have e3 : IntKind.wrap .u64 (((acc * 10 : Nat) : Int) + (IntKind.wrap .u64 (((B s)[k].toNat - 48 : Nat) : Int))) = ((acc * 10 + ((B s)[k].toNat - 48) : Nat) : Int) := by rw [wr_u64, wr_u64]; omega
    have e4 : IntKind.wrap .u8 10 = 10 := by decide
    have e5 : IntKind.wrap .i64 ((k : Int) + 1) = ((k + 1 : Nat) : Int) := by rw [w64 (by omega) (by omega)]; omega
    unfold J66_16 J66_17 J66_18
    simp only [e1, e2, e3, e4, e5, eM]
    refine ⟨fun h0 => by omega, fun _ => ⟨fun h0 => by omega, fun _ => ⟨fun h0 => by omega, fun _ => ⟨fun hbig => ?_, fun hsm => ?_⟩⟩⟩⟩
    · refine ⟨?_, by rw [hh]; exact x4⟩
      have := val_ge ((B s).drop (k + 1)) (acc * 10 + ((B s)[k].toNat - 48))
      unfold puV
      rw [if_neg hne, if_neg (by omega)]
    · exact ⟨_, by omega, k + 1, _, rfl, hh, by omega, by omega, hv, rfl⟩
  · simp only at hge
    unfold J66_14
    refine ⟨?_, by rw [hh]; exact x4⟩
    rw [List.drop_eq_nil_of_le (by omega)] at hv
    unfold puV
    rw [if_neg hne, hv, show val acc [] = acc from rfl, if_pos ha]

/-- ParseUint's errors. -/
theorem c67s (fn s : ByteArray) (hs : s.size ≤ 262144) (h : Heap) (g : Gl h) : CallsH Tryd.prog 67 #[.string fn, .string s, .int .i64 10, .int .i64 31, .iface 82 (.int .i64 2)] h fun v h' => Ext h h' ∧ ∃ t p, v = .iface t p := by
  refine callsH_below fun w hw => ?_
  obtain ⟨te, pe, hc⟩ := g.syn
  refine (Tryd.strconv_toError_syntax fn s 10 31 (.iface te pe) w (by omega) (by rw [cell_eq, hw]; exact hc) (.inr ⟨te, pe, rfl⟩)).mono ?_
  rintro e w' ⟨N, rfl, _, _, hb⟩
  exact ⟨_, rfl, by rw [← hw]; exact hb, _, _, rfl⟩
theorem c67r (fn s : ByteArray) (hs : s.size ≤ 262144) (h : Heap) (g : Gl h) : CallsH Tryd.prog 67 #[.string fn, .string s, .int .i64 10, .int .i64 31, .iface 82 (.int .i64 1)] h fun v h' => Ext h h' ∧ ∃ t p, v = .iface t p := by
  refine callsH_below fun w hw => ?_
  obtain ⟨te, pe, hc⟩ := g.ran
  refine (Tryd.strconv_toError_range fn s 10 31 (.iface te pe) w (by omega) (by rw [cell_eq, hw]; exact hc) (.inr ⟨te, pe, rfl⟩)).mono ?_
  rintro e w' ⟨N, rfl, _, _, hb⟩
  exact ⟨_, rfl, by rw [← hw]; exact hb, _, _, rfl⟩
theorem c59 (s : ByteArray) (hs : s.size ≤ 262144) (hd : ∀ b ∈ B s, isDig b = true) (h : Heap) (g : Gl h) : CallsH Tryd.prog 59 #[.string s, .int .i64 10, .int .i64 31] h fun v h' => Ext h h' ∧
    ((B s ≠ [] ∧ val 0 (B s) ≤ 2147483647 ∧ v = .tuple #[.int .u64 (val 0 (B s)), .nilIface]) ∨ ((B s = [] ∨ 2147483647 < val 0 (B s)) ∧ ∃ x t p, v = .tuple #[.int .u64 x, .iface t p])) := by
  refine run59 s 10 31 _ h (useX (c66 s hs hd h) fun h1 x1 => ?_)
  unfold puV
  by_cases h0 : B s = []
  · rw [if_pos h0]
    refine ⟨_, _, rfl, fun h5 => h5.elim, fun _ => (c67s _ s hs h1 (g.ext x1)).mono ?_⟩
    rintro v h2 ⟨x2, t, p, rfl⟩
    exact ⟨_, rfl, x1.trans x2, .inr ⟨.inl h0, _, _, _, rfl⟩⟩
  · rw [if_neg h0]
    by_cases h2 : val 0 (B s) ≤ 2147483647
    · rw [if_pos h2]
      exact ⟨_, _, rfl, fun _ => ⟨x1, .inl ⟨h0, h2, rfl⟩⟩, fun h5 => absurd trivial h5⟩
    · rw [if_neg h2]
      refine ⟨_, _, rfl, fun h5 => h5.elim, fun _ => (c67r _ s hs h1 (g.ext x1)).mono ?_⟩
      rintro v h2 ⟨x2, t, p, rfl⟩
      exact ⟨_, rfl, x1.trans x2, .inr ⟨.inr (by omega), _, _, _, rfl⟩⟩
end Go.Proofs.YtbgjbokcngdnfaaDoor
