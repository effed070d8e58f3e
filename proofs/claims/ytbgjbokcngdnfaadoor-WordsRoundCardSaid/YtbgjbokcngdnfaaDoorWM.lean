/- Words and facts that the claim's proof leans on. No condition. -/
import Derived.Test.YtbgjbokcngdnfaaDoorWL
set_option linter.unusedVariables false
set_option linter.unusedSimpArgs false
namespace Go.Proofs.YtbgjbokcngdnfaaDoor
open Go.Hx

theorem copy1 {α : Type} {f : α → Value} (h1f : ∀ x, (f x).oneCell' = true) {h : Heap} {a : Option Addr} {n : Nat} {l : List α} (r : Rd h a n (l.map f)) {e e2 : TypeId} {bytes : Nat} {z : Array Value} (hb : n * bytes ≤ 140737488355328)
    {K : Option Addr → Nat → Nat → Heap → Prop} (hK : ∀ a' c' h', Fr h 1 h' a' n c' (l.map f) → K a' n c' h') :
    ∃ ys : List Value, ReadL (h.push (.cells #[] e)) a ys ∧ ys.length = n * 1 ∧ AppS (h.push (.cells #[] e)) (some (Addr.mk h.size 0 none)) 0 0 e2 bytes 1 z ys n K := by
  have hlen : l.length = n := by have := r.len; rwa [List.length_map] at this
  have f0 : Fr h 1 (h.push (.cells #[] e)) (some ⟨h.size, 0, none⟩) 0 0 [] := Fr.lit (.refl h) [] e 0 rfl
  have hone : ∀ y ∈ l.map f, y.oneCell' = true := by intro y hy; obtain ⟨q, _, rfl⟩ := List.mem_map.1 hy; exact h1f q
  refine ⟨l.map f, (r.ext f0.ext).read, by rw [List.length_map, hlen, Nat.mul_one], f0.app (by rw [List.length_map, hlen, Nat.mul_one]) hone (by rw [Nat.zero_add]; exact hb) fun a1 c1 h1 f1 _ _ => ?_⟩
  rw [Nat.zero_add] at f1 ⊢
  exact hK a1 c1 h1 f1
theorem mxL_len (m m' : Bool) (a b : List Nat) : (mxL m a b).length = (mxL m' a b).length := by unfold mxL; split <;> simp
theorem mxL_le (m : Bool) (a b : List Nat) : (mxL m a b).length ≤ 16384 := by
  unfold mxL
  split
  · rename_i h
    unfold mxE at h
    split at h
    · omega
    · simp; omega
  · simp
theorem Rd.olds {h0 h : Heap} {a : Option Addr} {n : Nat} {vs : List Value} (r : Rd h0 a n vs) (x : Ext h0 h) {S : Nat → Prop} (hb : ∀ b, S b → h0.size ≤ b) {h' : Heap} (u : Upd S h h') : Rd h' a n vs := by
  cases a with
  | none => exact ⟨r.read, r.len⟩
  | some ad =>
    refine ⟨fun i v hv => ?_, r.len⟩
    have hc := r.read i v hv
    have hlt := cellH_lt hc
    rw [add_block] at hlt
    refine u.cell ?_ (x.cell hc)
    rw [add_block]
    intro hs
    have := hb _ hs
    omega
/-- WordsPairs. -/
theorem c4 {aA bA : Option Addr} {aN aC bN bC : Nat} {a b : List Nat} {h : Heap} (ra : Rd h aA aN (a.map w64v)) (rb : Rd h bA bN (b.map w64v)) (ha : ∀ x ∈ a, x < 18446744073709551616) (hb : ∀ x ∈ b, x < 18446744073709551616)
    (hna : aN * 8 ≤ 140737488351232) (hnb : bN * 8 ≤ 140737488351232) (g : Gl h) : CallsH Tryd.prog 4 #[.slice aA aN aC, .slice bA bN bC] h (Yes h) := by
  have hle := mxL_le true a b
  have hll := mxL_len true false a b
  refine run4 aA aN aC bA bN bC _ h (copy1 (fun _ => rfl) ra (by omega) fun a1 k1 h1 f1 => ?_)
  intro h_2
  have rb1 : Rd h1 bA bN (b.map w64v) := rb.ext f1.ext
  refine copy1 (fun _ => rfl) rb1 (by omega) fun a3 k3 h3 f3 => ?_
  have x3 : Ext h h3 := f1.ext.trans f3.ext
  have rin := (f1.upd f3.ext).rd
  have rown := f3.rd
  refine (c15 rin rown ha hb).mono ?_
  rintro v h4 ⟨a4, k4, rfl, f4⟩
  refine ⟨_, _, _, _, rfl, (c16 (ra.ext (x3.trans f4.ext)) (rb.ext (x3.trans f4.ext)) ha hb).mono ?_⟩
  rintro v h5 ⟨a5, k5, rfl, f5⟩
  have x35 := f4.ext.trans f5.ext
  refine ⟨_, _, _, _, rfl, (c17 (rin.ext x35) (rown.ext x35) ha hb).mono ?_⟩
  rintro v h6 ⟨a6, k6, rfl, f6⟩
  have x36 := x35.trans f6.ext
  refine ⟨_, _, _, _, rfl, (c18 (ra.ext (x3.trans x36)) (rb.ext (x3.trans x36)) ha hb).mono ?_⟩
  rintro v h7 ⟨a7, k7, rfl, f7⟩
  have x37 := x36.trans f7.ext
  have f4' := f4.upd (f5.ext.trans (f6.ext.trans f7.ext))
  refine ⟨_, _, _, _, rfl, use (c19 f4'.rd ((f5.upd (f6.ext.trans f7.ext)).rd) (by omega)) ⟨_, rfl, ?_⟩⟩
  rw [decide_eq_true rfl]
  have f6' := f6.upd f7.ext
  refine BIf.f (pt rfl (use (c19 f6'.rd f7.rd (by omega)) ⟨_, rfl, ?_⟩))
  rw [decide_eq_true rfl]
  refine BIf.f (pt rfl ?_)
  rw [← hll] at f6'
  rw [← hll]
  have lt4 : ∀ y, a4 = some y → y.block < h4.size := Fr.lt_of f4
  have ge4 : ∀ y, a4 = some y → h3.size ≤ y.block := f4.new
  have ge6 : ∀ y, a6 = some y → h5.size ≤ y.block := f6.new
  have h45 := f5.ext.1
  have hx4 : h3.size ≤ h5.size := x35.1
  have f6b : Fr h3 1 h7 a6 _ k6 _ := f6'.base x35
  refine ⟨fun k h' m => ∃ i : Nat, k = (i : Int) ∧ i ≤ (mxL true a b).length ∧ (∃ vs, Fr h3 1 h' a4 (mxL true a b).length k4 vs) ∧ (∃ vs, Fr h3 1 h' a6 (mxL true a b).length k6 vs) ∧ Upd (fun b => atb a4 b ∨ atb a6 b) h7 h' ∧ m = (mxL true a b).length - i,
    ⟨_, 0, rfl, by omega, ⟨_, f4'⟩, ⟨_, f6b⟩, .refl _, rfl⟩, ?_⟩
  rintro k h' m ⟨i, rfl, hi, ⟨v4, g4⟩, ⟨v6, g6⟩, u, rfl⟩
  refine ⟨fun hlt => ?_, fun hge => ?_⟩
  · refine ⟨by omega, by omega, g4.set1 (by omega) (by omega) rfl fun h8 u8 g48 => ⟨by omega, by omega, ?_⟩⟩
    have g68 := g6.other u8 (fun x y hx hy => by have := ge6 x hx; have := lt4 y hy; omega) ge4
    refine g68.set1 (by omega) (by omega) rfl fun h9 u9 g69 => ?_
    have g49 := g48.other u9 (fun x y hx hy => by have := ge6 y hy; have := lt4 x hx; omega) (fun y hy => Nat.le_trans hx4 (ge6 y hy))
    exact ⟨_, by omega, i + 1, e_succ (by omega), by omega, ⟨_, g49⟩, ⟨_, g69⟩, u.trans ((u8.mono fun _ _ q => .inl q).trans (u9.mono fun _ _ q => .inr q)), rfl⟩
  · have hS : ∀ b, (atb a4 b ∨ atb a6 b) → h3.size ≤ b := by
      rintro b (⟨y, hy, rfl⟩ | ⟨y, hy, rfl⟩)
      · exact ge4 y hy
      · exact Nat.le_trans hx4 (ge6 y hy)
    have hS0 : ∀ b, (atb a4 b ∨ atb a6 b) → h.size ≤ b := fun b q => Nat.le_trans x3.1 (hS b q)
    have rin' := Rd.olds rin x37 hS u
    have rown' := Rd.olds rown x37 hS u
    have ra' := Rd.olds ra (x3.trans x37) hS0 u
    have rb' := Rd.olds rb (x3.trans x37) hS0 u
    unfold J4_1
    refine use (c19 rin' ra' (by omega)) ⟨_, rfl, ?_⟩
    rw [decide_eq_true rfl]
    refine BIf.t (use (c19 rown' rb' (by omega)) ⟨_, rfl, ?_⟩)
    rw [decide_eq_true rfl]
    have y : Ext h h' := x3.trans g4.ext
    exact BIf.t (useX (c12 h' (g.ext y)) fun h8 x8 => ⟨_, rfl, rfl, y.trans x8⟩)

theorem len_unL (w : List Nat) (n : Int) : (unL w n).length ≤ 16384 := by
  unfold unL
  split
  · rename_i h
    have := un_cases h
    rw [rowOf_len]; omega
  · simp
theorem len_shL (w : List Nat) (n by_ : Int) : (shL w n by_).length ≤ 300 := by
  unfold shL
  split
  · rename_i h
    have := un_cases h
    unfold packL
    rw [packN_len, shR_len, rowOf_len]
    unfold nw; omega
  · simp
/-- WordsShifts. -/
theorem c9 {wA : Option Addr} {wN wC : Nat} {w : List Nat} {h : Heap} (r : Rd h wA wN (w.map w64v)) (hw : ∀ x ∈ w, x < 18446744073709551616) (hnw : wN * 8 ≤ 140737488351232) (n by_ : Int) (hb0 : -9223372036854775808 ≤ by_) (hb1 : by_ ≤ 9223372036854775807) (g : Gl h) :
    CallsH Tryd.prog 9 #[.slice wA wN wC, .int .i64 n, .int .i64 by_] h (Yes h) := by
  have hlen : w.length = wN := by have := r.len; rwa [List.length_map] at this
  have hl1 := len_unL w n
  have hl2 := len_shL w n by_
  refine run9 wA wN wC n by_ _ h (copied (f := w64v) (fun _ => rfl) r 77 (by omega) fun a0 c0 h3 f3 => ?_)
  have hcap := f3.own.cap
  refine ⟨by omega, by omega, by omega, ?_⟩
  rw [cut0]
  have e1 : Int.toNat ((wN : Nat) : Int) - Int.toNat 0 = wN := by simp
  have rin : Rd h3 a0 wN (w.map w64v) := rd_take f3.rd hlen
  rw [e1]
  have x3 : Ext h h3 := f3.ext
  refine (c38 rin hw n).mono ?_
  rintro v h4 ⟨a4, k4, rfl, f4⟩
  refine ⟨_, _, _, _, rfl, (c39 (r.ext (x3.trans f4.ext)) hw n).mono ?_⟩
  rintro v h5 ⟨a5, k5, rfl, f5⟩
  have x35 := f4.ext.trans f5.ext
  refine ⟨_, _, _, _, rfl, (c40 (rin.ext x35) hw n by_ hb0 hb1).mono ?_⟩
  rintro v h6 ⟨a6, k6, rfl, f6⟩
  have x36 := x35.trans f6.ext
  refine ⟨_, _, _, _, rfl, (c40 (rin.ext x36) hw n by_ hb0 hb1).mono ?_⟩
  rintro v h7 ⟨a7, k7, rfl, f7⟩
  have x37 := x36.trans f7.ext
  refine ⟨_, _, _, _, rfl, (c41 (r.ext (x3.trans x37)) hw n by_ hb0 hb1).mono ?_⟩
  rintro v h8 ⟨a8, k8, rfl, f8⟩
  have x38 := x37.trans f8.ext
  have y58 : Ext h5 h8 := f6.ext.trans (f7.ext.trans f8.ext)
  refine ⟨_, _, _, _, rfl, use (c26 (f4.upd (f5.ext.trans y58)).rd (f5.upd y58).rd (by omega)) ⟨_, rfl, ?_⟩⟩
  rw [decide_eq_true rfl]
  have f6' := f6.upd (f7.ext.trans f8.ext)
  have f7' := f7.upd f8.ext
  refine BIf.f (pt rfl (use (c19 f6'.rd f8.rd (by omega)) ⟨_, rfl, ?_⟩))
  rw [decide_eq_true rfl]
  refine BIf.f (pt rfl ?_)
  refine use (c42 (rin.ext x38) hw (by omega)) ⟨_, rfl, use (c43 (r.ext (x3.trans x38)) hw (by omega)) ⟨_, rfl, pt rfl ?_⟩⟩
  have hnew : ∀ y, a6 = some y → h5.size ≤ y.block := f6.new
  have h35 : h3.size ≤ h5.size := x35.1
  refine over_loop f6' (.int .u64 99) rfl (by omega) fun h12 vs f12 u12 => ?_
  have lt6 := Fr.lt_of f6
  have rd7 : Rd h12 a7 _ _ := f7'.rd.upd u12 fun ad ha ⟨y, hy, e⟩ => by have := f7.new ad ha; have := lt6 y hy; omega
  have rd8 : Rd h12 a8 _ _ := f8.rd.upd u12 fun ad ha ⟨y, hy, e⟩ => by have := f8.new ad ha; have := lt6 y hy; have := f7.ext.1; omega
  refine use (c19 rd7 rd8 (by omega)) ⟨_, rfl, ?_⟩
  rw [decide_eq_true rfl, cut0, e1]
  have rin' : Rd h12 a0 wN (w.map w64v) := Rd.old rin x38 (fun y hy => Nat.le_trans h35 (hnew y hy)) u12
  have rfull : Rd h12 a0 (wN + 1) ((w ++ [77]).map w64v) := Rd.old f3.rd x38 (fun y hy => Nat.le_trans h35 (hnew y hy)) u12
  have r' : Rd h12 wA wN (w.map w64v) := Rd.old r (x3.trans x38) (fun y hy => Nat.le_trans x3.1 (Nat.le_trans h35 (hnew y hy))) u12
  refine BIf.t (use (c19 rin' r' (by omega)) ⟨_, rfl, ?_⟩)
  rw [decide_eq_true rfl, cut0]
  have e2 : IntKind.wrap .i64 ((wN : Int) + 1) = ((wN + 1 : Nat) : Int) := e_succ (by omega)
  rw [e2]
  have y12 : Ext h h12 := (x3.trans x35).trans f12.ext
  refine BIf.t ⟨by omega, by omega, by show ((wN + 1 : Nat) : Int) ≤ ((c0 - 0 : Nat) : Int); omega, by omega, by show (wN : Int) < ((Int.toNat ((wN + 1 : Nat) : Int) - 0 : Nat) : Int); omega, ?_⟩
  obtain ⟨ad, rfl⟩ := rfull.some (by omega)
  refine ⟨_, rfull.getN (i := wN) (x := 77) (by rw [List.getElem?_append_right (by omega)]; simp [hlen]), pt rfl (useX (c12 h12 (g.ext y12)) fun h8 x8 => ⟨_, rfl, rfl, y12.trans x8⟩)⟩
end Go.Proofs.YtbgjbokcngdnfaaDoor
