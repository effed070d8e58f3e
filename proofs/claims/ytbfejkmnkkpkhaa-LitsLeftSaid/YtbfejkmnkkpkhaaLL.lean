/- Words and facts that the claim's proof leans on. No condition. -/
import Derived.Test.YtbfejkmnkkpkhaaLK
set_option linter.unusedVariables false
set_option linter.unusedSimpArgs false
namespace Go.Proofs.Ytbfejkmnkkpkhaa
open Go.Hx

/-- Normal's answer: the list and the error. -/
def NOut (l q : List Int) (e : Int) : Prop := (chk l ≠ 0 ∧ q = [] ∧ e = chk l) ∨ (chk l = 0 ∧ Taut l ∧ q = [] ∧ e = 10) ∨ (chk l = 0 ∧ NF l q ∧ e = 0)
theorem NOut.unique {l q q' : List Int} {e e' : Int} (h : NOut l q e) (k : NOut l q' e') : q = q' ∧ e = e' := by
  rcases h with ⟨h1, h2, h3⟩ | ⟨h1, h2, h3, h4⟩ | ⟨h1, h2, h3⟩ <;> rcases k with ⟨k1, k2, k3⟩ | ⟨k1, k2, k3, k4⟩ | ⟨k1, k2, k3⟩
  · exact ⟨h2.trans k2.symm, h3.trans k3.symm⟩
  · exact absurd k1 h1
  · exact absurd k1 h1
  · exact absurd h1 k1
  · exact ⟨h3.trans k3.symm, h4.trans k4.symm⟩
  · exact absurd h2 (k2.not_taut (chk_0 h1).1)
  · exact absurd h1 k1
  · exact absurd k2 (h2.not_taut (chk_0 h1).1)
  · exact ⟨h2.unique k2, h3.trans k3.symm⟩
theorem NormalRes.norm {h h' : Heap} {l : List Int} {v : Value} (r : NormalRes h l v h') : ∃ q e a c, NOut l q e ∧ Fr h 1 h' a q.length c (ints q) ∧ v = .tuple #[.slice a q.length c, .int .i64 e] := by
  obtain ⟨x, ⟨h1, rfl⟩ | ⟨h1, h2, rfl⟩ | ⟨h1, q, a, c, h2, f, rfl⟩⟩ := r
  · exact ⟨[], _, none, 0, .inl ⟨h1, rfl, rfl⟩, .nil x, rfl⟩
  · exact ⟨[], _, none, 0, .inr (.inl ⟨h1, h2, rfl, rfl⟩), .nil x, rfl⟩
  · exact ⟨q, _, a, c, .inr (.inr ⟨h1, h2, rfl⟩), f, rfl⟩
theorem NOut.len {l q : List Int} {e : Int} (h : NOut l q e) : q.length ≤ 16384 := by
  rcases h with ⟨h1, rfl, h3⟩ | ⟨h1, h2, rfl, h4⟩ | ⟨h1, h2, h3⟩
  · simp
  · simp
  · have := h2.len; have := (chk_0 h1).2; omega

/-- Two slices that don't share a block. -/
theorem Fr.apart {h0 h h2 h1 : Heap} {a b : Option Addr} {n c m d : Nat} {vs ws : List Value} (f : Fr h0 1 h a n c vs) (x : Ext h h1) (g : Fr h1 1 h2 b m d ws) : ∀ ad, b = some ad → ¬ atb a ad.block := by
  rintro ad rfl ⟨ad2, rfl, he⟩
  have := f.own.lt
  have := g.new ad rfl
  have := x.1
  omega

theorem vres_pair (l : List Int) (m : List Bool) : ∃ b e, vres l m = .tuple #[.bool b, .int .i64 e] := by
  unfold vres
  split
  · exact ⟨_, _, rfl⟩
  · split
    · exact ⟨_, _, rfl⟩
    · split <;> exact ⟨_, _, rfl⟩

theorem c4 {cA : Option Addr} {cN cC : Nat} {l : List Int} {mA : Option Addr} {mN mC : Nat} {m : List Bool} {h : Heap} (rl : Rd h cA cN (ints l)) (rm : Rd h mA mN (bools m)) (sl : cN * 8 ≤ 140737488351232) (sm : mN * 1 ≤ 140737488351232) :
    CallsH Try.prog 4 #[.slice cA cN cC, .slice mA mN mC] h (Yes h) := by
  have e1 : l.length = cN := by have := rl.len; simpa using this
  have e2 : m.length = mN := by have := rm.len; simpa using this
  refine run4 cA cN cC mA mN mC _ h ((c17 rl sl).mono ?_)
  rintro _ h1 ⟨iA, iC, rfl, fi⟩
  refine ⟨_, _, _, rfl, ?_⟩
  intro h2
  have f2 : Fr h1 1 h2 (some ⟨h1.size, 0, none⟩) 0 0 [] := Fr.lit (.refl h1) [] 4 0 rfl
  refine ⟨bools m, (rm.ext (fi.ext.trans f2.ext)).read, by rw [List.length_map, e2, Nat.mul_one], f2.app (by rw [List.length_map, e2, Nat.mul_one]) bools_one (by omega) fun oA1 oC1 h3 f3 _ _ => ?_⟩
  rw [Nat.zero_add] at f3 ⊢
  intro h4
  have f4 : Fr h3 1 h4 (some ⟨h3.size, 0, none⟩) 1 1 (bools [true]) := Fr.lit (.refl h3) (bools [true]) 4 1 rfl
  refine ⟨bools [true], f4.rd.read, rfl, (f3.upd f4.ext).app rfl bools_one (by omega) fun oA oC h5 f5 _ _ => ⟨by omega, by omega, ?_, ?_⟩⟩
  · have := f5.own.cap; omega
  have ro : Rd h5 oA mN (bools m) := by
    have := f5.rd.take mN (by omega)
    rwa [List.nil_append, List.take_left' (by simp [e2])] at this
  rw [cutA_zero]
  have x5 : Ext h1 h5 := f5.ext
  have xh5 : Ext h h5 := fi.ext.trans x5
  have ri := (lent_rd fi.rd e1).ext x5
  -- Normal, twice; the document's
  refine (c18 ri).mono ?_
  rintro _ h6 r6
  obtain ⟨q, e, xA, xC, o6, f6, rfl⟩ := r6.norm
  refine ⟨_, _, _, _, rfl, (c18 (ri.ext f6.ext)).mono ?_⟩
  rintro _ h7 r7
  obtain ⟨q7, e7, yA, yC, o7, f7, rfl⟩ := r7.norm
  obtain ⟨rfl, rfl⟩ := o6.unique o7
  have x7 : Ext h5 h7 := f6.ext.trans f7.ext
  refine ⟨_, _, _, _, rfl, (c19 (rl.ext (xh5.trans x7))).mono ?_⟩
  rintro _ h8 r8
  obtain ⟨q8, e8, zA, zC, o8, f8, rfl⟩ := r8.norm
  obtain ⟨rfl, rfl⟩ := o6.unique o8
  have x8 : Ext h5 h8 := x7.trans f8.ext
  have ql := o6.len
  obtain ⟨vb, ve, hv⟩ := vres_pair l m
  refine ⟨_, _, _, _, rfl, use (c20 (ri.ext x8) (ro.ext x8)) ⟨_, _, hv, use (c21 (rl.ext (xh5.trans x8)) (rm.ext (xh5.trans x8))) ⟨_, _, hv, ?_⟩⟩⟩
  have fx := (f6.upd f7.ext).upd f8.ext
  have fy := f7.upd f8.ext
  refine use (c22 fx.rd f8.rd (by omega)) ⟨_, rfl, ?_⟩
  rw [decide_eq_true rfl]
  refine BIf.f ⟨fun _ => ⟨fun _ => ⟨fun _ => ?_, fun hh => absurd rfl hh⟩, fun hh => absurd rfl hh⟩, fun hh => absurd rfl hh⟩
  unfold J4_0
  refine (c23 fx.own (-7) (by omega)).mono ?_
  rintro _ h9 ⟨rfl, u9⟩
  have x9 : Ext h5 h9 := Fr.ext_of x8 f6.new u9
  have ry : Rd h9 yA q.length (ints q) := fy.rd.upd u9 (Fr.apart f6 (.refl _) f7)
  have rz : Rd h9 zA q.length (ints q) := f8.rd.upd u9 (Fr.apart f6 f7.ext f8)
  refine ⟨rfl, use (c22 ry rz (by omega)) ⟨_, rfl, ?_⟩⟩
  rw [decide_eq_true rfl]
  refine BIf.t (use (c24 (fi.rd.ext (x5.trans x9)) fi.own.cap (rl.ext (xh5.trans x9)) (by omega)) ⟨_, rfl, BIf.t ?_⟩)
  rw [cutA_zero]
  refine use (c25 (ro.ext x9) (rm.ext (xh5.trans x9)) (by omega)) ⟨_, rfl, ?_⟩
  rw [decide_eq_true rfl]
  refine BIf.t ((c16 h9).mono ?_)
  rintro _ h10 ⟨rfl, x10⟩
  exact ⟨_, rfl, rfl, (xh5.trans x9).trans x10⟩
end Go.Proofs.Ytbfejkmnkkpkhaa
