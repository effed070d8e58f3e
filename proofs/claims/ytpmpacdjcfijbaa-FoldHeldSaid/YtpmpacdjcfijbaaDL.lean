/- Words and facts that the claim's proof leans on. No condition. -/
import Derived.Test.YtpmpacdjcfijbaaDE
import Derived.Test.YtpmpacdjcfijbaaDA
/- The chapter's example; the statement's function. No condition. -/
set_option linter.unusedVariables false
set_option linter.unusedSimpArgs false
namespace Go.Proofs.Ytpmpacdjcfijbaa
open Go.Hx
def WC : Circ := ⟨2, [2], [⟨4, 2, 0⟩], [], [4], [3], [], [], [], [], []⟩
theorem WC_defs : defs WC = (0, 0, [(0, 0), (1, 0), (2, 0)]) := by decide +kernel
theorem WC_uses : uses WC [(0, 0), (1, 0), (2, 0)] = (0, 0) := by decide +kernel
theorem WC_chk : chk WC = (0, 0) := by
  have h1 : sizeE WC = 0 := sizeE_ok (by simp [WC]) (by simp [Big, WC])
  have h4 : cyc WC (defs WC).2.2 = none := by unfold cyc; simp [WC]
  have h5 : syF WC = none := rfl
  have h6 : comF WC = none := rfl
  unfold chk
  rw [if_neg (by rw [h1]; simp), if_neg (by rw [WC_defs]; simp), if_neg (by rw [WC_defs]; simp only; rw [WC_uses]; simp), h4, h5, h6]
theorem WC_fold : foldR WC = (foldC WC, 0) := by
  unfold foldR
  rw [if_neg (by rw [WC_chk]; simp), if_neg (by unfold FLong WC; simp)]
theorem WC_ok : WC.Ok := by
  have one : ∀ (n : Int), -100 ≤ n → n ≤ 100 → ∀ x ∈ [n], W64 x := fun n h1 h2 x hx => by simp at hx; subst hx; exact ⟨by omega, by omega⟩
  refine ⟨⟨by decide, by decide⟩, one 2 (by omega) (by omega), fun x hx => ?_, fun x hx => (by cases hx), one 4 (by omega) (by omega), one 3 (by omega) (by omega), fun x hx => (by cases hx), fun x hx => (by cases hx), fun x hx => (by cases hx), fun x hx => (by cases hx), fun x hx => (by cases hx), by simp [WC], by simp [WC]⟩
  simp only [WC, List.mem_cons, List.not_mem_nil, or_false] at hx
  subst hx
  exact ⟨⟨by decide, by decide⟩, ⟨by decide, by decide⟩, ⟨by decide, by decide⟩⟩
theorem Rd.i1 {h : Heap} {a : Option Addr} {x : Int} (r : Rd h a 1 [.int .i64 x]) : Rd h a 1 (ints [x]) := r
theorem RdRs.nil {h : Heap} : RdRs h none 0 [] := ⟨⟨[], .nil, fun s hs => (by cases hs), rfl⟩⟩
theorem c35 (h : Heap) : CallsH Try.prog 35 #[] h (Xt (.bool true) h) := by
  refine run35 _ h ?_
  unfold VC35
  intro h1 h2 h3 h4 h5
  have e1 : Ext h h1 := Ext.push _ _
  have e2 : Ext h1 h2 := Ext.push _ _
  have e3 : Ext h2 h3 := Ext.push _ _
  have e4 : Ext h3 h4 := Ext.push _ _
  have r1 : Rd h1 (some ⟨h.size, 0, none⟩) 1 [.int .i64 2] := (Fr.lit (.refl h) [.int .i64 2] 3 1 rfl).rd
  have r2 : Rd h2 (some ⟨h1.size, 0, none⟩) 3 (L3.cs ⟨4, 2, 0⟩) := (Fr.lit (.refl h1) (L3.cs ⟨4, 2, 0⟩) 80 3 rfl).rd
  have r3 : Rd h3 (some ⟨h2.size, 0, none⟩) 1 [.int .i64 4] := (Fr.lit (.refl h2) [.int .i64 4] 3 1 rfl).rd
  have r4 : Rd h4 (some ⟨h3.size, 0, none⟩) 1 [.int .i64 3] := (Fr.lit (.refl h3) [.int .i64 3] 3 1 rfl).rd
  let v : CV := ⟨2, ⟨some ⟨h.size, 0, none⟩, 1, 1⟩, ⟨some ⟨h1.size, 0, none⟩, 1, 1⟩, ⟨none, 0, 0⟩, ⟨some ⟨h2.size, 0, none⟩, 1, 1⟩, ⟨some ⟨h3.size, 0, none⟩, 1, 1⟩, ⟨none, 0, 0⟩, ⟨none, 0, 0⟩, ⟨none, 0, 0⟩, ⟨none, 0, 0⟩, ⟨none, 0, 0⟩⟩
  refine boxN (zs := CV.zero.cs) (ws := v.cs) rfl (CV.one v) fun h6 e6 b6 => ?_
  have c4 : CIs h4 v WC := ⟨rfl, ((r1.ext e2).ext e3).ext e4, (r2.ext e3).ext e4, .nil, r3.ext e4, r4, RdRs.nil, .nil, .nil, .nil, .nil⟩
  have e06 : Ext h h6 := (((e1.trans e2).trans e3).trans e4).trans e6
  refine ldC b6 ((c31 (c4.ext e6) WC_ok).mono ?_)
  rintro _ h7 ⟨v', rfl, cn⟩
  rw [WC_fold] at cn ⊢
  refine ⟨_, _, _, _, _, _, _, _, _, _, _, _, _, _, _, _, _, _, _, _, _, _, _, _, _, _, _, _, _, _, _, _, rfl, ?_⟩
  intro h8
  refine boxN (zs := CV.zero.cs) (ws := v'.cs) rfl (CV.one v') fun h9 e9 b9 => ?_
  have c9 := cn.cis.ext e9
  have hl := c9.len
  have e09 : Ext h h9 := (e06.trans cn.heap).trans e9
  have fw : foldC WC = ⟨5, [2], [⟨4, 2, 0⟩, ⟨6, 8, 1⟩], [], [10], [], [], [8], [⟨8, 6, 3⟩, ⟨10, 8, 4⟩], [], []⟩ := by kernel_rfl
  have hmx := c9.mx
  obtain ⟨q1, q2, q3, q4, q5, q6, q7, q8, q9, q10⟩ := hl
  rw [fw] at hmx q2 q4 q5
  have rl := c9.l
  have rb := c9.b
  rw [fw] at rl rb
  simp only [List.length_cons, List.length_nil] at q2 q4 q5
  have fls : ∀ {P : Prop}, P → P := fun h => h
  refine ⟨fun _ => ⟨_, b9.fld 0 rfl, fun _ => ⟨_, _, _, b9.fld 2 rfl, fun _ => ⟨_, _, _, b9.fld 2 rfl, by omega, by omega, rl.elem L3.csl (by omega) (i := 1) (by omega) fun ad hl1 re => ⟨_, _, _, re.cells, fun _ => ⟨_, _, _, b9.fld 4 rfl, fun _ => ⟨_, _, _, b9.fld 4 rfl, by omega, by omega, rb.getn (i := 0) (by omega) fun ad1 hl2 hc => ⟨_, hc, fun _ => ⟨_, _, _, b9.fld 5 rfl, fun _ => ⟨rfl, e09⟩, fun e => ?_⟩, fun e => ?_⟩⟩, fun e => ?_⟩, fun e => ?_⟩⟩, fun e => ?_⟩, fun e => ?_⟩, fun e => ?_⟩
  · exact absurd (by omega) e
  · exact absurd rfl e
  · exact absurd (by omega) e
  · exact absurd rfl e
  · exact absurd (by omega) e
  · exact absurd hmx e
  · exact absurd rfl e
section
variable {h : Heap} {v : CV} {C : Circ}
end
end Go.Proofs.Ytpmpacdjcfijbaa
