/- The bad states that a run comes by. No condition. -/
import Derived.Test.YtpmpacdjcfijbaaGreatSE
import Derived.Test.YtpmpacdjcfijbaaGreatHxP
import Derived.Test.YtpmpacdjcfijbaaGreatGSh
import Derived.Test.YtpmpacdjcfijbaaGreatCAi
import Derived.Test.YtpmpacdjcfijbaaGreatHxK
import Derived.Test.YtpmpacdjcfijbaaGreatChecked
set_option linter.unusedVariables false
set_option linter.unusedSimpArgs false
namespace Go.Proofs.YtpmpacdjcfijbaaGreat
open Go.Hx Go.Deep Go.Lib
abbrev srt (l : List Int) : List Int := l.mergeSort fun x y => decide (x ≤ y)
section
variable {h : Heap} {a : Option Addr} {n c : Nat} {l : List Int}
theorem c15 (o : Own 1 h a n c (ints l)) (hn : n < 4611686018427387904) : CallsH Tryz.prog 15 #[.slice a n c] h fun w h' => w = .tuple #[] ∧ Upd (atb a) h h' ∧ Own 1 h' a n c (ints (srt l)) := by
  have hlen : l.length = n := by have := o.rd.ilen; omega
  cases a with
  | none =>
    have hc : c = 0 := o.mem
    have h0 : n = 0 := by have := o.cap; omega
    subst h0
    obtain rfl : l = [] := List.length_eq_zero_iff.1 hlen
    refine (callsH_still fun w _ => Tryz.slices_Sort_int_none none c w).mono ?_
    rintro _ _ ⟨rfl, rfl⟩
    exact ⟨rfl, .refl _, by simpa [srt] using o⟩
  | some ad =>
    intro w hw
    subst hw
    obtain ⟨e1, e2, e3, e4⟩ := o.holds
    have := Tryz.slices_Sort_int ad.block ad.off c l w e2 e3 (by omega)
    rw [← e1, e4] at this
    refine this.mono fun e' w' ⟨he, k, os, hw'⟩ => ?_
    obtain ⟨s1, s2, s3⟩ := o.putR (d := srt l) (by simp [srt]) k os hw'
    exact ⟨_, he, s1, rfl, s2, s3⟩
theorem own_shrink {h : Heap} {a : Option Addr} {n c m : Nat} {vs ws : List Value} (o : Own 1 h a n c (vs ++ ws)) (hm : vs.length = m) : Own 1 h a m c vs := by
  have hl := o.rd.len
  rw [List.length_append] at hl
  have := o.take (m := m) (by omega)
  rwa [Nat.mul_one, ← hm, List.take_left, hm] at this
theorem c16 (o : Own 1 h a n c (ints l)) (hn : n < 4611686018427387904) : CallsH Tryz.prog 16 #[.slice a n c] h fun w h' => w = .slice a (compact l).length c ∧ Upd (atb a) h h' ∧ Own 1 h' a (compact l).length c (ints (compact l)) := by
  have hlen : l.length = n := by have := o.rd.ilen; omega
  cases a with
  | none =>
    have hc : c = 0 := o.mem
    have h0 : n = 0 := by have := o.cap; omega
    subst h0
    obtain rfl : l = [] := List.length_eq_zero_iff.1 hlen
    refine (callsH_still fun w _ => Tryz.slices_Compact_int_empty none c w).mono ?_
    rintro _ _ ⟨rfl, rfl⟩
    exact ⟨rfl, .refl _, o⟩
  | some ad =>
    intro w hw
    subst hw
    obtain ⟨e1, e2, e3, e4⟩ := o.holds
    have := Tryz.slices_Compact_int ad.block ad.off c l w e2 (by omega) (by have := o.cap; omega)
    rw [← e1, e4] at this
    refine this.mono fun e' w' ⟨he, q, hw'⟩ => ?_
    have hcl := compact_len (l := l)
    obtain ⟨s1, s2, s3⟩ := o.putR (d := compact l ++ List.replicate (n - (compact l).length) 0) (by simp; omega) (w' := w') q #[] (by rw [hw', Go.Sort.grow_empty])
    rw [List.map_append] at s3
    exact ⟨_, he, s1, rfl, s2, own_shrink s3 (by simp)⟩
end
noncomputable def reachL (L : List Mo) : List Int := compact (srt (L.flatMap Mo.bads))
noncomputable def reachR (C : Circ) (T : Tr) : List Int × Int := if (runQ C T).2.2 ≠ 0 then ([], (runQ C T).2.2) else (reachL (runQ C T).1, 0)
theorem mem_reachL {L : List Mo} {x : Int} : x ∈ reachL L ↔ ∃ M ∈ L, x ∈ M.bads := by
  unfold reachL srt
  rw [mem_compact, List.mem_mergeSort, List.mem_flatMap]
theorem reachL_lt (L : List Mo) : (reachL L).Pairwise (· < ·) := by
  refine compact_lt ?_
  have := List.pairwise_mergeSort (le := fun x y : Int => decide (x ≤ y)) (fun a b c h1 h2 => by simp at *; omega) (fun a b => by simp; omega) (L.flatMap Mo.bads)
  exact this.imp fun h => by simpa using h
section
variable {h : Heap} {v : CV} {C : Circ} {w : TV} {T : Tr}
def ReachP (C : Circ) (T : Tr) (h : Heap) (w : Value) (h' : Heap) : Prop := Ext h h' ∧ ∃ a n c, w = .tuple #[.slice a n c, .int .i64 (reachR C T).2] ∧ Rd h' a n (ints (reachR C T).1)
theorem bads_len {L : List Mo} (h : ∀ M ∈ L, M.bads.length ≤ 16384) : (L.flatMap Mo.bads).length ≤ L.length * 16384 := by
  induction L with
  | nil => simp
  | cons M L ih =>
    rw [List.flatMap_cons, List.length_append, List.length_cons]
    have := ih fun M' hM' => h M' (List.mem_cons_of_mem _ hM')
    have := h M (List.mem_cons_self ..)
    omega
theorem c6 (r : CIs h v C) (ok : C.Ok) (q : TIs h w T) : CallsH Tryz.prog 6 #[v.v, w.v] h (ReachP C T h) := by
  refine run6 v.mx v.i.a v.i.n v.i.c v.l.a v.l.n v.l.c v.o.a v.o.n v.o.c v.b.a v.b.n v.b.c v.c.a v.c.n v.c.c v.j.a v.j.n v.j.c v.f.a v.f.n v.f.c v.g.a v.g.n v.g.c v.s.a v.s.n v.s.c v.m.a v.m.n v.m.c w.i.a w.i.n w.i.c w.s.a w.s.n w.s.c w.lp _ h ?_
  unfold VC6
  intro h1 h2
  have e1 : Ext h h1 := Ext.box h _
  have e2 : Ext h h2 := e1.trans (Ext.push h1 _)
  have hb : Rd h2 (some ⟨h.size, 0, none⟩) 11 v.cs := (boxC v 29).ext (Ext.push h1 _)
  have hw : Rd h2 (some ⟨h1.size, 0, none⟩) 3 w.cs := boxT w 33
  refine ldC hb (ldT hw ((c14 (r.ext e2) ok (q.ext e2)).mono ?_))
  rintro _ h3 ⟨e3, ma, mn, mc, rfl, mi⟩
  have e03 := e2.trans e3
  refine ⟨_, _, _, _, _, rfl, fun hz => ?_, fun hz => ⟨e03, none, 0, 0, by unfold reachR; rw [if_pos hz], by unfold reachR; rw [if_pos hz]; exact .nil⟩⟩
  obtain ⟨hchk, hfit, hQ, _⟩ := runQ_ok hz
  have hRR : reachR C T = (reachL (runQ C T).1, 0) := by unfold reachR; rw [if_neg (by simp [hz])]
  have hbl : ∀ M ∈ (runQ C T).1, M.bads.length ≤ 16384 := fun M hM => by rw [hQ] at hM; exact (movs_mem hchk hfit.1 hM).2.1
  have ml := mi.len
  have hmn : mn ≤ 512 := by rw [← ml, hQ, movs_len]; exact hfit.2.2.1
  generalize (runQ C T).1 = L at *
  refine LoopT.to2 (n := mn) (by omega) (fun i s h' => Fr h3 1 h' s.1 s.2.1 s.2.2 (ints ((L.take i).flatMap Mo.bads))) (.nil (.refl _)) ?_
  rintro i ⟨sa, sn, sc⟩ h5 K hi f hK
  dsimp only at f ⊢
  have fl := f.rd.ilen
  refine ⟨fun hlt => ?_, fun hlt => ?_⟩
  · refine ⟨by omega, hlt, (mi.ext f.ext).elem (i := i) (by omega) fun ad m hl re mo => ⟨_, _, _, _, _, _, _, _, _, _, re.cells, boxN (zs := [.slice none 0 0, .bool false, .slice none 0 0, .slice none 0 0]) (ws := m.cs) rfl (MV.one m) fun h7 e7 b7 => ⟨_, _, _, b7.fld 2 rfl, ints L[i].bads, (mo.b.ext e7).read, by have := mo.b.len; omega, ?_⟩⟩⟩
    have hb1 := hbl _ (List.getElem_mem hl)
    have hb2 := mo.b.ilen
    have hb3 := bads_len (L := L.take i) fun M hM => hbl M (List.mem_of_mem_take hM)
    rw [List.length_take] at hb3
    refine (f.upd e7).app (by have := mo.b.len; omega) ints_one (by omega) fun a' c' h8 f8 u8 hor => hK _ _ (by omega) ?_
    rw [List.take_succ_eq_append_getElem hl, List.flatMap_append]
    simp only [List.flatMap_cons, List.flatMap_nil, List.append_nil]
    rw [ints, List.map_append]
    exact f8
  · rw [List.take_of_length_le (by omega)] at f
    have hb3 := bads_len hbl
    have fl2 := f.rd.ilen
    refine (c15 f.own (by omega)).mono ?_
    rintro _ h9 ⟨rfl, u9, o9⟩
    refine ⟨rfl, (c16 o9 (by omega)).mono ?_⟩
    rintro _ h10 ⟨rfl, u10, o10⟩
    have u : Upd (atb sa) h5 h10 := u9.trans u10
    refine ⟨_, _, _, rfl, e03.trans (Fr.ext_of f.ext f.new u), _, _, _, by rw [hRR], ?_⟩
    rw [hRR]
    exact Rd.one o10.rd
end
end Go.Proofs.YtpmpacdjcfijbaaGreat
