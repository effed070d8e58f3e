/- Words and facts that the claim's proof leans on. No condition. -/
import Derived.Test.YtpmpacdjcfijbaaEA
import Derived.Test.YtpmpacdjcfijbaaDL
/- Traces of a folded circuit are taken back, by the document. No condition. -/
set_option linter.unusedVariables false
set_option linter.unusedSimpArgs false
namespace Go.Proofs.Ytpmpacdjcfijbaa
open Go.Hx Go.Deep
theorem foldR_ok {C : Circ} (h : (foldR C).2 = 0) : foldR C = (foldC C, 0) ∧ (chk C).2 = 0 := by
  unfold foldR at h ⊢
  split at h
  · rename_i hc; exact absurd h hc
  · rename_i hc
    split at h
    · simp at h
    · rename_i hl
      rw [if_neg hc, if_neg hl]
      exact ⟨rfl, Decidable.not_not.1 hc⟩
theorem foldC_ins (C : Circ) : (foldC C).ins = C.ins ∧ (foldC C).lats = C.lats ++ [⟨2 * (C.mx + 1), (foldCons C.cons { C with mx := C.mx + 1 } (2 * (C.mx + 1))).2, 1⟩] := by
  obtain ⟨G, hG, hGl⟩ := foldCons_shape C.cons { C with mx := C.mx + 1 } (2 * (C.mx + 1))
  obtain ⟨h1, h2, h3, h4, h5, h6⟩ := foldBads_sm (foldCons C.cons { C with mx := C.mx + 1 } (2 * (C.mx + 1))).2 C.bads 0 (foldCons C.cons { C with mx := C.mx + 1 } (2 * (C.mx + 1))).1
  rw [hG] at h3
  refine ⟨?_, rfl⟩
  unfold foldC
  simp only [hG, h3]
open Classical in
noncomputable def backR (C : Circ) (T : Tr) : Tr × Int := if (foldR C).2 ≠ 0 then (Tr.zero, (foldR C).2) else if Fit (foldC C) T then ({ T with init := T.init.take C.lats.length }, 0) else (Tr.zero, 4)
def BPost (C : Circ) (T : Tr) (h : Heap) (w : Value) (h' : Heap) : Prop := ∃ v' : TV, w = .tuple #[v'.v, .int .i64 (backR C T).2] ∧ TNew h h' v' (backR C T).1
theorem Fr.take {h0 h : Heap} {a : Option Addr} {n c m : Nat} {vs : List Value} (f : Fr h0 1 h a n c vs) (hm : m ≤ n) : Fr h0 1 h a m c (vs.take m) := by
  have r := f.own.rd
  rw [Nat.mul_one] at r
  have r2 := r.take m hm
  rw [← Nat.mul_one m] at r2
  refine ⟨⟨?_, Nat.le_trans hm f.own.cap, f.own.mem⟩, f.new, f.ext⟩
  rwa [Nat.mul_one] at r2 ⊢
theorem TNew.cut {h0 h : Heap} {v : TV} {T : Tr} (c : TNew h0 h v T) {m : Nat} (hm : m ≤ v.i.n) : TNew h0 h { v with i := ⟨v.i.a, m, v.i.c⟩ } { T with init := T.init.take m } := by
  obtain ⟨rows, hj, mm⟩ := c.ex
  refine ⟨c.lp, rows, hj, ?_⟩
  have := mm.setAt 0 (t' := ⟨1, v.i.a, m, v.i.c, (bools T.init).take m⟩) rfl (Fr.take (mm.get 0 rfl) hm) (.refl _) (.inl rfl)
  have e : (bools T.init).take m = bools (T.init.take m) := by rw [bools, bools, List.map_take]
  rw [e] at this
  exact this
section
variable {h : Heap} {v : CV} {C : Circ} {w : TV} {T : Tr}
theorem back_bad (C : Circ) (T : Tr) (e : Int) (he : backR C T = (Tr.zero, e)) {h h1 h3 : Heap} (fb : Fr h 1 h3 (some ⟨h1.size, 0, none⟩) 3 3 TV.zero.cs) :
    StoreH h3 (Addr.mk h1.size 0 none) [.slice none 0 0, .slice none 0 0, .int .i64 0] fun h4 => ∃ (A : Option Addr), ∃ (N : Nat), ∃ (C' : Nat), ∃ (A1 : Option Addr), ∃ (N1 : Nat), ∃ (C1 : Nat), ∃ (t : Int), cellsH h4 (Addr.mk h1.size 0 none) 0 [.slice A N C', .slice A1 N1 C1, .int .i64 t] ∧
      BPost C T h (.tuple #[.agg #[.slice A N C', .slice A1 N1 C1, .int .i64 t], .int .i64 e]) h4 := by
  refine fb.put (ws := TV.zero.cs) rfl (TV.one _) fun h4 f4 u4 => ldT (v := TV.zero) f4.rd ⟨TV.zero, by rw [he]; rfl, ?_⟩
  rw [he]
  exact TNew.zero f4.ext
end
end Go.Proofs.Ytpmpacdjcfijbaa
/- .. by the library. No condition. -/
set_option linter.unusedVariables false
set_option linter.unusedSimpArgs false
namespace Go.Proofs.Ytpmpacdjcfijbaa
open Go.Hx Go.Deep
section
variable {h : Heap} {v : CV} {C : Circ} {w : TV} {T : Tr}
theorem c37 (r : CIs h v C) (ok : C.Ok) (q : TIs h w T) (tok : T.Ok) (hc : w.i.n ≤ w.i.c) : CallsH Try.prog 37 #[v.v, w.v] h (BPost C T h) := by
  obtain ⟨q1, q2, q3, q4, q5, q6, q7, q8, q9, q10⟩ := r.len
  have ql := q.i.ilen
  have qs := q.s.len
  have qlp := q.lp
  have hil := tok.init
  have hsl := tok.ins
  refine run37 v.mx v.i.a v.i.n v.i.c v.l.a v.l.n v.l.c v.o.a v.o.n v.o.c v.b.a v.b.n v.b.c v.c.a v.c.n v.c.c v.j.a v.j.n v.j.c v.f.a v.f.n v.f.c v.g.a v.g.n v.g.c v.s.a v.s.n v.s.c v.m.a v.m.n v.m.c w.i.a w.i.n w.i.c w.s.a w.s.n w.s.c w.lp _ h ?_
  unfold VC37
  intro h1 h2 h3
  have e1 : Ext h h1 := Ext.box h _
  have e2 : Ext h h2 := e1.trans (Ext.push h1 _)
  have e3 : Ext h h3 := e2.trans (Ext.push h2 _)
  have hs1 : h1.size = h.size + 1 := by simp [h1]
  have hs2 : h2.size = h.size + 2 := by simp [h2, hs1]
  have hs3 : h3.size = h.size + 3 := by simp [h3, hs2]
  have hb : Rd h3 (some ⟨h.size, 0, none⟩) 11 v.cs := ((boxC v 29).ext (Ext.push h1 _)).ext (Ext.push h2 _)
  have hw : Rd h3 (some ⟨h1.size, 0, none⟩) 3 w.cs := (boxT w 35).ext (Ext.push h2 _)
  have fb : Fr h 1 h3 (some ⟨h2.size, 0, none⟩) 3 3 TV.zero.cs := Fr.lit e2 TV.zero.cs 35 3 rfl
  refine ldC hb ((c31 (r.ext e3) ok).mono ?_)
  rintro _ h4 ⟨v1, rfl, cn⟩
  refine ⟨_, _, _, _, _, _, _, _, _, _, _, _, _, _, _, _, _, _, _, _, _, _, _, _, _, _, _, _, _, _, _, _, rfl, ?_⟩
  intro h5
  refine boxN (zs := CV.zero.cs) (ws := v1.cs) rfl (CV.one v1) fun h6 e6 b6 => ?_
  have e36 := cn.heap.trans e6
  have h36 := e36.1
  refine ⟨fun hz => ?_, fun hz => back_bad C T _ (by unfold backR; rw [if_pos hz]) (fb.upd e36)⟩
  obtain ⟨hf, hchk⟩ := foldR_ok hz
  obtain ⟨hin, hlats⟩ := foldC_ins C
  have c6 := cn.cis.ext e6
  rw [hf] at c6
  have hll : (foldC C).lats.length = C.lats.length + 1 := by rw [hlats]; simp
  have hv1 : (foldC C).lats.length = v1.l.n := c6.len.l
  have bad : ∀ h', Ext h3 h' → ¬ Fit (foldC C) T → StoreH h' (Addr.mk h2.size 0 none) [.slice none 0 0, .slice none 0 0, .int .i64 0] fun h4 => ∃ (A : Option Addr), ∃ (N : Nat), ∃ (C' : Nat), ∃ (A1 : Option Addr), ∃ (N1 : Nat), ∃ (C1 : Nat), ∃ (t : Int), cellsH h4 (Addr.mk h2.size 0 none) 0 [.slice A N C', .slice A1 N1 C1, .int .i64 t] ∧
      BPost C T h (.tuple #[.agg #[.slice A N C', .slice A1 N1 C1, .int .i64 t], .int .i64 4]) h4 := fun h' e hnf => back_bad C T _ (by unfold backR; rw [if_neg (by simp [hz]), if_neg hnf]) (fb.upd e)
  have hw6 := hw.ext e36
  have hb6 := hb.ext e36
  have q6' := q.ext (e3.trans e36)
  refine ⟨_, _, _, hw6.fld 1 rfl, _, _, _, hw6.fld 0 rfl, _, _, _, b6.fld 2 rfl, fun k1 => ?_, fun k1 => bad _ e36 fun f => by have := f.1; omega⟩
  refine ⟨fun k2 => bad _ e36 fun f => by have := f.2.1; omega, fun k2 => ⟨fun k3 => bad _ e36 fun f => by have := f.2.2.1; omega, fun k3 => ⟨_, hw6.fld 2 rfl, fun k4 => bad _ e36 fun f => by have := f.2.2.2.1; omega, fun k4 => ⟨_, hw6.fld 2 rfl, fun k5 => bad _ e36 fun f => by have := f.2.2.2.2.1; omega, fun k5 => ?_⟩⟩⟩⟩
  have bltw : ∀ k, (Addr.add ⟨h1.size, 0, none⟩ k).block < h6.size := fun k => by rw [add_block]; simp only; omega
  have bltb : ∀ k, (Addr.add ⟨h.size, 0, none⟩ k).block < h6.size := fun k => by rw [add_block]; simp only; omega
  have m := MemU.start (Mem.nil (.refl h6))
  have hcut : v.l.n ≤ w.i.n := by omega
  refine ⟨bltw 0, _, _, _, hw6.fld 0 rfl, bltb 2, _, _, _, hb6.fld 2 rfl, by omega, by omega, by omega, fun U h14 g => ?_⟩
  show CallsH Try.prog 75 #[.slice (cutA 1 w.i.a w.i.c (Int.toNat 0)) v.l.n w.i.c] h14 _
  rw [cutA0]
  have m1 := m.grow g
  have rt : Rd h14 w.i.a v.l.n (bools (T.init.take v.l.n)) := by
    have := (q6'.i.ext m1.mem.ext).take v.l.n hcut
    rwa [bools, ← List.map_take] at this
  refine (c75 rt (by omega)).mono ?_
  rintro _ h15 ⟨a1, c1, rfl, f15⟩
  obtain ⟨k, m2⟩ := m1.add1 (t := ⟨1, a1, v.l.n, c1, bools (T.init.take v.l.n)⟩) f15
  refine ⟨_, _, _, rfl, k, bltw 2, _, (hw6.ext m2.mem.ext).fld 2 rfl, fun U1 h16 b hg hU ho U2 h17 g7 => ?_⟩
  have m4 := m2.grow hg
  have hb1 := m4.lt b hU
  have m5 := (m4.take hU hb1.1 (t := ⟨1, some ⟨b, 0, none⟩, 3, 3, TV.zero.cs⟩) ⟨Own.row ho rfl, (fun ad ha => by cases ha; exact hb1.1), m4.mem.ext⟩ fun ad ha => by cases ha; rfl).grow g7
  let v0 : TV := ⟨⟨a1, v.l.n, c1⟩, ⟨none, 0, 0⟩, w.lp⟩
  let T2 : Tr := { T with init := T.init.take v.l.n }
  refine (m5.mem.get 0 rfl).put (ws := v0.cs) rfl (TV.one _) fun h8 f8 u8 => ⟨u8.1, ?_⟩
  have m6 := m5.mem.setAt 0 (t' := ⟨1, some ⟨b, 0, none⟩, 3, 3, v0.cs⟩) rfl f8 u8 (.inl rfl)
  have m7 : Mem h6 h8 [⟨1, some ⟨b, 0, none⟩, 3, 3, v0.cs⟩, ⟨1, a1, v.l.n, c1, bools (T.init.take v.l.n)⟩, ⟨1, none, 0, 0, []⟩] := (m6.add (t := ⟨1, none, 0, 0, []⟩) (.nil (.refl h8))).perm (List.perm_append_comm (l₁ := [(⟨1, none, 0, 0, []⟩ : Itm)]) (l₂ := [⟨1, some ⟨b, 0, none⟩, 3, 3, v0.cs⟩, ⟨1, a1, v.l.n, c1, bools (T.init.take v.l.n)⟩]))
  refine ⟨_, _, _, (hw6.ext m7.ext).fld 1 rfl, ?_⟩
  refine LoopT.to (n := w.s.n) (by omega) (fun i h' => ∃ (v' : TV) (rows : List RwB), v'.lp = T.loop ∧ v'.s.n = i ∧ rows.map RwB.l = T.ins.take i ∧ (∀ r ∈ T.ins.take i, r.length = C.ins.length) ∧ Mem h6 h' (⟨1, some ⟨b, 0, none⟩, 3, 3, v'.cs⟩ :: itemsT v' T2 rows)) ⟨v0, [], q.lp, rfl, rfl, (fun r hr => by simp at hr), m7⟩ ?_
  rintro i h9 K hi ⟨v', rows, hlp, hsn, hrs, hfit, m⟩ hK
  have u9 := m.ext
  have hb9 := hb6.ext u9
  refine ⟨fun hlt => ?_, fun hlt => ?_⟩
  · refine ⟨by omega, hlt, q6'.s.get (i := i) (by omega) fun ad hl1 x hc hr hxc hx1 hxn => ⟨_, _, _, Ext.cell u9 hc, _, _, _, hb9.fld 1 rfl, fun e => ?_, fun e => bad _ (e36.trans u9) fun f => ?_⟩⟩
    · have hb1s : b < h9.size := m.lt (List.mem_cons_self ..) (ad := ⟨b, 0, none⟩) rfl
      have hxl : x.n ≤ 140737488351232 := by rw [hxn]; exact tok.rows _ (List.getElem_mem hl1)
      refine ⟨by rw [add_block]; exact hb1s, _, _, _, (m.get 0 rfl).rd.fld 1 rfl, (c75 (hr.ext u9) (by omega)).mono ?_⟩
      rintro _ h11 ⟨a2, c2, rfl, f11⟩
      have e11 := f11.ext
      have m11 := m.add (t := ⟨1, a2, x.n, c2, bools x.l⟩) f11
      refine ⟨_, _, _, rfl, fun b hb => e11.2 b hb fun x => x, ?_⟩
      intro h12
      have e12 : Ext h11 h12 := Ext.push h11 _
      have hs11 := e11.1
      refine ⟨fun b hb => e12.2 b (by omega) fun x => x, ?_⟩
      have r1 := (Fr.lit (.refl h11) [Value.slice a2 x.n c2] 32 1 rfl).rd
      have m12 := m11.ext' e12
      have f3 : Fr h6 1 h12 v'.s.a v'.s.n v'.s.c (rows.map RwB.v) := m12.at' 3 rfl
      refine ⟨[.slice a2 x.n c2], r1.read, rfl, f3.app rfl (by simp [Value.oneCell']) (by omega) fun a' c' h13 f' u hor => ?_⟩
      have m13 := m12.setAt 3 (t' := ⟨1, a', v'.s.n + 1, c', rows.map RwB.v ++ [Value.slice a2 x.n c2]⟩) rfl f' u hor
      refine (m13.get 1 rfl).cellAt 1 (by omega) rfl fun h14 u14 f14 => hK _ (by omega) ⟨{ v' with s := ⟨a', v'.s.n + 1, c'⟩ }, rows ++ [⟨a2, x.n, c2, x.l⟩], hlp, by simp only; omega, ?_, fun r hr => ?_, ?_⟩
      · rw [List.map_append, hrs, List.take_succ_eq_append_getElem hl1]
        simp only [List.map_cons, List.map_nil, hx1]
      · rw [List.take_succ_eq_append_getElem hl1, List.mem_append] at hr
        rcases hr with hr | hr
        · exact hfit r hr
        · rw [List.mem_singleton] at hr; subst hr; omega
      · have m14 := m13.setAt 1 (t' := ⟨1, some ⟨b, 0, none⟩, 3, 3, _⟩) rfl f14 u14 (.inl rfl)
        simp only [List.set_cons_succ, List.set_cons_zero, itemsT, List.cons_append, List.nil_append] at m14
        have e : rows.map RwB.v ++ [Value.slice a2 x.n c2] = (rows ++ [(⟨a2, x.n, c2, x.l⟩ : RwB)]).map RwB.v := by rw [List.map_append]; rfl
        rw [e] at m14
        have := m14.perm (perm_row ..)
        simp only [itemsT, List.map_append, List.map_cons, List.map_nil, List.cons_append, List.nil_append]
        simp only [List.map_append, List.map_cons, List.map_nil] at this
        exact this
    · have := f.2.2.2.2.2 _ (List.getElem_mem hl1)
      rw [hin] at this
      omega
  · have hin2 : i = w.s.n := by omega
    subst hin2
    rw [List.take_of_length_le (by omega)] at hrs hfit
    have hFit : Fit (foldC C) T := ⟨by omega, by omega, by omega, by omega, by omega, fun r hr => by rw [hin]; exact hfit r hr⟩
    have hR : backR C T = ({ T with init := T.init.take C.lats.length }, 0) := by unfold backR; rw [if_neg (by simp [hz]), if_pos hFit]
    refine ldT (m.get 0 rfl).rd ?_
    refine (fb.upd (e36.trans u9)).put (ws := v'.cs) rfl (TV.one _) fun h15 f15 u15 => ldT f15.rd ⟨v', by rw [hR]; rfl, ?_⟩
    rw [hR]
    refine ⟨hlp, rows, hrs, ?_⟩
    rw [q2]
    exact (m.over (e3.trans e36) u15 fun b ⟨ad, ha, e⟩ => by cases ha; simp only at e; omega).sub (List.sublist_cons_self ..)
end
end Go.Proofs.Ytpmpacdjcfijbaa
