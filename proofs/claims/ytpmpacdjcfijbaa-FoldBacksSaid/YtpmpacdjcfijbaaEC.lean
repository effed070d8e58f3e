/- Words and facts that the claim's proof leans on. No condition. -/
import Derived.Test.YtpmpacdjcfijbaaEA
import Derived.Test.YtpmpacdjcfijbaaDL
/- Traces of a folded circuit are taken back, by the document. No condition. -/
set_option linter.unusedVariables false
set_option linter.unusedSimpArgs false
namespace Go.Proofs.Ytpmpacdjcfijbaa
open Go.Hx Go.Deep

theorem foldR_ok {C : Circ} (h : (foldR C).2 = 0) : foldR C = (foldC C, 0) ∧ (chk C).2 = 0 := by
  unfold foldR at h ⊢
  split at h
  · rename_i hc; exact absurd h hc
  · rename_i hc
    split at h
    · simp at h
    · rename_i hl
      rw [if_neg hc, if_neg hl]
      exact ⟨rfl, Decidable.not_not.1 hc⟩
theorem foldC_ins (C : Circ) : (foldC C).ins = C.ins ∧ (foldC C).lats = C.lats ++ [⟨2 * (C.mx + 1), (foldCons C.cons { C with mx := C.mx + 1 } (2 * (C.mx + 1))).2, 1⟩] := by
  obtain ⟨G, hG, hGl⟩ := foldCons_shape C.cons { C with mx := C.mx + 1 } (2 * (C.mx + 1))
  obtain ⟨h1, h2, h3, h4, h5, h6⟩ := foldBads_sm (foldCons C.cons { C with mx := C.mx + 1 } (2 * (C.mx + 1))).2 C.bads 0 (foldCons C.cons { C with mx := C.mx + 1 } (2 * (C.mx + 1))).1
  rw [hG] at h3
  refine ⟨?_, rfl⟩
  unfold foldC
  simp only [hG, h3]
open Classical in
noncomputable def backR (C : Circ) (T : Tr) : Tr × Int := if (foldR C).2 ≠ 0 then (Tr.zero, (foldR C).2) else if Fit (foldC C) T then ({ T with init := T.init.take C.lats.length }, 0) else (Tr.zero, 4)
def BPost (C : Circ) (T : Tr) (h : Heap) (w : Value) (h' : Heap) : Prop := ∃ v' : TV, w = .tuple #[v'.v, .int .i64 (backR C T).2] ∧ TNew h h' v' (backR C T).1
theorem Fr.take {h0 h : Heap} {a : Option Addr} {n c m : Nat} {vs : List Value} (f : Fr h0 1 h a n c vs) (hm : m ≤ n) : Fr h0 1 h a m c (vs.take m) := by
  have r := f.own.rd
  rw [Nat.mul_one] at r
  have r2 := r.take m hm
  rw [← Nat.mul_one m] at r2
  refine ⟨⟨?_, Nat.le_trans hm f.own.cap, f.own.mem⟩, f.new, f.ext⟩
  rwa [Nat.mul_one] at r2 ⊢
theorem TNew.cut {h0 h : Heap} {v : TV} {T : Tr} (c : TNew h0 h v T) {m : Nat} (hm : m ≤ v.i.n) : TNew h0 h { v with i := ⟨v.i.a, m, v.i.c⟩ } { T with init := T.init.take m } := by
  obtain ⟨rows, hj, mm⟩ := c.ex
  refine ⟨c.lp, rows, hj, ?_⟩
  have := mm.setAt 0 (t' := ⟨1, v.i.a, m, v.i.c, (bools T.init).take m⟩) rfl (Fr.take (mm.get 0 rfl) hm) (.refl _) (.inl rfl)
  have e : (bools T.init).take m = bools (T.init.take m) := by rw [bools, bools, List.map_take]
  rw [e] at this
  exact this
section
variable {h : Heap} {v : CV} {C : Circ} {w : TV} {T : Tr}
theorem back_bad (C : Circ) (T : Tr) (e : Int) (he : backR C T = (Tr.zero, e)) {h h1 h3 : Heap} (fb : Fr h 1 h3 (some ⟨h1.size, 0, none⟩) 3 3 TV.zero.cs) :
    StoreH h3 (Addr.mk h1.size 0 none) [.slice none 0 0, .slice none 0 0, .int .i64 0] fun h4 => ∃ (A : Option Addr), ∃ (N : Nat), ∃ (C' : Nat), ∃ (A1 : Option Addr), ∃ (N1 : Nat), ∃ (C1 : Nat), ∃ (t : Int), cellsH h4 (Addr.mk h1.size 0 none) 0 [.slice A N C', .slice A1 N1 C1, .int .i64 t] ∧
      BPost C T h (.tuple #[.agg #[.slice A N C', .slice A1 N1 C1, .int .i64 t], .int .i64 e]) h4 := by
  refine fb.put (ws := TV.zero.cs) rfl (TV.one _) fun h4 f4 u4 => ldT (v := TV.zero) f4.rd ⟨TV.zero, by rw [he]; rfl, ?_⟩
  rw [he]
  exact TNew.zero f4.ext
theorem c38 (r : CIs h v C) (ok : C.Ok) (q : TIs h w T) (tok : T.Ok) : CallsH Try.prog 38 #[v.v, w.v] h (BPost C T h) := by
  obtain ⟨q1, q2, q3, q4, q5, q6, q7, q8, q9, q10⟩ := r.len
  have ql := q.i.ilen
  have qs := q.s.len
  refine run38 v.mx v.i.a v.i.n v.i.c v.l.a v.l.n v.l.c v.o.a v.o.n v.o.c v.b.a v.b.n v.b.c v.c.a v.c.n v.c.c v.j.a v.j.n v.j.c v.f.a v.f.n v.f.c v.g.a v.g.n v.g.c v.s.a v.s.n v.s.c v.m.a v.m.n v.m.c w.i.a w.i.n w.i.c w.s.a w.s.n w.s.c w.lp _ h ?_
  unfold VC38
  intro h1 h2 h3
  have e1 : Ext h h1 := Ext.box h _
  have e2 : Ext h h2 := e1.trans (Ext.push h1 _)
  have e3 : Ext h h3 := e2.trans (Ext.push h2 _)
  have hs1 : h1.size = h.size + 1 := by simp [h1]
  have hs2 : h2.size = h.size + 2 := by simp [h2, hs1]
  have hs3 : h3.size = h.size + 3 := by simp [h3, hs2]
  have hb : Rd h3 (some ⟨h.size, 0, none⟩) 11 v.cs := ((boxC v 29).ext (Ext.push h1 _)).ext (Ext.push h2 _)
  have hw : Rd h3 (some ⟨h1.size, 0, none⟩) 3 w.cs := (boxT w 35).ext (Ext.push h2 _)
  have fb : Fr h 1 h3 (some ⟨h2.size, 0, none⟩) 3 3 TV.zero.cs := Fr.lit e2 TV.zero.cs 35 3 rfl
  refine ldC hb ((c32 (r.ext e3) ok).mono ?_)
  rintro _ h4 ⟨v1, rfl, cn⟩
  refine ⟨_, _, _, _, _, _, _, _, _, _, _, _, _, _, _, _, _, _, _, _, _, _, _, _, _, _, _, _, _, _, _, _, rfl, ?_⟩
  intro h5
  refine boxN (zs := CV.zero.cs) (ws := v1.cs) rfl (CV.one v1) fun h6 e6 b6 => ?_
  have e36 := cn.heap.trans e6
  refine ⟨fun hz => ?_, fun hz => back_bad C T _ (by unfold backR; rw [if_pos hz]) (fb.upd e36)⟩
  obtain ⟨hf, hchk⟩ := foldR_ok hz
  obtain ⟨hin, hlats⟩ := foldC_ins C
  have c6 := cn.cis.ext e6
  rw [hf] at c6
  refine ldC b6 (ldT (hw.ext e36) (useX (c76 c6 (q.ext (e3.trans e36))) fun h7 e7 => ⟨_, rfl, ?_⟩))
  have e37 := e36.trans e7
  by_cases hfit : Fit (foldC C) T
  · rw [decide_eq_true hfit]
    refine BIf.f (ldT (hw.ext e37) ((c14 (q.ext (e3.trans e37)) tok).mono ?_))
    rintro _ h8 ⟨v2, rfl, t2⟩
    have hl2 : T.init.length = C.lats.length + 1 := by rw [hfit.1, hlats]; simp
    have p1 := t2.tis.i.ilen
    obtain ⟨rows2, _, m2⟩ := t2.ex
    have pcap : v2.i.n ≤ v2.i.c := (m2.get 0 rfl).own.cap
    refine ⟨_, _, _, _, _, _, _, rfl, ?_⟩
    intro h9
    have e9 : Ext h8 h9 := Ext.push h8 _
    have f9 : Fr h8 1 h9 (some ⟨h8.size, 0, none⟩) 3 3 TV.zero.cs := Fr.lit (.refl h8) TV.zero.cs 35 3 rfl
    refine f9.put (ws := v2.cs) rfl (TV.one _) fun h10 f10 u10 => ?_
    have e3_8 : Ext h3 h8 := e37.trans t2.heap
    have hb10 : Rd h10 (some ⟨h.size, 0, none⟩) 11 v.cs := hb.ext (e3_8.trans f10.ext)
    refine ⟨_, _, _, f10.rd.fld 0 rfl, _, _, _, hb10.fld 2 rfl, by omega, by omega, by omega, ?_⟩
    rw [cutA0]
    refine f10.cellAt 0 (by omega) rfl fun h11 u11 f11 => ?_
    let v3 : TV := { v2 with i := ⟨v2.i.a, v.l.n, v2.i.c⟩ }
    have ev : TV.cs { v2 with i := ⟨v2.i.a, Int.toNat (v.l.n : Nat) - Int.toNat 0, v2.i.c - Int.toNat 0⟩ } = v3.cs := rfl
    have r11 : Rd h11 (some ⟨h8.size, 0, none⟩) 3 v3.cs := f11.rd
    refine ldT (v := v3) r11 ?_
    refine (fb.upd (e3_8.trans f11.ext)).put (ws := v3.cs) rfl (TV.one _) fun h12 f12 u12 => ldT (v := v3) f12.rd ⟨v3, ?_, ?_⟩
    · have : (backR C T).2 = 0 := by unfold backR; rw [if_neg (by simp [hz]), if_pos hfit]
      rw [this]; rfl
    · have hR : (backR C T).1 = { T with init := T.init.take C.lats.length } := by unfold backR; rw [if_neg (by simp [hz]), if_pos hfit]
      rw [hR]
      have tc := TNew.cut (t2.ext f11.ext) (m := v.l.n) (by omega)
      rw [q2]
      obtain ⟨rows3, hj3, m3⟩ := tc.ex
      have ms : h3.size ≤ h7.size := e37.1
      exact ⟨tc.lp, rows3, hj3, m3.over (e3.trans e37) u12 fun b ⟨ad, ha, e⟩ => by cases ha; simp only at e; omega⟩
  · rw [decide_eq_false hfit]
    exact BIf.t (back_bad C T _ (by unfold backR; rw [if_neg (by simp [hz]), if_neg hfit]) (fb.upd e37))
end
end Go.Proofs.Ytpmpacdjcfijbaa
/- .. by the library. No condition. -/
set_option linter.unusedVariables false
set_option linter.unusedSimpArgs false
namespace Go.Proofs.Ytpmpacdjcfijbaa
open Go.Hx Go.Deep

section
variable {h : Heap} {v : CV} {C : Circ} {w : TV} {T : Tr}
theorem c37 (r : CIs h v C) (ok : C.Ok) (q : TIs h w T) (tok : T.Ok) (hc : w.i.n ≤ w.i.c) : CallsH Try.prog 37 #[v.v, w.v] h (BPost C T h) := by
  obtain ⟨q1, q2, q3, q4, q5, q6, q7, q8, q9, q10⟩ := r.len
  have ql := q.i.ilen
  have qs := q.s.len
  have qlp := q.lp
  have hil := tok.init
  have hsl := tok.ins
  refine run37 v.mx v.i.a v.i.n v.i.c v.l.a v.l.n v.l.c v.o.a v.o.n v.o.c v.b.a v.b.n v.b.c v.c.a v.c.n v.c.c v.j.a v.j.n v.j.c v.f.a v.f.n v.f.c v.g.a v.g.n v.g.c v.s.a v.s.n v.s.c v.m.a v.m.n v.m.c w.i.a w.i.n w.i.c w.s.a w.s.n w.s.c w.lp _ h ?_
  unfold VC37
  intro h1 h2 h3
  have e1 : Ext h h1 := Ext.box h _
  have e2 : Ext h h2 := e1.trans (Ext.push h1 _)
  have e3 : Ext h h3 := e2.trans (Ext.push h2 _)
  have hs1 : h1.size = h.size + 1 := by simp [h1]
  have hs2 : h2.size = h.size + 2 := by simp [h2, hs1]
  have hs3 : h3.size = h.size + 3 := by simp [h3, hs2]
  have hb : Rd h3 (some ⟨h.size, 0, none⟩) 11 v.cs := ((boxC v 29).ext (Ext.push h1 _)).ext (Ext.push h2 _)
  have hw : Rd h3 (some ⟨h1.size, 0, none⟩) 3 w.cs := (boxT w 35).ext (Ext.push h2 _)
  have fb : Fr h 1 h3 (some ⟨h2.size, 0, none⟩) 3 3 TV.zero.cs := Fr.lit e2 TV.zero.cs 35 3 rfl
  refine ldC hb ((c31 (r.ext e3) ok).mono ?_)
  rintro _ h4 ⟨v1, rfl, cn⟩
  refine ⟨_, _, _, _, _, _, _, _, _, _, _, _, _, _, _, _, _, _, _, _, _, _, _, _, _, _, _, _, _, _, _, _, rfl, ?_⟩
  intro h5
  refine boxN (zs := CV.zero.cs) (ws := v1.cs) rfl (CV.one v1) fun h6 e6 b6 => ?_
  have e36 := cn.heap.trans e6
  have h36 := e36.1
  refine ⟨fun hz => ?_, fun hz => back_bad C T _ (by unfold backR; rw [if_pos hz]) (fb.upd e36)⟩
  obtain ⟨hf, hchk⟩ := foldR_ok hz
  obtain ⟨hin, hlats⟩ := foldC_ins C
  have c6 := cn.cis.ext e6
  rw [hf] at c6
  have hll : (foldC C).lats.length = C.lats.length + 1 := by rw [hlats]; simp
  have hv1 : (foldC C).lats.length = v1.l.n := c6.len.l
  have bad : ∀ h', Ext h3 h' → ¬ Fit (foldC C) T → StoreH h' (Addr.mk h2.size 0 none) [.slice none 0 0, .slice none 0 0, .int .i64 0] fun h4 => ∃ (A : Option Addr), ∃ (N : Nat), ∃ (C' : Nat), ∃ (A1 : Option Addr), ∃ (N1 : Nat), ∃ (C1 : Nat), ∃ (t : Int), cellsH h4 (Addr.mk h2.size 0 none) 0 [.slice A N C', .slice A1 N1 C1, .int .i64 t] ∧
      BPost C T h (.tuple #[.agg #[.slice A N C', .slice A1 N1 C1, .int .i64 t], .int .i64 4]) h4 := fun h' e hnf => back_bad C T _ (by unfold backR; rw [if_neg (by simp [hz]), if_neg hnf]) (fb.upd e)
  have hw6 := hw.ext e36
  have hb6 := hb.ext e36
  have q6' := q.ext (e3.trans e36)
  refine ⟨_, _, _, hw6.fld 1 rfl, _, _, _, hw6.fld 0 rfl, _, _, _, b6.fld 2 rfl, fun k1 => ?_, fun k1 => bad _ e36 fun f => by have := f.1; omega⟩
  refine ⟨fun k2 => bad _ e36 fun f => by have := f.2.1; omega, fun k2 => ⟨fun k3 => bad _ e36 fun f => by have := f.2.2.1; omega, fun k3 => ⟨_, hw6.fld 2 rfl, fun k4 => bad _ e36 fun f => by have := f.2.2.2.1; omega, fun k4 => ⟨_, hw6.fld 2 rfl, fun k5 => bad _ e36 fun f => by have := f.2.2.2.2.1; omega, fun k5 => ?_⟩⟩⟩⟩
  have bltw : ∀ k, (Addr.add ⟨h1.size, 0, none⟩ k).block < h6.size := fun k => by rw [add_block]; simp only; omega
  have bltb : ∀ k, (Addr.add ⟨h.size, 0, none⟩ k).block < h6.size := fun k => by rw [add_block]; simp only; omega
  have m := MemU.start (Mem.nil (.refl h6))
  have hcut : v.l.n ≤ w.i.n := by omega
  refine ⟨bltw 0, _, _, _, hw6.fld 0 rfl, bltb 2, _, _, _, hb6.fld 2 rfl, by omega, by omega, by omega, fun U h14 g => ?_⟩
  show CallsH Try.prog 75 #[.slice (cutA 1 w.i.a w.i.c (Int.toNat 0)) v.l.n w.i.c] h14 _
  rw [cutA0]
  have m1 := m.grow g
  have rt : Rd h14 w.i.a v.l.n (bools (T.init.take v.l.n)) := by
    have := (q6'.i.ext m1.mem.ext).take v.l.n hcut
    rwa [bools, ← List.map_take] at this
  refine (c75 rt (by omega)).mono ?_
  rintro _ h15 ⟨a1, c1, rfl, f15⟩
  obtain ⟨k, m2⟩ := m1.add1 (t := ⟨1, a1, v.l.n, c1, bools (T.init.take v.l.n)⟩) f15
  refine ⟨_, _, _, rfl, k, bltw 2, _, (hw6.ext m2.mem.ext).fld 2 rfl, fun U1 h16 b hg hU ho U2 h17 g7 => ?_⟩
  have m4 := m2.grow hg
  have hb1 := m4.lt b hU
  have m5 := (m4.take hU hb1.1 (t := ⟨1, some ⟨b, 0, none⟩, 3, 3, TV.zero.cs⟩) ⟨Own.row ho rfl, (fun ad ha => by cases ha; exact hb1.1), m4.mem.ext⟩ fun ad ha => by cases ha; rfl).grow g7
  let v0 : TV := ⟨⟨a1, v.l.n, c1⟩, ⟨none, 0, 0⟩, w.lp⟩
  let T2 : Tr := { T with init := T.init.take v.l.n }
  refine (m5.mem.get 0 rfl).put (ws := v0.cs) rfl (TV.one _) fun h8 f8 u8 => ⟨u8.1, ?_⟩
  have m6 := m5.mem.setAt 0 (t' := ⟨1, some ⟨b, 0, none⟩, 3, 3, v0.cs⟩) rfl f8 u8 (.inl rfl)
  have m7 : Mem h6 h8 [⟨1, some ⟨b, 0, none⟩, 3, 3, v0.cs⟩, ⟨1, a1, v.l.n, c1, bools (T.init.take v.l.n)⟩, ⟨1, none, 0, 0, []⟩] := (m6.add (t := ⟨1, none, 0, 0, []⟩) (.nil (.refl h8))).perm (List.perm_append_comm (l₁ := [(⟨1, none, 0, 0, []⟩ : Itm)]) (l₂ := [⟨1, some ⟨b, 0, none⟩, 3, 3, v0.cs⟩, ⟨1, a1, v.l.n, c1, bools (T.init.take v.l.n)⟩]))
  refine ⟨_, _, _, (hw6.ext m7.ext).fld 1 rfl, ?_⟩
  refine LoopT.to (n := w.s.n) (by omega) (fun i h' => ∃ (v' : TV) (rows : List RwB), v'.lp = T.loop ∧ v'.s.n = i ∧ rows.map RwB.l = T.ins.take i ∧ (∀ r ∈ T.ins.take i, r.length = C.ins.length) ∧ Mem h6 h' (⟨1, some ⟨b, 0, none⟩, 3, 3, v'.cs⟩ :: itemsT v' T2 rows)) ⟨v0, [], q.lp, rfl, rfl, (fun r hr => by simp at hr), m7⟩ ?_
  rintro i h9 K hi ⟨v', rows, hlp, hsn, hrs, hfit, m⟩ hK
  have u9 := m.ext
  have hb9 := hb6.ext u9
  refine ⟨fun hlt => ?_, fun hlt => ?_⟩
  · refine ⟨by omega, hlt, q6'.s.get (i := i) (by omega) fun ad hl1 x hc hr hxc hx1 hxn => ⟨_, _, _, Ext.cell u9 hc, _, _, _, hb9.fld 1 rfl, fun e => ?_, fun e => bad _ (e36.trans u9) fun f => ?_⟩⟩
    · have hb1s : b < h9.size := m.lt (List.mem_cons_self ..) (ad := ⟨b, 0, none⟩) rfl
      have hxl : x.n ≤ 140737488351232 := by rw [hxn]; exact tok.rows _ (List.getElem_mem hl1)
      refine ⟨by rw [add_block]; exact hb1s, _, _, _, (m.get 0 rfl).rd.fld 1 rfl, (c75 (hr.ext u9) (by omega)).mono ?_⟩
      rintro _ h11 ⟨a2, c2, rfl, f11⟩
      have e11 := f11.ext
      have m11 := m.add (t := ⟨1, a2, x.n, c2, bools x.l⟩) f11
      refine ⟨_, _, _, rfl, fun b hb => e11.2 b hb fun x => x, ?_⟩
      intro h12
      have e12 : Ext h11 h12 := Ext.push h11 _
      have hs11 := e11.1
      refine ⟨fun b hb => e12.2 b (by omega) fun x => x, ?_⟩
      have r1 := (Fr.lit (.refl h11) [Value.slice a2 x.n c2] 32 1 rfl).rd
      have m12 := m11.ext' e12
      have f3 : Fr h6 1 h12 v'.s.a v'.s.n v'.s.c (rows.map RwB.v) := m12.at' 3 rfl
      refine ⟨[.slice a2 x.n c2], r1.read, rfl, f3.app rfl (by simp [Value.oneCell']) (by omega) fun a' c' h13 f' u hor => ?_⟩
      have m13 := m12.setAt 3 (t' := ⟨1, a', v'.s.n + 1, c', rows.map RwB.v ++ [Value.slice a2 x.n c2]⟩) rfl f' u hor
      refine (m13.get 1 rfl).cellAt 1 (by omega) rfl fun h14 u14 f14 => hK _ (by omega) ⟨{ v' with s := ⟨a', v'.s.n + 1, c'⟩ }, rows ++ [⟨a2, x.n, c2, x.l⟩], hlp, by simp only; omega, ?_, fun r hr => ?_, ?_⟩
      · rw [List.map_append, hrs, List.take_succ_eq_append_getElem hl1]
        simp only [List.map_cons, List.map_nil, hx1]
      · rw [List.take_succ_eq_append_getElem hl1, List.mem_append] at hr
        rcases hr with hr | hr
        · exact hfit r hr
        · rw [List.mem_singleton] at hr; subst hr; omega
      · have m14 := m13.setAt 1 (t' := ⟨1, some ⟨b, 0, none⟩, 3, 3, _⟩) rfl f14 u14 (.inl rfl)
        simp only [List.set_cons_succ, List.set_cons_zero, itemsT, List.cons_append, List.nil_append] at m14
        have e : rows.map RwB.v ++ [Value.slice a2 x.n c2] = (rows ++ [(⟨a2, x.n, c2, x.l⟩ : RwB)]).map RwB.v := by rw [List.map_append]; rfl
        rw [e] at m14
        have := m14.perm (perm_row ..)
        simp only [itemsT, List.map_append, List.map_cons, List.map_nil, List.cons_append, List.nil_append]
        simp only [List.map_append, List.map_cons, List.map_nil] at this
        exact this
    · have := f.2.2.2.2.2 _ (List.getElem_mem hl1)
      rw [hin] at this
      omega
  · have hin2 : i = w.s.n := by omega
    subst hin2
    rw [List.take_of_length_le (by omega)] at hrs hfit
    have hFit : Fit (foldC C) T := ⟨by omega, by omega, by omega, by omega, by omega, fun r hr => by rw [hin]; exact hfit r hr⟩
    have hR : backR C T = ({ T with init := T.init.take C.lats.length }, 0) := by unfold backR; rw [if_neg (by simp [hz]), if_pos hFit]
    refine ldT (m.get 0 rfl).rd ?_
    refine (fb.upd (e36.trans u9)).put (ws := v'.cs) rfl (TV.one _) fun h15 f15 u15 => ldT f15.rd ⟨v', by rw [hR]; rfl, ?_⟩
    rw [hR]
    refine ⟨hlp, rows, hrs, ?_⟩
    rw [q2]
    exact (m.over (e3.trans e36) u15 fun b ⟨ad, ha, e⟩ => by cases ha; simp only at e; omega).sub (List.sublist_cons_self ..)
end
end Go.Proofs.Ytpmpacdjcfijbaa
/- Lemmas of a folded circuit are taken back. No condition. -/
set_option linter.unusedVariables false
set_option linter.unusedSimpArgs false
namespace Go.Hx
theorem andNot_one {x : Int} (h0 : -9223372036854775808 ≤ x) (h1 : x ≤ 9223372036854775807) : bop .andNot .i64 x 1 = x - x % 2 := by
  show IntKind.i64.wrap ((BitVec.ofInt 64 x &&& ~~~ BitVec.ofInt 64 1).toNat : Int) = _
  have hb : (~~~ BitVec.ofInt 64 1).toNat = 18446744073709551614 := by decide
  rw [BitVec.toNat_and, hb, BitVec.toNat_ofInt]
  obtain ⟨n, hn⟩ : ∃ n : Nat, n = (x % ((2 ^ 64 : Nat) : Int)).toNat := ⟨_, rfl⟩
  rw [← hn]
  have hlt : n < 18446744073709551616 := by omega
  have e1 : (n &&& 18446744073709551614) / 2 = n / 2 := by
    rw [Nat.and_div_two, show 18446744073709551614 / 2 = 2 ^ 63 - 1 by rfl, Nat.and_two_pow_sub_one_eq_mod, Nat.mod_eq_of_lt (by omega)]
  have e2 : (n &&& 18446744073709551614) % 2 = 0 := by
    have := Nat.testBit_and n 18446744073709551614 0
    simp only [Nat.testBit_zero] at this
    rcases Nat.mod_two_eq_zero_or_one (n &&& 18446744073709551614) with h | h
    · exact h
    · rw [h] at this; simp at this
  rw [IntKind.wrap_i64]
  omega
theorem defG_ok {α : Type} {mx k : Int} {f g : α → Int} {K : List Mk → DR} : ∀ {L : List α} {i : Int} {B : List Mk}, (defG mx k f g L i B K).2.1 = 0 → (∃ B', (K B').2.1 = 0) ∧ ∀ x ∈ L, ∃ B, mk1 mx B (f x) = 0
  | [], i, B, h => ⟨⟨B, h⟩, fun x hx => by cases hx⟩
  | x :: r, i, B, h => by
    rw [defG] at h
    split at h
    · rename_i h1
      split at h
      · obtain ⟨h2, h3⟩ := defG_ok h
        refine ⟨h2, fun y hy => ?_⟩
        rcases List.mem_cons.1 hy with rfl | hy
        · exact ⟨B, h1⟩
        · exact h3 y hy
      · rename_i h2; exact absurd h h2
    · rename_i h1; exact absurd h h1
theorem mk1_ok {mx : Int} {B : List Mk} {l : Int} (h : mk1 mx B l = 0) : 2 ≤ l ∧ l % 2 = 0 ∧ l ≤ 2 * mx := by
  unfold mk1 at h
  split at h
  · simp at h
  · rename_i h1
    omega
theorem lats_even {C : Circ} (h : (defs C).2.1 = 0) : ∀ x ∈ C.lats, 2 ≤ x.a ∧ x.a % 2 = 0 ∧ x.a ≤ 2 * C.mx := by
  intro x hx
  unfold defs at h
  obtain ⟨⟨B1, h1⟩, _⟩ := defG_ok h
  obtain ⟨_, h2⟩ := defG_ok h1
  obtain ⟨B, hB⟩ := h2 x hx
  exact mk1_ok hB
end Go.Hx
namespace Go.Proofs.Ytpmpacdjcfijbaa
open Go.Hx Go.Deep
open Classical in
/-- A lemma taken back. -/
noncomputable def lemR (C : Circ) (l : List Int) : List Int × Bool × Int :=
  if (foldR C).2 ≠ 0 then ([], false, (foldR C).2) else if 16384 < l.length then ([], false, 2) else if ¬ Lem0 (foldC C) l then ([], false, 4) else
  if 2 * (C.mx + 1) ∈ l then ([], false, 0) else (l.filter fun k => decide (k ≠ 2 * (C.mx + 1) + 1), true, 0)
def LmPost (C : Circ) (l : List Int) (h : Heap) (w : Value) (h' : Heap) : Prop := ∃ a n c, w = .tuple #[.slice a n c, .bool (lemR C l).2.1, .int .i64 (lemR C l).2.2] ∧ Fr h 1 h' a n c (ints (lemR C l).1)
theorem lm_none {C : Circ} {l : List Int} {h h' : Heap} {e : Int} (hR : lemR C l = ([], false, e)) (u : Ext h h') : LmPost C l h (.tuple #[.slice none 0 0, .bool false, .int .i64 e]) h' :=
  ⟨none, 0, 0, by rw [hR], by rw [hR]; exact .nil u⟩
section
variable {h : Heap} {v : CV} {C : Circ} {a : Option Addr} {n c : Nat} {l : List Int}
theorem filt_take {p : Int → Bool} {l : List Int} {i : Nat} (hi : i < l.length) : (l.take (i + 1)).filter p = (l.take i).filter p ++ if p l[i] then [l[i]] else [] := by
  rw [List.take_succ_eq_append_getElem hi, List.filter_append]
  congr 1
  rw [List.filter_cons]
  rfl
theorem c40 (r : CIs h v C) (ok : C.Ok) (q : Rd h a n (ints l)) (hn : n ≤ 17592186044416) : CallsH Try.prog 40 #[v.v, .slice a n c] h (LmPost C l h) := by
  obtain ⟨q1, q2, q3, q4, q5, q6, q7, q8, q9, q10⟩ := r.len
  have ql := q.ilen
  refine run40 v.mx v.i.a v.i.n v.i.c v.l.a v.l.n v.l.c v.o.a v.o.n v.o.c v.b.a v.b.n v.b.c v.c.a v.c.n v.c.c v.j.a v.j.n v.j.c v.f.a v.f.n v.f.c v.g.a v.g.n v.g.c v.s.a v.s.n v.s.c v.m.a v.m.n v.m.c a n c _ h ?_
  unfold VC40
  intro h1
  have e1 : Ext h h1 := Ext.box h _
  have hb : Rd h1 (some ⟨h.size, 0, none⟩) 11 v.cs := boxC v 29
  refine ldC hb ((c32 (r.ext e1) ok).mono ?_)
  rintro _ h4 ⟨v1, rfl, cn⟩
  refine ⟨_, _, _, _, _, _, _, _, _, _, _, _, _, _, _, _, _, _, _, _, _, _, _, _, _, _, _, _, _, _, _, _, rfl, ?_⟩
  intro h5
  refine boxN (zs := CV.zero.cs) (ws := v1.cs) rfl (CV.one v1) fun h6 e6 b6 => ?_
  have e16 := cn.heap.trans e6
  refine ⟨fun hz => ?_, fun hz => lm_none (by unfold lemR; rw [if_pos hz]) (e1.trans e16)⟩
  obtain ⟨hf, hchk⟩ := foldR_ok hz
  have c6 := cn.cis.ext e6
  rw [hf] at c6
  replace c6 : CIs h6 v1 (foldC C) := c6
  obtain ⟨hin, hlats⟩ := foldC_ins C
  have hll : (foldC C).lats.length = C.lats.length + 1 := by rw [hlats]; simp
  have hv1 : (foldC C).lats.length = v1.l.n := c6.len.l
  obtain ⟨⟨b0, b1⟩, b2, b3, _⟩ := chk_bounds hchk
  refine ⟨fun hl => lm_none (by unfold lemR; rw [if_neg (by simp [hz]), if_pos (by omega)]) (e1.trans e16), fun hl => ?_⟩
  refine ldC b6 (useX (c77 (n := n) (c := c) c6 (q.ext (e1.trans e16)) (by omega) (by omega)) fun h7 e7 => ⟨_, rfl, ?_⟩)
  have e17 := e16.trans e7
  by_cases hL : Lem0 (foldC C) l
  · rw [decide_eq_true hL]
    refine BIf.f ⟨_, _, _, (b6.ext e7).fld 2 rfl, _, _, _, (hb.ext e17).fld 2 rfl, by omega, by omega, (c6.l.ext e7).elem L3.csl (by omega) (i := v.l.n) (by omega) fun ad hl1 re => ⟨_, re.fld 0 rfl, ?_⟩⟩
    have ht : (foldC C).lats[v.l.n].a = 2 * (C.mx + 1) := by
      simp only [hlats]
      rw [List.getElem_append_right (by omega)]
      simp [q2]
    have qq := q.ext (e1.trans e17)
    have hw : IntKind.wrap .i64 (2 * (C.mx + 1) + 1) = 2 * (C.mx + 1) + 1 := w64 (by omega) (by omega)
    rw [ht]
    refine LoopT.to2 (n := n) (by omega) (fun i s h' => 2 * (C.mx + 1) ∉ l.take i ∧ s.2.1 ≤ i ∧ Fr h7 1 h' s.1 s.2.1 s.2.2 (ints ((l.take i).filter fun k => decide (k ≠ 2 * (C.mx + 1) + 1)))) ⟨by simp, Nat.le_refl _, by simpa using Fr.nil (.refl h7)⟩ ?_
    rintro i ⟨oa, on, oc⟩ h8 K hi ⟨hh, hon, f⟩ hK
    dsimp only at hon f ⊢
    have q8 := qq.ext f.ext
    refine ⟨fun hlt => ?_, fun hlt => ?_⟩
    · refine ⟨by omega, by omega, q8.getn (i := i) (by omega) fun ad1 hl2 hc1 => ⟨_, hc1, fun e => ?_, fun e => ⟨by omega, by omega, q8.getn (i := i) (by omega) fun ad2 _ hc2 => ⟨_, hc2, fun e2 => ?_, fun e2 => ?_⟩⟩⟩⟩
      · refine lm_none ?_ ((e1.trans e17).trans f.ext)
        unfold lemR
        rw [if_neg (by simp [hz]), if_neg (by omega), if_neg (by simp [hL]), if_pos]
        rw [← e]; exact List.getElem_mem hl2
      · rw [hw] at e2
        refine hK _ _ (by omega) ⟨?_, by simp only; omega, ?_⟩
        · rw [List.take_succ_eq_append_getElem hl2, List.mem_append, List.mem_singleton]
          exact fun h => h.elim hh fun h => e h.symm
        · rw [filt_take hl2, if_neg (by simp [e2]), List.append_nil]; exact f
      · rw [hw] at e2
        refine ⟨by omega, by omega, q8.getn (i := i) (by omega) fun ad3 _ hc3 => ⟨_, hc3, app1 f rfl (by omega) fun a' c' h9 f9 => hK _ _ (by omega) ⟨?_, by simp only; omega, ?_⟩⟩⟩
        · rw [List.take_succ_eq_append_getElem hl2, List.mem_append, List.mem_singleton]
          exact fun h => h.elim hh fun h => e h.symm
        · rw [filt_take hl2, if_pos (by simp [e2]), ints, List.map_append]; exact f9
    · rw [List.take_of_length_le (by omega)] at hh f
      have hR : lemR C l = (l.filter fun k => decide (k ≠ 2 * (C.mx + 1) + 1), true, 0) := by
        unfold lemR
        rw [if_neg (by simp [hz]), if_neg (by omega), if_neg (by simp [hL]), if_neg hh]
      exact ⟨oa, on, oc, by rw [hR], by rw [hR]; exact f.base (e1.trans e17)⟩
  · rw [decide_eq_false hL]
    exact BIf.t (lm_none (by unfold lemR; rw [if_neg (by simp [hz]), if_neg (by omega), if_pos hL]) (e1.trans e17))
end
end Go.Proofs.Ytpmpacdjcfijbaa
/- .. by the library. No condition. -/
set_option linter.unusedVariables false
set_option linter.unusedSimpArgs false
namespace Go.Proofs.Ytpmpacdjcfijbaa
open Go.Hx Go.Deep

/-- Whose number without its last bit is a latch's. -/
theorem lit_of {L : List L3} (hL : ∀ y ∈ L, 2 ≤ y.a ∧ y.a % 2 = 0 ∧ y.a ≤ 1000000) {x : Int} (h0 : -9223372036854775808 ≤ x) (h1 : x ≤ 9223372036854775807) :
    bop .andNot .i64 x 1 ∈ L.map L3.a ↔ ∃ y ∈ L, x = y.a ∨ x = IntKind.wrap .i64 (y.a + 1) := by
  rw [andNot_one h0 h1, List.mem_map]
  constructor
  · rintro ⟨y, hy, e⟩
    obtain ⟨k1, k2, k3⟩ := hL y hy
    refine ⟨y, hy, ?_⟩
    rw [w64 (by omega) (by omega)]
    omega
  · rintro ⟨y, hy, e⟩
    obtain ⟨k1, k2, k3⟩ := hL y hy
    rw [w64 (by omega) (by omega)] at e
    exact ⟨y, hy, by omega⟩
section
variable {h : Heap} {v : CV} {C : Circ} {a : Option Addr} {n c : Nat} {l : List Int}
theorem c39 (r : CIs h v C) (ok : C.Ok) (q : Rd h a n (ints l)) (hn : n ≤ 17592186044416) (hw64 : ∀ x ∈ l, -9223372036854775808 ≤ x ∧ x ≤ 9223372036854775807) : CallsH Try.prog 39 #[v.v, .slice a n c] h (LmPost C l h) := by
  obtain ⟨q1, q2, q3, q4, q5, q6, q7, q8, q9, q10⟩ := r.len
  have ql := q.ilen
  have kr := KeyR.int
  refine run39 v.mx v.i.a v.i.n v.i.c v.l.a v.l.n v.l.c v.o.a v.o.n v.o.c v.b.a v.b.n v.b.c v.c.a v.c.n v.c.c v.j.a v.j.n v.j.c v.f.a v.f.n v.f.c v.g.a v.g.n v.g.c v.s.a v.s.n v.s.c v.m.a v.m.n v.m.c a n c _ h ?_
  unfold VC39
  intro h1
  have e1 : Ext h h1 := Ext.box h _
  have hb : Rd h1 (some ⟨h.size, 0, none⟩) 11 v.cs := boxC v 29
  refine ldC hb ((c31 (r.ext e1) ok).mono ?_)
  rintro _ h4 ⟨v1, rfl, cn⟩
  refine ⟨_, _, _, _, _, _, _, _, _, _, _, _, _, _, _, _, _, _, _, _, _, _, _, _, _, _, _, _, _, _, _, _, rfl, ?_⟩
  intro h5
  refine boxN (zs := CV.zero.cs) (ws := v1.cs) rfl (CV.one v1) fun h6 e6 b6 => ?_
  have e16 := cn.heap.trans e6
  refine ⟨fun hz => ?_, fun hz => lm_none (by unfold lemR; rw [if_pos hz]) (e1.trans e16)⟩
  obtain ⟨hf, hchk⟩ := foldR_ok hz
  have c6 := cn.cis.ext e6
  rw [hf] at c6
  replace c6 : CIs h6 v1 (foldC C) := c6
  obtain ⟨hin, hlats⟩ := foldC_ins C
  have hll : (foldC C).lats.length = C.lats.length + 1 := by rw [hlats]; simp
  have hv1 : (foldC C).lats.length = v1.l.n := c6.len.l
  obtain ⟨⟨b0, b1⟩, b2, b3, _⟩ := chk_bounds hchk
  have hev : ∀ y ∈ (foldC C).lats, 2 ≤ y.a ∧ y.a % 2 = 0 ∧ y.a ≤ 1000000 := fun y hy => by
    rw [hlats, List.mem_append, List.mem_singleton] at hy
    rcases hy with hy | rfl
    · have := lats_even (chk_ok hchk).2.1 y hy
      omega
    · simp only; omega
  refine ⟨fun hl => lm_none (by unfold lemR; rw [if_neg (by simp [hz]), if_pos (by omega)]) (e1.trans e16), fun hl => ?_⟩
  unfold J39_1
  intro h7
  have e7 : Ext h6 h7 := Ext.push h6 _
  have m7 : IsM (α := Int) (β := Int) (Value.int .i64) (Value.int .i64) h7 h6.size [] := IsM.new h6
  refine ⟨_, _, _, (b6.ext e7).fld 2 rfl, ?_⟩
  refine LoopT.to (n := v1.l.n) (by omega) (fun i h' => Ext h6 h' ∧ ∃ M : List (Int × Int), IsM (Value.int .i64) (Value.int .i64) h' h6.size M ∧ ∀ x, (atM M x = none ↔ x ∉ ((foldC C).lats.take i).map L3.a) ∧ ∀ t, atM M x = some t → t ≠ 0) ⟨e7, [], m7, fun x => ⟨by simp [atM], by simp [atM]⟩⟩ ?_
  rintro i h8 K hi ⟨u8, M, m8, hM⟩ hK
  refine ⟨fun hlt => ?_, fun hlt => ?_⟩
  · refine ⟨by omega, hlt, (c6.l.ext u8).elem L3.csl (by omega) (i := i) (by omega) fun ad hl1 re => ⟨_, _, _, re.cells, ?_⟩⟩
    refine boxN (zs := [.int .i64 0, .int .i64 0, .int .i64 0]) (ws := L3.cs (foldC C).lats[i]) rfl (by simp [Value.oneCell']) fun h10 e10 b10 => ⟨_, b10.fld 0 rfl, ?_⟩
    refine (m8.upd e10 fun x => x).put kr (foldC C).lats[i].a (IntKind.wrap .i64 (i + 1)) fun h11 m11 u11 => hK _ (by omega) ⟨(u8.trans e10).newer u11 fun b hb hS => by omega, _, m11, fun x => ?_⟩
    rw [atM_putM, List.take_succ_eq_append_getElem hl1, List.map_append, List.mem_append, List.map_cons, List.map_nil, List.mem_singleton]
    have hw : IntKind.wrap .i64 ((i : Int) + 1) = i + 1 := w64 (by omega) (by omega)
    split
    · rename_i hx
      refine ⟨iff_of_false (by simp) (by simp [hx]), fun t ht => ?_⟩
      rw [Option.some.injEq, hw] at ht
      omega
    · rename_i hx
      refine ⟨(hM x).1.trans ?_, (hM x).2⟩
      constructor
      · exact fun h1 h2 => h2.elim h1 hx
      · exact fun h1 h2 => h1 (.inl h2)
  · rw [List.take_of_length_le (show (foldC C).lats.length ≤ i by omega)] at hM
    have hb8 := hb.ext (e16.trans u8)
    refine ⟨_, _, _, (b6.ext u8).fld 2 rfl, _, _, _, hb8.fld 2 rfl, by omega, by omega, (c6.l.ext u8).elem L3.csl (by omega) (i := v.l.n) (by omega) fun ad hl1 re => ⟨_, re.fld 0 rfl, ?_⟩⟩
    have ht : (foldC C).lats[v.l.n].a = 2 * (C.mx + 1) := by
      simp only [hlats]
      rw [List.getElem_append_right (by omega)]
      simp [q2]
    rw [ht]
    have qq := q.ext (e1.trans (e16.trans u8))
    have hor : bop .or .i64 (2 * (C.mx + 1)) 1 = 2 * (C.mx + 1) + 1 := by rw [or_one (by omega) (by omega), if_pos (by omega)]
    have hmS := m8.lt
    refine LoopT.to3 (n := n) (by omega) (fun i s says h' => says = decide (2 * (C.mx + 1) ∉ l.take i) ∧ s.2.1 ≤ i ∧ (∀ x ∈ l.take i, ∃ y ∈ (foldC C).lats, x = y.a ∨ x = IntKind.wrap .i64 (y.a + 1)) ∧ Fr h8 1 h' s.1 s.2.1 s.2.2 (ints ((l.take i).filter fun k => decide (k ≠ 2 * (C.mx + 1) ∧ k ≠ 2 * (C.mx + 1) + 1)))) ⟨by simp, Nat.le_refl _, (fun x hx => by simp at hx), by simpa using Fr.nil (.refl h8)⟩ ?_
    rintro i ⟨oa, on, oc⟩ says h9 K hi ⟨hsays, hon, hin9, f⟩ hK
    dsimp only at hon f ⊢
    have q9 := qq.ext f.ext
    have e9 : Ext h h9 := (e1.trans (e16.trans u8)).trans f.ext
    refine ⟨fun hlt => ?_, fun hlt => ?_⟩
    · refine ⟨by omega, by omega, q9.getn (i := i) (by omega) fun ad1 hl2 hc1 => ⟨_, hc1, ?_⟩⟩
      obtain ⟨x0, x1⟩ := hw64 _ (List.getElem_mem hl2)
      have m9 := m8.upd f.ext fun x => x
      have hno : bop .andNot .i64 l[i] 1 ∉ ((foldC C).lats.map L3.a) → LmPost C l h (.tuple #[.slice none 0 0, .bool false, .int .i64 4]) h9 := fun hn => by
        refine lm_none ?_ e9
        unfold lemR
        rw [if_neg (by simp [hz]), if_neg (by omega), if_pos]
        exact fun hL => hn ((lit_of hev x0 x1).2 (hL _ (List.getElem_mem hl2)))
      refine m9.look kr (bop .andNot .i64 l[i] 1) (fun hnone => ⟨fun _ => hno ((hM _).1.1 hnone), fun e => absurd rfl e⟩) fun t hsome => ⟨t, rfl, fun e => absurd e ((hM _).2 t hsome), fun _ => ?_⟩
      have hmem : bop .andNot .i64 l[i] 1 ∈ ((foldC C).lats.map L3.a) := Decidable.byContradiction fun hh => by
        have := (hM _).1.2 hh
        rw [hsome] at this
        exact absurd this (by simp)
      have hin10 : ∀ x ∈ l.take (i + 1), ∃ y ∈ (foldC C).lats, x = y.a ∨ x = IntKind.wrap .i64 (y.a + 1) := fun x hx => by
        rw [List.take_succ_eq_append_getElem hl2, List.mem_append, List.mem_singleton] at hx
        rcases hx with hx | rfl
        · exact hin9 x hx
        · exact (lit_of hev x0 x1).1 hmem
      have hst : ∀ k : Int, k ∉ l.take (i + 1) ↔ (k ∉ l.take i ∧ l[i] ≠ k) := fun k => by
        rw [List.take_succ_eq_append_getElem hl2, List.mem_append, List.mem_singleton]
        exact ⟨fun h => ⟨fun h1 => h (.inl h1), fun h1 => h (.inr h1.symm)⟩, fun h h1 => h1.elim h.1 fun e => h.2 e.symm⟩
      refine ⟨fun e => ?_, fun e => ⟨fun e2 => ?_, fun e2 => ?_⟩⟩
      · refine hK _ _ _ (by omega) ⟨?_, by simp only; omega, hin10, ?_⟩
        · rw [decide_eq_false]; rw [hst]; exact fun h => h.2 e
        · rw [filt_take hl2, if_neg (by simp [e]), List.append_nil]; exact f
      · rw [hor] at e2
        refine hK _ _ _ (by omega) ⟨?_, by simp only; omega, hin10, ?_⟩
        · rw [hsays]; exact decide_eq_decide.2 ⟨fun h => (hst _).2 ⟨h, e⟩, fun h => ((hst _).1 h).1⟩
        · rw [filt_take hl2, if_neg (by simp [e2]), List.append_nil]; exact f
      · rw [hor] at e2
        refine app1 f rfl (by omega) fun a' c' h10 f10 => hK _ _ _ (by omega) ⟨?_, by simp only; omega, hin10, ?_⟩
        · rw [hsays]; exact decide_eq_decide.2 ⟨fun h => (hst _).2 ⟨h, e⟩, fun h => ((hst _).1 h).1⟩
        · rw [filt_take hl2, if_pos (by simp [e, e2]), ints, List.map_append]; exact f10
    · rw [List.take_of_length_le (by omega)] at hsays hin9 f
      have hL : Lem0 (foldC C) l := hin9
      subst hsays
      by_cases hh : 2 * (C.mx + 1) ∈ l
      · rw [decide_eq_false (fun h => h hh)]
        refine BIf.t (lm_none ?_ e9)
        unfold lemR
        rw [if_neg (by simp [hz]), if_neg (by omega), if_neg (by simp [hL]), if_pos hh]
      · rw [decide_eq_true hh]
        have hR : lemR C l = (l.filter fun k => decide (k ≠ 2 * (C.mx + 1) + 1), true, 0) := by
          unfold lemR
          rw [if_neg (by simp [hz]), if_neg (by omega), if_neg (by simp [hL]), if_neg hh]
        refine BIf.f ⟨oa, on, oc, by rw [hR], ?_⟩
        rw [hR]
        have : (l.filter fun k => decide (k ≠ 2 * (C.mx + 1) + 1)) = l.filter fun k => decide (k ≠ 2 * (C.mx + 1) ∧ k ≠ 2 * (C.mx + 1) + 1) := List.filter_congr fun x hx => by
          have : x ≠ 2 * (C.mx + 1) := fun e => hh (e ▸ hx)
          simp [this]
        rw [this]
        exact f.base (e1.trans (e16.trans u8))
end
end Go.Proofs.Ytpmpacdjcfijbaa
/- The law of traces and lemmas taken back; a trace as an argument. No condition. -/
set_option linter.unusedVariables false
set_option linter.unusedSimpArgs false
namespace Go.Proofs.Ytpmpacdjcfijbaa
open Go.Hx Go.Deep
theorem tOk3 {T : Tr} (ok : T.Ok) : T.init.length < 9223372036854775807 ∧ T.ins.length < 9223372036854775807 ∧ ∀ r ∈ T.ins, r.length < 9223372036854775807 := by
  have h1 := ok.init
  have h2 := ok.ins
  exact ⟨by omega, by omega, fun r hr => by have := ok.rows r hr; omega⟩
theorem back_ok {C : Circ} {T : Tr} (ok : T.Ok) : (backR C T).1.init.length < 9223372036854775807 ∧ (backR C T).1.ins.length < 9223372036854775807 ∧ ∀ r ∈ (backR C T).1.ins, r.length < 9223372036854775807 := by
  have z : Tr.zero.init.length < 9223372036854775807 ∧ Tr.zero.ins.length < 9223372036854775807 ∧ ∀ r ∈ Tr.zero.ins, r.length < 9223372036854775807 := ⟨by simp [Tr.zero], by simp [Tr.zero], fun r hr => by simp [Tr.zero] at hr⟩
  obtain ⟨h1, h2, h3⟩ := tOk3 ok
  unfold backR
  split
  · exact z
  split
  · refine ⟨?_, h2, h3⟩
    simp only [List.length_take]
    omega
  · exact z
theorem lemR_len {C : Circ} {l : List Int} : (lemR C l).1.length ≤ l.length := by
  unfold lemR
  split
  · simp
  split
  · simp
  split
  · simp
  split
  · simp
  · exact List.length_filter_le _ _
section
variable {h : Heap} {v : CV} {C : Circ} {w : TV} {T : Tr} {a : Option Addr} {n c : Nat} {l : List Int}
set_option maxRecDepth 4000 in
theorem c8 (r : CIs h v C) (ok : C.Ok) (q : TIs h w T) (tok : T.Ok) (s : Rd h a n (ints l)) (hn : n ≤ 17592186043904) (hw64 : ∀ x ∈ l, -9223372036854775808 ≤ x ∧ x ≤ 9223372036854775807) :
    CallsH Try.prog 8 #[v.v, w.v, .slice a n c] h (Xt (.bool true) h) := by
  have sl := s.ilen
  refine run8 v.mx v.i.a v.i.n v.i.c v.l.a v.l.n v.l.c v.o.a v.o.n v.o.c v.b.a v.b.n v.b.c v.c.a v.c.n v.c.c v.j.a v.j.n v.j.c v.f.a v.f.n v.f.c v.g.a v.g.n v.g.c v.s.a v.s.n v.s.c v.m.a v.m.n v.m.c w.i.a w.i.n w.i.c w.s.a w.s.n w.s.c w.lp a n c _ h ?_
  unfold VC8
  intro h1 h2
  have e1 : Ext h h1 := Ext.box h _
  have e2 : Ext h h2 := e1.trans (Ext.push h1 _)
  have hs1 : h1.size = h.size + 1 := by simp [h1]
  have hs2 : h2.size = h.size + 2 := by simp [h2, hs1]
  have hb : Rd h2 (some ⟨h.size, 0, none⟩) 11 v.cs := (boxC v 29).ext (Ext.push h1 _)
  have hw : Rd h2 (some ⟨h1.size, 0, none⟩) 3 w.cs := boxT w 35
  have m := MemU.start (Mem.nil (.refl h2))
  refine ⟨by simp only; omega, ldC hb fun U h3 g => ?_⟩
  have m1 := m.grow g
  refine (c13n (r.ext (e2.trans m1.mem.ext)) ok).mono ?_
  rintro _ h4 ⟨v2, rfl, ln, e4⟩
  obtain ⟨k, m2⟩ := m1.ext e4
  refine ⟨_, _, _, _, _, _, _, _, _, _, _, _, _, _, _, _, _, _, _, _, _, _, _, _, _, _, _, _, _, _, _, rfl, k, by simp only; omega, ldT (hw.ext m2.mem.ext) fun U1 h5 g1 => ?_⟩
  have m3 := m2.grow g1
  refine (c14 (q.ext (e2.trans m3.mem.ext)) tok).mono ?_
  rintro _ h6 ⟨w2, rfl, tn⟩
  obtain ⟨rows, hrows, tm⟩ := tn.ex
  obtain ⟨k, m4⟩ := m3.add tm
  refine ⟨_, _, _, _, _, _, _, rfl, k, fun U2 h7 g2 => ?_⟩
  have m5 := m4.grow g2
  refine (c36 (s.ext (e2.trans m5.mem.ext)) (by omega)).mono ?_
  rintro _ h8 ⟨a2, c2, rfl, d2, f2⟩
  obtain ⟨k, m6⟩ := m5.add1 (t := ⟨1, a2, n + 1, c2, ints (l ++ [-77])⟩) f2
  refine ⟨_, _, _, rfl, k, fun U3 h9 b g3 hU ho U4 h10 b1 g4 hU1 ho1 U5 h11 g5 => ?_⟩
  have m7 := m6.grow g3
  have hb7 := m7.lt b hU
  have m8 := (m7.take hU hb7.1 (t := ⟨1, some ⟨b, 0, none⟩, 11, 11, CV.zero.cs⟩) ⟨Own.row ho rfl, (fun ad ha => by cases ha; exact hb7.1), m7.mem.ext⟩ fun ad ha => by cases ha; rfl).grow g4
  have hb8 := m8.lt b1 hU1
  have m9 := (m8.take hU1 hb8.1 (t := ⟨1, some ⟨b1, 0, none⟩, 3, 3, TV.zero.cs⟩) ⟨Own.row ho1 rfl, (fun ad ha => by cases ha; exact hb8.1), m8.mem.ext⟩ fun ad ha => by cases ha; rfl).grow g5
  have z1 : h2.size ≤ h3.size := g.size
  have z4 : h3.size ≤ h4.size := e4.1
  have z5 := g1.size
  have z6 : h5.size ≤ h6.size := tm.ext.1
  have z7 := g2.size
  have z8 : h7.size ≤ h8.size := f2.ext.1
  have z9 := g3.size
  have z10 := g4.size
  have z11 := g5.size
  have av0 : ∀ x, U x → ¬ (h3.size ≤ x ∧ x < h4.size) := fun x hx hh => by have := (m1.lt x hx).2; omega
  have av1 : ∀ x, U1 x → ¬ (h3.size ≤ x ∧ x < h4.size) := fun x hx hh => by
    rcases g1.sup x hx with h | h
    · exact av0 x h hh
    · omega
  have av2 : ∀ x, U2 x → ¬ (h3.size ≤ x ∧ x < h4.size) := fun x hx hh => by
    rcases g2.sup x hx with h | h
    · exact av1 x h hh
    · omega
  have av3 : ∀ x, U3 x → ¬ (h3.size ≤ x ∧ x < h4.size) := fun x hx hh => by
    rcases g3.sup x hx with h | h
    · exact av2 x h hh
    · omega
  have av4 : ¬ (h3.size ≤ b1 ∧ b1 < h4.size) := fun hh => by
    rcases g4.sup b1 hU1 with h | h
    · exact av3 b1 h.1 hh
    · omega
  refine (m9.mem.get 1 rfl).put (ws := v2.cs) rfl (CV.one v2) fun h12 f12 u12 => ⟨u12.1, fun U6 h13 g6 => ?_⟩
  have m10 := (m9.mem.setAt 1 (t' := ⟨1, some ⟨b, 0, none⟩, 11, 11, v2.cs⟩) rfl f12 u12 (.inl rfl)).ext' g6.ext
  refine (m10.get 0 rfl).put (ws := w2.cs) rfl (TV.one w2) fun h14 f14 u14 => ⟨u14.1, ?_⟩
  have m12 := m10.setAt 0 (t' := ⟨1, some ⟨b1, 0, none⟩, 3, 3, w2.cs⟩) rfl f14 u14 (.inl rfl)
  have u4_14 : Upd (fun x => x = b ∨ x = b1) h4 h14 := by
    have ea : Ext h4 h11 := (((((g1.ext.trans tm.ext).trans g2.ext).trans f2.ext).trans g3.ext).trans g4.ext).trans g5.ext
    have eb : Upd (fun x => x = b ∨ x = b1) h11 h12 := u12.mono fun x _ ⟨ad, ha, e⟩ => by cases ha; exact .inl e
    have ec : Upd (fun x => x = b ∨ x = b1) h13 h14 := u14.mono fun x _ ⟨ad, ha, e⟩ => by cases ha; exact .inr e
    exact (((Upd.wide ea).trans eb).trans (Upd.wide g6.ext)).trans ec
  have li : LIs h14 v2 C := ln _ _ u4_14 fun x hx1 hx2 hx => by
    rcases hx with rfl | rfl
    · exact av3 _ hU ⟨hx1, hx2⟩
    · exact av4 ⟨hx1, hx2⟩
  have own : TNew h2 h14 w2 T := ⟨tn.lp, rows, hrows, m12.sub (by rw [List.append_nil]; exact .cons _ (.cons _ (.cons _ (.refl _))))⟩
  have wcap : w2.i.n ≤ w2.i.c := (m12.get 3 rfl).own.cap
  have lent : Rd h14 a2 (n + 1) (ints (l ++ [-77])) := (m12.get 2 rfl).rd
  have bv : Rd h14 (some ⟨b, 0, none⟩) 11 v2.cs := (m12.get 1 rfl).rd
  have bw : Rd h14 (some ⟨b1, 0, none⟩) 3 w2.cs := (m12.get 0 rfl).rd
  have e14 : Ext h2 h14 := m12.ext
  have z14 := e14.1
  clear m12 f14 u14 m10 g6 f12 u12 m9 m8 m7 hb7 hb8 m6 m5 m4 m3 m2 m1 m ln av0 av1 av2 av3 av4 u4_14 k
  refine ldC bv (ldT bw ((c37 li.cis ok own.tis tok wcap).mono ?_))
  rintro _ h15 ⟨va, rfl, ta⟩
  refine ⟨_, _, _, _, _, _, _, _, rfl, ?_⟩
  intro h16
  refine boxN (zs := TV.zero.cs) (ws := va.cs) rfl (TV.one va) fun h17 e17 b17 => ?_
  have e15 := ta.heap
  have e14_17 : Ext h14 h17 := e15.trans e17
  have e2_17 : Ext h2 h17 := e14.trans e14_17
  refine ldC (hb.ext e2_17) (ldT (hw.ext e2_17) ((c38 (r.ext (e2.trans e2_17)) ok (q.ext (e2.trans e2_17)) tok).mono ?_))
  rintro _ h18 ⟨vb, rfl, tb⟩
  refine ⟨_, _, _, _, _, _, _, _, rfl, ?_⟩
  intro h19
  refine boxN (zs := TV.zero.cs) (ws := vb.cs) rfl (TV.one vb) fun h20 e20 b20 => ?_
  have e17_20 : Ext h17 h20 := tb.heap.trans e20
  have e14_20 := e14_17.trans e17_20
  refine ldC (bv.ext e14_20) ((c39 (li.cis.ext e14_20) ok (lent_rd (lent.ext e14_20)) (by omega) hw64).mono ?_)
  rintro _ h21 ⟨ax, nx, cx, rfl, fx⟩
  have e20_21 := fx.ext
  have e2_21 := e14.trans (e14_20.trans e20_21)
  refine ⟨_, _, _, _, _, rfl, ldC (hb.ext e2_21) ((c40 (r.ext (e2.trans e2_21)) ok (s.ext (e2.trans e2_21)) (by omega)).mono ?_)⟩
  rintro _ h22 ⟨ay, ny, cy, rfl, fy⟩
  have e21_22 := fy.ext
  have e20_22 := e20_21.trans e21_22
  have e17_22 := e17_20.trans e20_22
  refine ⟨_, _, _, _, _, rfl, ldT (b17.ext e17_22) (ldT (b20.ext e20_22) (useX (c22 (ta.tis.ext (e17.trans e17_22)) (tb.tis.ext (e20.trans e20_22)) (back_ok tok)) fun h23 e23 => ⟨true, rfl, BIf.f ⟨fun _ => ?_, fun e => absurd rfl e⟩⟩))⟩
  have hlx := fx.own.rd.ilen (f := Value.int .i64)
  have hly : (lemR C l).1.length ≤ l.length := lemR_len
  have rx : Rd h23 ax nx (ints (lemR C l).1) := (Rd.one fx.own.rd).ext (e21_22.trans e23)
  have ry : Rd h23 ay ny (ints (lemR C l).1) := (Rd.one fy.own.rd).ext e23
  have hnx := rx.ilen
  refine use (c41t rx ry (by omega)) ⟨true, rfl, BIf.f ⟨fun _ => ⟨fun _ => ?_, fun e => absurd rfl e⟩, fun e => absurd rfl e⟩⟩
  have e17_23 := e17_22.trans e23
  refine ldT (b17.ext e17_23) ((c42 ta (e17.trans e17_23) (back_ok tok)).mono ?_)
  rintro _ h25 ⟨rfl, u25⟩
  have e20_23 := e20_22.trans e23
  have e14_23 := e14_17.trans e17_23
  have e14_25 : Ext h14 h25 := e14_23.newer u25 fun i hi hS => by have := hS.1; omega
  have y1 : h14.size ≤ h15.size := e15.1
  have y2 : h15.size ≤ h17.size := e17.1
  have y3 : h17.size ≤ h20.size := e17_20.1
  have fx25 : Fr h14 1 h25 ax nx cx (ints (lemR C l).1) := ⟨(fx.own.ext (e21_22.trans e23)).upd u25 fun ad ha hS => by have := fx.new ad ha; have := hS.2; omega, fun ad ha => by have := fx.new ad ha; omega, e14_25⟩
  refine ⟨rfl, (c43 fx25 (by omega) (-7)).mono ?_⟩
  rintro _ h26 ⟨rfl, vs', fx26, u26⟩
  have e14_26 : Ext h14 h26 := fx26.ext
  have e2_26 := e14.trans e14_26
  refine ⟨rfl, ldC (bv.ext e14_26) (ldC (hb.ext e2_26) (useX (c21 (li.ext e14_26) (r.ext (e2.trans e2_26)) (Circ.Ok.sm ok)) fun h27 e27 => ⟨true, rfl, BIf.t ?_⟩))⟩
  have e14_27 := e14_26.trans e27
  have e2_27 := e14.trans e14_27
  refine ldT (bw.ext e14_27) (ldT (hw.ext e2_27) (useX (c22 (own.tis.ext e14_27) (q.ext (e2.trans e2_27)) (tOk3 tok)) fun h28 e28 => ⟨true, rfl, BIf.t ?_⟩))
  have e14_28 := e14_27.trans e28
  refine use (c44 (lent.ext e14_28) (s.ext (e2.trans (e14.trans e14_28))) (by omega) d2) ⟨true, rfl, BIf.t ?_⟩
  exact useX (c35 h28) fun h30 e30 => ⟨true, rfl, rfl, (e2.trans (e14.trans e14_28)).trans e30⟩
end
end Go.Proofs.Ytpmpacdjcfijbaa
