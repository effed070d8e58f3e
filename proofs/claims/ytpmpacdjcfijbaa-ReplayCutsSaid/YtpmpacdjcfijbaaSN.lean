/- .. the walk; a trace as an argument, with its rows' room. No condition. -/
import Derived.Test.YtpmpacdjcfijbaaSM
import Derived.Test.YtpmpacdjcfijbaaEA
import Derived.Test.YtpmpacdjcfijbaaCAg
set_option linter.unusedVariables false
set_option linter.unusedSimpArgs false
namespace Go.Proofs.Ytpmpacdjcfijbaa
open Go.Hx Go.Deep
theorem rwbOne {l : List RwB} : ∀ y ∈ l.map RwB.v, y.oneCell' = true := by intro y hy; obtain ⟨x, _, rfl⟩ := List.mem_map.1 hy; rfl
section
variable {H : Type} {enc : TypeId × Value → H} {W : World} {base : Nat} {held : Bool}
theorem open_tracec : Opens enc Try.prog W base held 35 (fun p : TV × Tr => p.1.cs) (fun p => TIs W.heap p.1 p.2 ∧ p.2.Ok ∧ p.1.s.n ≤ p.1.s.c) := by
  intro fuel cs x h hw
  obtain ⟨hl, hf⟩ := struct_cells (P := Try.prog) (t := 35) Try.underlying35 (by kernel_rfl) h hw
  rw [show Try.prog.cellsOf 35 = 3 by kernel_rfl] at hl
  obtain ⟨i, _, h0, e0, k0, c0, n0⟩ := hf 0 _ rfl (by omega) (Opens.bools (t := 32) (e := 4) Try.underlying32 Try.underlying4 (by kernel_rfl) (by kernel_rfl))
  obtain ⟨s, _, h1, e1, k1, c1, n1, w1⟩ := hf 1 _ rfl (by omega) (Opens.brows (t := 33) (e := 32) (q := 4) Try.underlying33 Try.underlying32 Try.underlying4 (by kernel_rfl) (by kernel_rfl) (by kernel_rfl) (by kernel_rfl))
  obtain ⟨lp, _, h2, e2, k2⟩ := hf 2 _ rfl (by omega) (Opens.int Try.underlying3)
  simp only [List.cons.injEq, and_true] at e0 e1 e2
  subst e0 e1 e2
  let v : TV := ⟨⟨i.a, i.n, i.c⟩, ⟨s.a, s.n, s.c⟩, lp⟩
  let T : Tr := ⟨i.l, s.l, lp⟩
  refine ⟨(v, T), list3 hl h0 h1 h2, ⟨k0, k1, rfl⟩, ⟨wf_i64 k2, ?_, ?_, w1⟩, c1⟩
  · have := k0.ilen; simp only [T]; omega
  · have := k1.len; simp only [T]; omega
end
section
variable {h : Heap} {v : CV} {C : Circ} {w : TV} {T : Tr}
set_option maxRecDepth 4000 in
theorem c4 (r : CIs h v C) (ok : C.Ok) (q : TIs h w T) (hcap : w.s.n ≤ w.s.c) (j : Int) : CallsH Try.prog 4 #[v.v, .int .i64 j, w.v] h (Xt (.bool true) h) := by
  have qs := q.s.len
  have qlp := q.lp
  refine run4 v.mx v.i.a v.i.n v.i.c v.l.a v.l.n v.l.c v.o.a v.o.n v.o.c v.b.a v.b.n v.b.c v.c.a v.c.n v.c.c v.j.a v.j.n v.j.c v.f.a v.f.n v.f.c v.g.a v.g.n v.g.c v.s.a v.s.n v.s.c v.m.a v.m.n v.m.c j w.i.a w.i.n w.i.c w.s.a w.s.n w.s.c w.lp _ h ?_
  unfold VC4
  intro h1 h2
  have e1 : Ext h h1 := Ext.box h _
  have e2 : Ext h h2 := e1.trans (Ext.push h1 _)
  have hs1 : h1.size = h.size + 1 := by simp [h1]
  have hs2 : h2.size = h.size + 2 := by simp [h2, hs1]
  have hb : Rd h2 (some ⟨h.size, 0, none⟩) 11 v.cs := (boxC v 29).ext (Ext.push h1 _)
  have hw : Rd h2 (some ⟨h1.size, 0, none⟩) 3 w.cs := boxT w 35
  refine useX (c23 h2) fun h3 e3 => ⟨true, rfl, BIf.f ?_⟩
  have e03 := e2.trans e3
  refine ldC (hb.ext e3) (ldT (hw.ext e3) (useX (c19 (r.ext e03) ok (q.ext e03) j) fun h4 e4 => ⟨_, _, rfl, ?_⟩))
  have e24 := e3.trans e4
  have e04 := e2.trans e24
  have yes : ∀ h', Ext h h' → Xt (.bool true) h (.bool true) h' := fun h' e => ⟨rfl, e⟩
  have hat := propQ_at (C := C) (j := j) (T := T)
  refine ⟨fun hz => ⟨_, _, _, (hw.ext e24).fld 1 rfl, fun _ => ⟨fun _ => yes _ e04, fun hn => absurd hz hn⟩, fun hle => ?_⟩, fun hz => ⟨fun h0 => absurd h0 hz, fun _ => ⟨fun _ => yes _ e04, fun hn => absurd hat hn⟩⟩⟩
  obtain ⟨la, hP⟩ := lasso_of hz
  rw [hP]
  have hlp0 := la.lp
  have hlp1 := la.fit.2.2.2.2.1
  refine ⟨_, (hw.ext e24).fld 2 rfl, fun _ => ⟨fun hn => absurd hn (by simp only; omega), fun _ => ?_⟩, fun hn => absurd qlp.symm hn⟩
  have hz1 := e24.1
  obtain ⟨rows, hr1, hr2, hr3⟩ := q.s.ex
  have rl := hr1.len
  rw [List.length_map] at rl
  have hlo : T.loop.toNat < rows.length := by omega
  have zS : ∀ {a b : Heap} {S : Nat → Prop}, Upd S a b → (∀ x, S x → h2.size ≤ x) → h2.size ≤ a.size → Zone.r (Zone.of fun b => b < h2.size) a b := fun u hS hle b hb => u.2 b (by omega) fun hs => by have := hS b hs; omega
  refine ⟨_, _, _, (hw.ext e24).fld 1 rfl, Zone.of fun b => b < h2.size, ?_⟩
  intro h7
  have e7 : Ext h4 h7 := Ext.push h4 _
  have hasw : ∀ {h' : Heap}, Zone.hasL (Zone.of fun b => b < h2.size) h' (Addr.add ⟨h1.size, 0, none⟩ 1) := fun {h'} => Zone.has.cell fun h'' hz => hz _ (by rw [add_block]; simp only; omega)
  have r4 : Rd h4 w.s.a w.s.n (rows.map RwB.v) := hr1.ext e04
  refine ⟨zS e7 (fun _ h => h.elim) hz1, hasw, _, _, _, (hw.ext (e24.trans e7)).fld 1 rfl, rows.map RwB.v, (r4.ext e7).read, by rw [List.length_map]; omega, app0n (h := h4) (by rw [List.length_map]; omega) rwbOne (by omega) fun a1 c1 h8 f8 => ?_⟩
  have e28 := e24.trans f8.ext
  have z8 : h4.size ≤ h8.size := f8.ext.1
  have f8' := f8
  refine ⟨fun b hb => by rw [f8.ext.2 b (by omega) fun x => x, e7.2 b (by omega) fun x => x], hasw, _, _, _, (hw.ext e28).fld 1 rfl, by simp only; omega, by simp only; omega, by omega, ?_⟩
  have hn3 : Int.toNat ((w.s.n : Nat) : Int) - Int.toNat T.loop = w.s.n - T.loop.toNat := by rw [Int.toNat_natCast]
  have rcut : Rd h8 (cutA 1 w.s.a w.s.c T.loop.toNat) (w.s.n - T.loop.toNat) ((rows.drop T.loop.toNat).map RwB.v) := by
    have r8 := r4.ext f8.ext
    obtain ⟨ad, had⟩ := r8.some (by omega)
    rw [had] at r8
    have hc := r8.cut T.loop.toNat (w.s.n - T.loop.toNat) (by omega)
    rw [List.map_drop]
    unfold cutA
    rw [if_neg (by omega), had, Option.map_some, Nat.mul_one]
    rwa [List.take_of_length_le (by simp; omega)] at hc
  refine ⟨(rows.drop T.loop.toNat).map RwB.v, rcut.read, by rw [hn3]; simp; omega, f8.app (by rw [hn3]; simp; omega) rwbOne (by rw [hn3]; omega) fun a2 c2 h9 f9 u9 hor => ?_⟩
  have e49 : Ext h4 h9 := f9.ext
  have e29 := e24.trans e49
  refine ⟨zS u9 (fun x ⟨ad, ha, e⟩ => by have := f8.new ad ha; omega) (by omega), ?_⟩
  have e09 := e2.trans e29
  have hrows : RdBs h9 a2 (w.s.n + (Int.toNat ((w.s.n : Nat) : Int) - Int.toNat T.loop)) (T.ins ++ T.ins.drop T.loop.toNat) := by
    refine ⟨⟨rows ++ rows.drop T.loop.toNat, by have := Rd.one f9.own.rd; rwa [← List.map_append] at this, fun s hs => ?_, by rw [List.map_append, List.map_drop, hr3]⟩⟩
    have hs' : s ∈ rows := by
      rcases List.mem_append.1 hs with h | h
      · exact h
      · exact List.mem_of_mem_drop h
    exact ⟨(hr2 s hs').1.ext e09, (hr2 s hs').2⟩
  have tis : ∀ (lp : Int) {h' : Heap}, Ext h9 h' → TIs h' ⟨w.i, ⟨a2, w.s.n + (Int.toNat ((w.s.n : Nat) : Int) - Int.toNat T.loop), c2⟩, lp⟩ ⟨T.init, T.ins ++ T.ins.drop T.loop.toNat, lp⟩ := fun lp {h'} e => ⟨q.i.ext (e09.trans e), hrows.ext e, rfl⟩
  have la1 := la.again (by omega) (lp := T.loop) (.inl rfl)
  have la2 := la.again (by omega) (lp := (w.s.n : Nat)) (.inr (by omega))
  refine ldC (hb.ext e29) ⟨_, _, _, (hw.ext e29).fld 0 rfl, useX (c19 (r.ext e09) ok (tis T.loop (.refl h9)) j) fun h10 e10 => ?_⟩
  rw [of_lasso la1]
  refine ⟨_, _, rfl, ldC (hb.ext (e29.trans e10)) ⟨_, _, _, (hw.ext (e29.trans e10)).fld 0 rfl, useX (c19 (r.ext (e09.trans e10)) ok (tis (w.s.n : Nat) e10) j) fun h11 e11 => ?_⟩⟩
  rw [of_lasso la2]
  exact ⟨_, _, rfl, fun _ => ⟨fun _ => ⟨fun _ => ⟨fun _ => yes _ ((e09.trans e10).trans e11), fun hn => absurd rfl hn⟩, fun hn => absurd rfl hn⟩, fun hn => absurd rfl hn⟩, fun hn => absurd rfl hn⟩
end
end Go.Proofs.Ytpmpacdjcfijbaa
