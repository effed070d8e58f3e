/- Words and facts that the claim's proof leans on. No condition. -/
import Derived.Test.YtpmpacdjcfijbaaSI
import Derived.Test.YtpmpacdjcfijbaaEA
import Derived.Test.YtpmpacdjcfijbaaCAg
/- A lasso goes round. No condition. -/
set_option linter.unusedVariables false
set_option linter.unusedSimpArgs false
namespace Go.Proofs.Ytpmpacdjcfijbaa
open Go.Hx Go.Deep
noncomputable def endS (C : Circ) : List Bool → List (List Bool) → List Bool
  | st, [] => st
  | st, r :: rs => endS C (nextL C (valsOf C st r)) rs
theorem movs_app {C : Circ} : ∀ {A B : List (List Bool)} {st : List Bool}, movs C st (A ++ B) = movs C st A ++ movs C (endS C st A) B
  | [], B, st => rfl
  | r :: A, B, st => by rw [List.cons_append, movs, movs, endS, List.cons_append, movs_app]
theorem endS_app {C : Circ} : ∀ {A B : List (List Bool)} {st : List Bool}, endS C st (A ++ B) = endS C (endS C st A) B
  | [], B, st => rfl
  | r :: A, B, st => by rw [List.cons_append, endS, endS, endS_app]
theorem endS_take {C : Circ} : ∀ {rs : List (List Bool)} {st : List Bool} {k : Nat} {M : Mo}, (movs C st rs)[k]? = some M → endS C st (rs.take k) = M.st
  | [], _, _, _, h => by simp [movs] at h
  | r :: rs, st, 0, M, h => by
    simp only [movs, List.getElem?_cons_zero, Option.some.injEq] at h
    subst h
    rfl
  | r :: rs, st, k + 1, M, h => by
    simp only [movs, List.getElem?_cons_succ] at h
    rw [List.take_succ_cons, endS]
    exact endS_take h
theorem endS_last {C : Circ} {rs : List (List Bool)} {st : List Bool} {k : Nat} {M : Mo} {r : List Bool} (hk : k + 1 = rs.length) (h : (movs C st rs)[k]? = some M) (hr : rs[k]? = some r) : endS C st rs = nextL C (valsOf C M.st r) := by
  have h1 : rs = rs.take k ++ [r] := by
    have := List.take_add_one (l := rs) (i := k)
    rw [hr, List.take_of_length_le (by omega)] at this
    exact this
  have h2 := endS_take h
  conv => lhs; rw [h1]
  rw [endS_app, h2]
  rfl
theorem missF_none {came : Mk → Prop} {a : Int} : ∀ {n i : Nat}, missF came a n i = none ↔ ∀ k, k < n → came (a, ((i + k : Nat) : Int))
  | 0, i => by simp [missF]
  | n + 1, i => by
    rw [missF]
    split
    · rename_i h
      rw [missF_none]
      constructor
      · intro hh k hk
        cases k with
        | zero => exact h
        | succ k =>
          have := hh k (by omega)
          rw [show i + 1 + k = i + (k + 1) by omega] at this
          exact this
      · intro hh k hk
        have := hh (k + 1) (by omega)
        rw [show i + (k + 1) = i + 1 + k by omega] at this
        exact this
    · rename_i h
      refine iff_of_false (by simp) fun hh => h ?_
      exact hh 0 (by omega)
/-- What a lasso that is taken is. -/
structure Lasso (C : Circ) (j : Int) (T : Tr) : Prop where
  chk : (chk C).2 = 0
  j0 : 0 ≤ j
  j1 : j < C.just.length
  fit : Fit C T
  ini : iniF C.lats T.init 0 = none
  ok : ∀ m ∈ movs C T.init T.ins, m.ok = true
  lp : 0 ≤ T.loop
  round : ∀ M, (movs C T.init T.ins)[T.loop.toNat]? = some M → endS C T.init T.ins = M.st
  came : ∀ k, k < (C.just.getD j.toNat []).length → cameIn (movs C T.init T.ins) T.loop.toNat (j, (k : Int))
  fair : ∀ k, k < C.fair.length → cameIn (movs C T.init T.ins) T.loop.toNat (-1, (k : Int))
theorem runQ_of {C : Circ} {T : Tr} (hc : (chk C).2 = 0) (hf : Fit C T) (hi : iniF C.lats T.init 0 = none) (ho : ∀ m ∈ movs C T.init T.ins, m.ok = true) : runQ C T = (movs C T.init T.ins, 0, 0) := by
  have hR : runR C T = (movs C T.init T.ins, 0) := by unfold runR; rw [if_neg (by simp [hc]), if_pos hf]
  unfold runQ
  rw [hR, if_neg (by simp), hi]
  simp only
  rw [(brkF_none (i := 0)).2 ho]
theorem last_eq {C : Circ} {T : Tr} (hf : Fit C T) : ∃ M row, (movs C T.init T.ins)[T.ins.length - 1]? = some M ∧ T.ins[T.ins.length - 1]? = some row ∧ lastM (movs C T.init T.ins) = M ∧ T.ins.getD (T.ins.length - 1) [] = row ∧ endS C T.init T.ins = nextL C (valsOf C M.st row) := by
  have h1 := hf.2.1
  obtain ⟨M, hM⟩ : ∃ M, (movs C T.init T.ins)[T.ins.length - 1]? = some M := ⟨_, List.getElem?_eq_getElem (by rw [movs_len]; omega)⟩
  obtain ⟨row, hr⟩ : ∃ row, T.ins[T.ins.length - 1]? = some row := ⟨_, List.getElem?_eq_getElem (by omega)⟩
  refine ⟨M, row, hM, hr, ?_, ?_, endS_last (by omega) hM hr⟩
  · unfold lastM
    rw [List.getD_eq_getElem?_getD, movs_len, hM]; rfl
  · rw [List.getD_eq_getElem?_getD, hr]; rfl
theorem lasso_of {C : Circ} {j : Int} {T : Tr} (h : (propQ C 106 j T).2 = 0) : Lasso C j T ∧ propQ C 106 j T = (T.loop, 0) := by
  unfold propQ at h ⊢
  split at h
  · rename_i hc; exact absurd h hc
  rename_i hc
  rw [if_neg (by simp)] at h
  split at h
  rotate_left
  · simp at h
  rename_i hj
  rw [if_neg hc, if_neg (by simp), if_pos hj]
  by_cases hq : (runQ C T).2.2 = 0
  rotate_left
  · unfold justQ at h
    rw [if_pos hq] at h
    exact absurd h hq
  obtain ⟨h1, h2, hQ, hi, hb⟩ := runQ_ok hq
  have hJ := justQ_at (j := j) hq
  rw [hJ] at h ⊢
  rw [hQ] at h ⊢
  simp only at h ⊢
  split at h
  · simp at h
  rename_i hl
  rw [if_neg hl]
  split at h
  · simp at h
  rename_i he
  rw [if_neg he]
  obtain ⟨M, row, hM, hr, e1, e2, e3⟩ := last_eq h2
  rw [e1, e2, ← e3] at he
  cases hm1 : missF (cameIn (movs C T.init T.ins) T.loop.toNat) j (C.just.getD j.toNat []).length 0 with
  | some k => rw [hm1] at h; simp at h
  | none =>
    rw [hm1] at h
    simp only at h ⊢
    cases hm2 : missF (cameIn (movs C T.init T.ins) T.loop.toNat) (-1) C.fair.length 0 with
    | some k => rw [hm2] at h; simp at h
    | none =>
      refine ⟨⟨h1, hj.2.1, hj.2.2, h2, hi, brkF_none.1 hb, by omega, fun M' hM' => ?_, fun k hk => ?_, fun k hk => ?_⟩, rfl⟩
      · have := Decidable.not_not.1 he
        rw [this, List.getD_eq_getElem?_getD, hM']; rfl
      · have := missF_none.1 hm1 k hk; rwa [Nat.zero_add] at this
      · have := missF_none.1 hm2 k hk; rwa [Nat.zero_add] at this
theorem of_lasso {C : Circ} {j : Int} {T : Tr} (l : Lasso C j T) : propQ C 106 j T = (T.loop, 0) := by
  have hQ := runQ_of l.chk l.fit l.ini l.ok
  have hz : (runQ C T).2.2 = 0 := by rw [hQ]
  unfold propQ
  rw [if_neg (by simp [l.chk]), if_neg (by simp), if_pos ⟨rfl, l.j0, l.j1⟩, justQ_at hz, hQ, if_neg (by have := l.lp; omega)]
  simp only
  obtain ⟨M, row, hM, hr, e1, e2, e3⟩ := last_eq l.fit
  have hlp : T.loop.toNat < (movs C T.init T.ins).length := by rw [movs_len]; have := l.fit.2.2.2.2.1; have := l.lp; omega
  rw [e1, e2, ← e3, l.round _ (List.getElem?_eq_getElem hlp), List.getD_eq_getElem?_getD, List.getElem?_eq_getElem hlp, if_neg (by simp),
    missF_none.2 fun k hk => by rw [Nat.zero_add]; exact l.came k hk]
  simp only
  rw [missF_none.2 fun k hk => by rw [Nat.zero_add]; exact l.fair k hk]
/-- Unrolled once more. -/
theorem Lasso.again {C : Circ} {j : Int} {T : Tr} (l : Lasso C j T) (hn : T.ins.length ≤ 200) {lp : Int} (hlp : lp = T.loop ∨ lp = T.ins.length) : Lasso C j ⟨T.init, T.ins ++ T.ins.drop T.loop.toNat, lp⟩ := by
  have h0 := l.lp
  have h1 := l.fit.2.2.2.2.1
  have hlo : T.loop.toNat < T.ins.length := by omega
  have hll : T.loop.toNat < (movs C T.init T.ins).length := by rw [movs_len]; exact hlo
  have hst := l.round _ (List.getElem?_eq_getElem hll)
  have hdr : movs C (endS C T.init T.ins) (T.ins.drop T.loop.toNat) = (movs C T.init T.ins).drop T.loop.toNat := by
    have h2 : movs C T.init T.ins = movs C T.init (T.ins.take T.loop.toNat) ++ movs C (endS C T.init (T.ins.take T.loop.toNat)) (T.ins.drop T.loop.toNat) := by
      rw [← movs_app, List.take_append_drop]
    rw [hst, ← endS_take (List.getElem?_eq_getElem hll)]
    conv => rhs; rw [h2]
    exact (List.drop_left' (by rw [movs_len]; simp; omega)).symm
  have hL : movs C T.init (T.ins ++ T.ins.drop T.loop.toNat) = movs C T.init T.ins ++ (movs C T.init T.ins).drop T.loop.toNat := by rw [movs_app, hdr]
  have hE : endS C T.init (T.ins ++ T.ins.drop T.loop.toNat) = endS C T.init T.ins := by
    rw [endS_app]
    have h2 : endS C T.init T.ins = endS C (endS C T.init (T.ins.take T.loop.toNat)) (T.ins.drop T.loop.toNat) := by
      rw [← endS_app, List.take_append_drop]
    rw [endS_take (List.getElem?_eq_getElem hll), ← hst] at h2
    exact h2.symm
  have hlen := movs_len (C := C) (rs := T.ins) (st := T.init)
  have sup : ∀ s, cameIn (movs C T.init T.ins) T.loop.toNat s → cameIn (movs C T.init T.ins ++ (movs C T.init T.ins).drop T.loop.toNat) lp.toNat s := by
    rintro s ⟨m, hm, hs⟩
    refine ⟨m, ?_, hs⟩
    rcases hlp with rfl | rfl
    · rw [List.drop_append_of_le_length (by omega)]
      exact List.mem_append_left _ hm
    · rw [Int.toNat_natCast, ← hlen, List.drop_left]
      exact hm
  refine ⟨l.chk, l.j0, l.j1, ⟨l.fit.1, ?_, ?_, ?_, ?_, fun r hr => ?_⟩, l.ini, ?_, ?_, ?_, ?_, ?_⟩
  · simp only [List.length_append]; have := l.fit.2.1; omega
  · simp only [List.length_append, List.length_drop]; omega
  · simp only; omega
  · simp only [List.length_append, List.length_drop]; omega
  · rcases List.mem_append.1 hr with hr | hr
    · exact l.fit.2.2.2.2.2 r hr
    · exact l.fit.2.2.2.2.2 r (List.mem_of_mem_drop hr)
  · simp only
    rw [hL]
    intro m hm
    rcases List.mem_append.1 hm with hm | hm
    · exact l.ok m hm
    · exact l.ok m (List.mem_of_mem_drop hm)
  · simp only; omega
  · simp only
    rw [hL, hE]
    intro M hM
    refine l.round M ?_
    rcases hlp with rfl | rfl
    · rwa [List.getElem?_append_left hll] at hM
    · rw [Int.toNat_natCast, List.getElem?_append_right (by omega), hlen, Nat.sub_self, List.getElem?_drop] at hM
      exact hM
  · simp only
    rw [hL]
    exact fun k hk => sup _ (l.came k hk)
  · simp only
    rw [hL]
    exact fun k hk => sup _ (l.fair k hk)
theorem propQ_at {C : Circ} {j : Int} {T : Tr} : 0 ≤ (propQ C 106 j T).1 := by
  unfold propQ
  split
  · exact Int.le_refl _
  rw [if_neg (by simp)]
  split
  rotate_left
  · exact Int.le_refl _
  by_cases hq : (runQ C T).2.2 = 0
  · obtain ⟨h1, h2, _⟩ := runQ_ok hq
    have h3 := h2.2.1
    rw [justQ_at hq]
    split
    · simp only; omega
    rename_i hl
    split
    · simp only; omega
    split
    · simp
    split
    · simp only; omega
    · simp only; omega
  · unfold justQ
    rw [if_pos hq]
    simp only
    unfold runQ
    split
    · exact Int.le_refl _
    split
    · simp
    split
    · simp
    · simp
end Go.Proofs.Ytpmpacdjcfijbaa
/- .. the walk; a trace as an argument, with its rows' room. No condition. -/
set_option linter.unusedVariables false
set_option linter.unusedSimpArgs false
namespace Go.Proofs.Ytpmpacdjcfijbaa
open Go.Hx Go.Deep
theorem rwbOne {l : List RwB} : ∀ y ∈ l.map RwB.v, y.oneCell' = true := by intro y hy; obtain ⟨x, _, rfl⟩ := List.mem_map.1 hy; rfl
section
variable {H : Type} {enc : TypeId × Value → H} {W : World} {base : Nat} {held : Bool}
theorem open_tracec : Opens enc Try.prog W base held 35 (fun p : TV × Tr => p.1.cs) (fun p => TIs W.heap p.1 p.2 ∧ p.2.Ok ∧ p.1.s.n ≤ p.1.s.c) := by
  intro fuel cs x h hw
  obtain ⟨hl, hf⟩ := struct_cells (P := Try.prog) (t := 35) Try.underlying35 (by kernel_rfl) h hw
  rw [show Try.prog.cellsOf 35 = 3 by kernel_rfl] at hl
  obtain ⟨i, _, h0, e0, k0, c0, n0⟩ := hf 0 _ rfl (by omega) (Opens.bools (t := 32) (e := 4) Try.underlying32 Try.underlying4 (by kernel_rfl) (by kernel_rfl))
  obtain ⟨s, _, h1, e1, k1, c1, n1, w1⟩ := hf 1 _ rfl (by omega) (Opens.brows (t := 33) (e := 32) (q := 4) Try.underlying33 Try.underlying32 Try.underlying4 (by kernel_rfl) (by kernel_rfl) (by kernel_rfl) (by kernel_rfl))
  obtain ⟨lp, _, h2, e2, k2⟩ := hf 2 _ rfl (by omega) (Opens.int Try.underlying3)
  simp only [List.cons.injEq, and_true] at e0 e1 e2
  subst e0 e1 e2
  let v : TV := ⟨⟨i.a, i.n, i.c⟩, ⟨s.a, s.n, s.c⟩, lp⟩
  let T : Tr := ⟨i.l, s.l, lp⟩
  refine ⟨(v, T), list3 hl h0 h1 h2, ⟨k0, k1, rfl⟩, ⟨wf_i64 k2, ?_, ?_, w1⟩, c1⟩
  · have := k0.ilen; simp only [T]; omega
  · have := k1.len; simp only [T]; omega
end
section
variable {h : Heap} {v : CV} {C : Circ} {w : TV} {T : Tr}
set_option maxRecDepth 4000 in
theorem c4 (r : CIs h v C) (ok : C.Ok) (q : TIs h w T) (hcap : w.s.n ≤ w.s.c) (j : Int) : CallsH Try.prog 4 #[v.v, .int .i64 j, w.v] h (Xt (.bool true) h) := by
  have qs := q.s.len
  have qlp := q.lp
  refine run4 v.mx v.i.a v.i.n v.i.c v.l.a v.l.n v.l.c v.o.a v.o.n v.o.c v.b.a v.b.n v.b.c v.c.a v.c.n v.c.c v.j.a v.j.n v.j.c v.f.a v.f.n v.f.c v.g.a v.g.n v.g.c v.s.a v.s.n v.s.c v.m.a v.m.n v.m.c j w.i.a w.i.n w.i.c w.s.a w.s.n w.s.c w.lp _ h ?_
  unfold VC4
  intro h1 h2
  have e1 : Ext h h1 := Ext.box h _
  have e2 : Ext h h2 := e1.trans (Ext.push h1 _)
  have hs1 : h1.size = h.size + 1 := by simp [h1]
  have hs2 : h2.size = h.size + 2 := by simp [h2, hs1]
  have hb : Rd h2 (some ⟨h.size, 0, none⟩) 11 v.cs := (boxC v 29).ext (Ext.push h1 _)
  have hw : Rd h2 (some ⟨h1.size, 0, none⟩) 3 w.cs := boxT w 35
  refine useX (c23 h2) fun h3 e3 => ⟨true, rfl, BIf.f ?_⟩
  have e03 := e2.trans e3
  refine ldC (hb.ext e3) (ldT (hw.ext e3) (useX (c19 (r.ext e03) ok (q.ext e03) j) fun h4 e4 => ⟨_, _, rfl, ?_⟩))
  have e24 := e3.trans e4
  have e04 := e2.trans e24
  have yes : ∀ h', Ext h h' → Xt (.bool true) h (.bool true) h' := fun h' e => ⟨rfl, e⟩
  have hat := propQ_at (C := C) (j := j) (T := T)
  refine ⟨fun hz => ⟨_, _, _, (hw.ext e24).fld 1 rfl, fun _ => ⟨fun _ => yes _ e04, fun hn => absurd hz hn⟩, fun hle => ?_⟩, fun hz => ⟨fun h0 => absurd h0 hz, fun _ => ⟨fun _ => yes _ e04, fun hn => absurd hat hn⟩⟩⟩
  obtain ⟨la, hP⟩ := lasso_of hz
  rw [hP]
  have hlp0 := la.lp
  have hlp1 := la.fit.2.2.2.2.1
  refine ⟨_, (hw.ext e24).fld 2 rfl, fun _ => ⟨fun hn => absurd hn (by simp only; omega), fun _ => ?_⟩, fun hn => absurd qlp.symm hn⟩
  have hz1 := e24.1
  obtain ⟨rows, hr1, hr2, hr3⟩ := q.s.ex
  have rl := hr1.len
  rw [List.length_map] at rl
  have hlo : T.loop.toNat < rows.length := by omega
  have zS : ∀ {a b : Heap} {S : Nat → Prop}, Upd S a b → (∀ x, S x → h2.size ≤ x) → h2.size ≤ a.size → Zone.r (Zone.of fun b => b < h2.size) a b := fun u hS hle b hb => u.2 b (by omega) fun hs => by have := hS b hs; omega
  refine ⟨_, _, _, (hw.ext e24).fld 1 rfl, Zone.of fun b => b < h2.size, ?_⟩
  intro h7
  have e7 : Ext h4 h7 := Ext.push h4 _
  have hasw : ∀ {h' : Heap}, Zone.hasL (Zone.of fun b => b < h2.size) h' (Addr.add ⟨h1.size, 0, none⟩ 1) := fun {h'} => Zone.has.cell fun h'' hz => hz _ (by rw [add_block]; simp only; omega)
  have r4 : Rd h4 w.s.a w.s.n (rows.map RwB.v) := hr1.ext e04
  refine ⟨zS e7 (fun _ h => h.elim) hz1, hasw, _, _, _, (hw.ext (e24.trans e7)).fld 1 rfl, rows.map RwB.v, (r4.ext e7).read, by rw [List.length_map]; omega, app0n (h := h4) (by rw [List.length_map]; omega) rwbOne (by omega) fun a1 c1 h8 f8 => ?_⟩
  have e28 := e24.trans f8.ext
  have z8 : h4.size ≤ h8.size := f8.ext.1
  have f8' := f8
  refine ⟨fun b hb => by rw [f8.ext.2 b (by omega) fun x => x, e7.2 b (by omega) fun x => x], hasw, _, _, _, (hw.ext e28).fld 1 rfl, by simp only; omega, by simp only; omega, by omega, ?_⟩
  have hn3 : Int.toNat ((w.s.n : Nat) : Int) - Int.toNat T.loop = w.s.n - T.loop.toNat := by rw [Int.toNat_natCast]
  have rcut : Rd h8 (cutA 1 w.s.a w.s.c T.loop.toNat) (w.s.n - T.loop.toNat) ((rows.drop T.loop.toNat).map RwB.v) := by
    have r8 := r4.ext f8.ext
    obtain ⟨ad, had⟩ := r8.some (by omega)
    rw [had] at r8
    have hc := r8.cut T.loop.toNat (w.s.n - T.loop.toNat) (by omega)
    rw [List.map_drop]
    unfold cutA
    rw [if_neg (by omega), had, Option.map_some, Nat.mul_one]
    rwa [List.take_of_length_le (by simp; omega)] at hc
  refine ⟨(rows.drop T.loop.toNat).map RwB.v, rcut.read, by rw [hn3]; simp; omega, f8.app (by rw [hn3]; simp; omega) rwbOne (by rw [hn3]; omega) fun a2 c2 h9 f9 u9 hor => ?_⟩
  have e49 : Ext h4 h9 := f9.ext
  have e29 := e24.trans e49
  refine ⟨zS u9 (fun x ⟨ad, ha, e⟩ => by have := f8.new ad ha; omega) (by omega), ?_⟩
  have e09 := e2.trans e29
  have hrows : RdBs h9 a2 (w.s.n + (Int.toNat ((w.s.n : Nat) : Int) - Int.toNat T.loop)) (T.ins ++ T.ins.drop T.loop.toNat) := by
    refine ⟨⟨rows ++ rows.drop T.loop.toNat, by have := Rd.one f9.own.rd; rwa [← List.map_append] at this, fun s hs => ?_, by rw [List.map_append, List.map_drop, hr3]⟩⟩
    have hs' : s ∈ rows := by
      rcases List.mem_append.1 hs with h | h
      · exact h
      · exact List.mem_of_mem_drop h
    exact ⟨(hr2 s hs').1.ext e09, (hr2 s hs').2⟩
  have tis : ∀ (lp : Int) {h' : Heap}, Ext h9 h' → TIs h' ⟨w.i, ⟨a2, w.s.n + (Int.toNat ((w.s.n : Nat) : Int) - Int.toNat T.loop), c2⟩, lp⟩ ⟨T.init, T.ins ++ T.ins.drop T.loop.toNat, lp⟩ := fun lp {h'} e => ⟨q.i.ext (e09.trans e), hrows.ext e, rfl⟩
  have la1 := la.again (by omega) (lp := T.loop) (.inl rfl)
  have la2 := la.again (by omega) (lp := (w.s.n : Nat)) (.inr (by omega))
  refine ldC (hb.ext e29) ⟨_, _, _, (hw.ext e29).fld 0 rfl, useX (c19 (r.ext e09) ok (tis T.loop (.refl h9)) j) fun h10 e10 => ?_⟩
  rw [of_lasso la1]
  refine ⟨_, _, rfl, ldC (hb.ext (e29.trans e10)) ⟨_, _, _, (hw.ext (e29.trans e10)).fld 0 rfl, useX (c19 (r.ext (e09.trans e10)) ok (tis (w.s.n : Nat) e10) j) fun h11 e11 => ?_⟩⟩
  rw [of_lasso la2]
  exact ⟨_, _, rfl, fun _ => ⟨fun _ => ⟨fun _ => ⟨fun _ => yes _ ((e09.trans e10).trans e11), fun hn => absurd rfl hn⟩, fun hn => absurd rfl hn⟩, fun hn => absurd rfl hn⟩, fun hn => absurd rfl hn⟩
end
end Go.Proofs.Ytpmpacdjcfijbaa
