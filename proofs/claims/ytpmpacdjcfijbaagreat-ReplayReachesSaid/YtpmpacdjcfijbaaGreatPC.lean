/- Words and facts that the claim's proof leans on. No condition. -/
import Derived.Test.YtpmpacdjcfijbaaGreatPA
import Derived.Test.YtpmpacdjcfijbaaGreatSM
import Derived.Test.YtpmpacdjcfijbaaGreatDE
import Derived.Test.YtpmpacdjcfijbaaGreatEA
/- The document's run; a bad state is reached. No condition. -/
set_option linter.unusedVariables false
set_option linter.unusedSimpArgs false
namespace Go.Hx
theorem defG_g {α : Type} {mx k : Int} {f g : α → Int} {K : List Mk → DR} : ∀ {L : List α} {i : Int} {B : List Mk}, (defG mx k f g L i B K).2.1 = 0 → (∃ B', (K B').2.1 = 0) ∧ ∀ x ∈ L, g x = 0
  | [], i, B, h => ⟨⟨B, h⟩, fun x hx => by cases hx⟩
  | x :: r, i, B, h => by
    rw [defG] at h
    split at h
    · split at h
      · rename_i hg
        obtain ⟨h2, h3⟩ := defG_g h
        refine ⟨h2, fun y hy => ?_⟩
        rcases List.mem_cons.1 hy with rfl | hy
        · exact hg
        · exact h3 y hy
      · rename_i h2; exact absurd h h2
    · rename_i h1; exact absurd h h1
theorem lats_rst {C : Circ} (h : (defs C).2.1 = 0) : ∀ x ∈ C.lats, x.c = 0 ∨ x.c = 1 ∨ x.c = x.a := by
  intro x hx
  unfold defs at h
  obtain ⟨⟨B1, h1⟩, _⟩ := defG_g h
  obtain ⟨_, h2⟩ := defG_g h1
  have := h2 x hx
  unfold rst at this
  split at this
  · assumption
  · simp at this
end Go.Hx
namespace Go.Proofs.YtpmpacdjcfijbaaGreat
open Go.Hx Go.Deep
section
variable {h : Heap} {v : CV} {C : Circ} {w : TV} {T : Tr} {a : Option Addr} {n c : Nat}
theorem c38 (r : CIs h v C) (ok : C.Ok) : CallsH Tryz.prog 38 #[v.v] h (OrdP C h) := by
  refine run38 v.mx v.i.a v.i.n v.i.c v.l.a v.l.n v.l.c v.o.a v.o.n v.o.c v.b.a v.b.n v.b.c v.c.a v.c.n v.c.c v.j.a v.j.n v.j.c v.f.a v.f.n v.f.c v.g.a v.g.n v.g.c v.s.a v.s.n v.s.c v.m.a v.m.n v.m.c _ h ?_
  unfold VC38
  intro h1
  have e1 : Ext h h1 := Ext.box h _
  have hb : Rd h1 (some ⟨h.size, 0, none⟩) 11 v.cs := boxC v 29
  refine ldC hb (useX (c17 (r.ext e1) ok) fun h2 e2 => ⟨_, _, rfl, fun hz => ?_, fun hz => ⟨e1.trans e2, .inr ⟨hz, rfl⟩⟩⟩)
  refine ldC (hb.ext e2) ((c34 (r.ext (e1.trans e2)) ok (gd_of (chk_bounds hz).1.1 (chk_ok hz).2.1) (gok hz)).mono ?_)
  rintro _ h3 ⟨out, a, c, t, rfl, f⟩
  exact ⟨_, _, _, rfl, (e1.trans e2).trans f.ext, .inl ⟨hz, out, a, c, rfl, ⟨hz, t⟩, Rd.one f.own.rd⟩⟩
theorem c20 {l : List Int} (r : Rd h a n (ints l)) (hn : n < 9223372036854775807) (x : Int) : CallsH Tryz.prog 20 #[.slice a n c, .int .i64 x] h (Ret (.bool (decide (x ∈ l))) h) := by
  have hl := r.ilen
  refine run20 a n c x _ h (LoopT.to (n := n) hn (fun i h' => h' = h ∧ x ∉ l.take i) ⟨rfl, by simp⟩ ?_)
  rintro i _ K hi ⟨rfl, hI⟩ hK
  refine ⟨fun hlt => ⟨by omega, hlt, r.getn (i := i) (by omega) fun ad hl1 hc => ⟨_, hc, fun e => ⟨by rw [decide_eq_true (e ▸ List.getElem_mem hl1)], rfl⟩, fun e => hK _ (by omega) ⟨rfl, ?_⟩⟩⟩, fun hlt => ⟨?_, rfl⟩⟩
  · rw [List.take_succ_eq_append_getElem hl1, List.mem_append, List.mem_singleton]
    exact fun h => h.elim hI fun h => e h.symm
  · rw [List.take_of_length_le (by omega)] at hI
    rw [decide_eq_false hI]
set_option maxRecDepth 4000 in
theorem c39 {out : List Nat} (r : CIs h v C) (g : GoodC C out) {oa : Option Addr} {oc : Nat} (ro : Rd h oa out.length (ints (nI out))) (q : TIs h w T) (hf : Fit C T) :
    CallsH Tryz.prog 39 #[v.v, .slice oa out.length oc, w.v] h fun u h' => Ext h h' ∧ ∃ a n c sa sn sc, u = .tuple #[.slice a n c, .slice sa sn sc] ∧ MosIs h' a n c (movs C T.init T.ins) ∧ Rd h' sa sn (bools (endS C T.init T.ins)) := by
  have ql := q.i.ilen
  have qs := q.s.len
  have q2 := r.len.l
  have bnd := chk_bounds g.chk
  have hf1 := hf.1
  have hf3 := hf.2.2.1
  refine run39 v.mx v.i.a v.i.n v.i.c v.l.a v.l.n v.l.c v.o.a v.o.n v.o.c v.b.a v.b.n v.b.c v.c.a v.c.n v.c.c v.j.a v.j.n v.j.c v.f.a v.f.n v.f.c v.g.a v.g.n v.g.c v.s.a v.s.n v.s.c v.m.a v.m.n v.m.c oa out.length oc w.i.a w.i.n w.i.c w.s.a w.s.n w.s.c w.lp _ h ?_
  unfold VC39
  intro h1 h2 h3
  have e1 : Ext h h1 := Ext.box h _
  have e2 : Ext h h2 := e1.trans (Ext.push h1 _)
  have hb : Rd h2 (some ⟨h.size, 0, none⟩) 11 v.cs := (boxC v 29).ext (Ext.push h1 _)
  have hw : Rd h2 (some ⟨h1.size, 0, none⟩) 3 w.cs := boxT w 33
  have e3 : Ext h2 h3 := Ext.push h2 _
  have qi := q.i.ext (e2.trans e3)
  refine ⟨_, _, _, (hw.ext e3).fld 0 rfl, bools T.init, qi.read, by rw [qi.len]; omega, app0n (h := h2) (by rw [qi.len]; omega) bools_one (by omega) fun a1 c1 h4 f4 => ?_⟩
  have e4 : Ext h h4 := e2.trans f4.ext
  have hb4 := hb.ext f4.ext
  have hw4 := hw.ext f4.ext
  have r4 := r.ext e4
  have q4 := q.ext e4
  have ro4 := ro.ext e4
  refine LoopT.to3 (n := w.s.n) (by omega) (fun i z s h' => ∃ (ms : List MV) (L : List Mo) (st : List Bool), L ++ movs C st (T.ins.drop i) = movs C T.init T.ins ∧ endS C st (T.ins.drop i) = endS C T.init T.ins ∧ ms.length = i ∧ L.length = i ∧ s.2.1 = i ∧ st.length = C.lats.length ∧ z.2.1 = v.l.n ∧ Fr h4 4 h' s.1 i s.2.2 (ms.flatMap MV.cs) ∧ Rd h' z.1 z.2.1 (bools st) ∧
    ∀ (k : Nat) m M, ms[k]? = some m → L[k]? = some M → ∃ p q, Far h' p q (fun h'' => MoIs h'' m M) ∧ q ≤ h'.size ∧ ∀ ad, s.1 = some ad → ¬ (p ≤ ad.block ∧ ad.block < q)) ⟨[], [], T.init, rfl, rfl, rfl, rfl, rfl, hf1, by simp only; omega, .nil (.refl h4), Rd.one f4.own.rd, fun k m M hm => by simp at hm⟩ ?_
  rintro i ⟨za, zn, zc⟩ ⟨oa', on, oc'⟩ h10 K hi ⟨ms, L, st, hL, hE, hms, hLl, hon, hst, hzn, f, rz, hfar⟩ hK
  dsimp only at hon hzn f rz hfar ⊢
  subst hon
  have e10 := f.ext
  have hs10 := e10.1
  refine ⟨_, _, _, (hw4.ext e10).fld 1 rfl, fun hlt => ?_, fun hlt => ?_⟩
  · refine ldC (hb4.ext e10) ⟨_, _, _, (hw4.ext e10).fld 1 rfl, by omega, hlt, (q4.s.ext e10).get (i := on) (by omega) fun ad hl1 x hc hr hxc hx1 hxn => ⟨_, _, _, hc, ?_⟩⟩
    have hxl : T.ins[on].length = C.ins.length := hf.2.2.2.2.2 _ (List.getElem_mem hl1)
    have q1 := r.len.i
    refine (c64 (r4.ext e10) g (ro4.ext e10) rz hr (by omega) (by omega)).mono ?_
    rintro _ h11 ⟨va, vc, rfl, f11⟩
    rw [hx1] at f11
    refine ⟨_, _, _, rfl, ldC (hb4.ext (e10.trans f11.ext)) ((c65 (r4.ext (e10.trans f11.ext)) g.chk (rz.ext f11.ext) (by omega) (Rd.one f11.own.rd) rfl).mono ?_)⟩
    rintro _ h12 ⟨m, rfl, e12, mn⟩
    refine ⟨_, _, _, _, _, _, _, _, _, _, rfl, ?_⟩
    intro h13
    have e13 : Ext h12 h13 := Ext.push h12 _
    have r13 := (Fr.lit (.refl h12) m.cs 54 4 rfl).rd
    have e10_13 := (f11.ext.trans e12).trans e13
    have z1 := f11.ext.1
    have z2 := e12.1
    have z3 := e13.1
    have olt : ∀ ad, oa' = some ad → ad.block < h10.size := fun ad ha => by have := f.own; rw [ha] at this; exact this.lt
    refine ⟨m.cs, r13.read, rfl, (f.upd e10_13).app rfl (MV.one m) (by omega) fun a' c' h14 f14 u14 hor => ?_⟩
    have rv14 : Rd h14 va (C.mx + 1).toNat (bools (valsOf C st T.ins[on])) := ((Rd.one f11.own.rd).ext (e12.trans e13)).upd u14 fun ad ha ⟨ad', ha', e⟩ => by
      have := f11.new ad ha
      have := olt ad' ha'
      omega
    have e14 : Ext h4 h14 := f14.ext
    refine ldC (hb4.ext e14) ((c66 (r4.ext e14) g.chk rv14 rfl).mono ?_)
    rintro _ h15 ⟨na, nc, rfl, f15⟩
    refine ⟨_, _, _, rfl, hK _ _ _ (by omega) ⟨ms ++ [m], L ++ [moOf C st (valsOf C st T.ins[on])], nextL C (valsOf C st T.ins[on]), ?_, ?_, by simp [hms], by simp [hLl], rfl, by simp [nextL], rfl, ?_, Rd.one f15.own.rd, ?_⟩⟩
    · rw [← hL, List.drop_eq_getElem_cons hl1, movs, List.append_assoc]; rfl
    · rw [← hE, List.drop_eq_getElem_cons hl1, endS]
    · have : (ms ++ [m]).flatMap MV.cs = ms.flatMap MV.cs ++ m.cs := by simp [List.flatMap_append]
      rw [this]
      exact f14.upd f15.ext
    · intro k m' M' hm hM
      have z4 := u14.1
      rcases Nat.lt_or_ge k on with hk | hk
      · rw [List.getElem?_append_left (by omega)] at hm hM
        obtain ⟨p, q, hf, hq, hno⟩ := hfar k m' M' hm hM
        refine ⟨p, q, ((hf.ext e10_13 hq).upd u14 (fun b h1 h2 ⟨ad, ha, e⟩ => hno ad ha (by omega)) (by omega)).ext f15.ext (by omega), by have := f15.ext.1; omega, fun ad ha hh => ?_⟩
        replace ha : a' = some ad := ha
        rcases hor with rfl | ⟨ad', ha', hge⟩
        · exact hno ad ha hh
        · rw [ha] at ha'
          obtain rfl := Option.some.inj ha'
          omega
      · have hk2 : k = on := by
          have := (List.getElem?_eq_some_iff.1 hm).1
          simp at this; omega
        subst hk2
        rw [List.getElem?_append_right (by omega)] at hm hM
        simp [hms] at hm
        simp [hLl] at hM
        subst hm hM
        refine ⟨h11.size, h12.size, ((Far.ext mn e13 (Nat.le_refl _)).upd u14 (fun b h1 h2 ⟨ad, ha, e⟩ => by have := olt ad ha; omega) (by omega)).ext f15.ext (by omega), by have := f15.ext.1; omega, fun ad ha hh => ?_⟩
        replace ha : a' = some ad := ha
        rcases hor with rfl | ⟨ad', ha', hge⟩
        · have := olt ad ha; omega
        · rw [ha] at ha'
          obtain rfl := Option.some.inj ha'
          omega
  · have hin : on = w.s.n := by omega
    subst hin
    have hd : T.ins.drop w.s.n = [] := List.drop_of_length_le (by omega)
    rw [hd, movs, List.append_nil] at hL
    rw [hd, endS] at hE
    refine ⟨e4.trans e10, oa', w.s.n, oc', za, zn, zc, rfl, ?_, by rw [← hE]; exact rz⟩
    rw [← hL]
    exact ⟨hLl, f.own.cap, ms, f.own.rd, hms, fun k m M hm hM => (hfar k m M hm hM).choose_spec.choose_spec.1.now⟩
/-- What 'Begun' tells. -/
def BegP (C : Circ) (T : Tr) (h : Heap) (u : Value) (h' : Heap) : Prop := Ext h h' ∧ (((runQ C T).2.2 = 0 ∧ ∃ a n c sa sn sc, u = .tuple #[.slice a n c, .slice sa sn sc, .int .i64 0, .int .i64 0] ∧ MosIs h' a n c (runQ C T).1 ∧ Rd h' sa sn (bools (endS C T.init T.ins))) ∨
  ((runQ C T).2.2 ≠ 0 ∧ u = .tuple #[.slice none 0 0, .slice none 0 0, .int .i64 (runQ C T).2.1, .int .i64 (runQ C T).2.2]))
theorem c19 (r : CIs h v C) (ok : C.Ok) (hc : (chk C).2 = 0) (q : TIs h w T) (hf : Fit C T) : CallsH Tryz.prog 19 #[v.v, w.v] h (BegP C T h) := by
  have ql := q.i.ilen
  have q2 := r.len.l
  have bnd := chk_bounds hc
  have hil := hf.1
  refine run19 v.mx v.i.a v.i.n v.i.c v.l.a v.l.n v.l.c v.o.a v.o.n v.o.c v.b.a v.b.n v.b.c v.c.a v.c.n v.c.c v.j.a v.j.n v.j.c v.f.a v.f.n v.f.c v.g.a v.g.n v.g.c v.s.a v.s.n v.s.c v.m.a v.m.n v.m.c w.i.a w.i.n w.i.c w.s.a w.s.n w.s.c w.lp _ h ?_
  unfold VC19
  intro h1 h2
  have e1 : Ext h h1 := Ext.box h _
  have e2 : Ext h h2 := e1.trans (Ext.push h1 _)
  have hb : Rd h2 (some ⟨h.size, 0, none⟩) 11 v.cs := (boxC v 29).ext (Ext.push h1 _)
  have hw : Rd h2 (some ⟨h1.size, 0, none⟩) 3 w.cs := boxT w 33
  refine ldC hb ((c38 (r.ext e2) ok).mono ?_)
  rintro _ h3 ⟨e3, ⟨_, out, oa, oc, rfl, g, ro⟩ | ⟨hz, rfl⟩⟩
  rotate_left
  · exact absurd hc hz
  have e03 := e2.trans e3
  have hb3 := hb.ext e3
  have hw3 := hw.ext e3
  have hR : runR C T = (movs C T.init T.ins, 0) := by unfold runR; rw [if_neg (by simp [hc]), if_pos hf]
  refine ⟨_, _, _, _, rfl, ?_⟩
  refine LoopT.to (n := v.l.n) (by omega) (fun i h' => h' = h3 ∧ iniF C.lats T.init 0 = iniF (C.lats.drop i) (T.init.drop i) i) ⟨rfl, rfl⟩ ?_
  rintro i h4 K hi ⟨hh, hI⟩ hK
  replace hh := hh.symm
  subst hh
  refine ⟨_, _, _, hb3.fld 2 rfl, fun hlt => ?_, fun hlt => ?_⟩
  · refine ⟨_, _, _, hb3.fld 2 rfl, by omega, hlt, (r.l.ext e03).elem L3.csl (by omega) (i := i) (by omega) fun ad hl1 re => ⟨_, re.fld 2 rfl, ?_⟩⟩
    have his : i < T.init.length := by omega
    have hrs := lats_rst (chk_ok hc).2.1 _ (List.getElem_mem hl1)
    have hra := (dn hc).l i _ (List.getElem?_eq_getElem hl1)
    rw [iniF_drop hl1 his] at hI
    have nx : ¬ (C.lats[i].c < 2 ∧ T.init[i] ≠ decide (C.lats[i].c = 1)) → K (IntKind.wrap .i64 (i + 1)) h3 := fun hn => hK _ (by omega) ⟨rfl, by rw [if_neg hn] at hI; exact hI⟩
    have no : (C.lats[i].c < 2 ∧ T.init[i] ≠ decide (C.lats[i].c = 1)) → BegP C T h (.tuple #[.slice none 0 0, .slice none 0 0, .int .i64 (i : Int), .int .i64 134]) h3 := fun hp => by
      have hQ : runQ C T = ([], (i : Int), 134) := by unfold runQ; rw [hR, if_neg (by simp), hI, if_pos hp]
      exact ⟨e03, .inr (by rw [hQ]; exact ⟨by simp, rfl⟩)⟩
    have rdI : ∀ {K' : Addr → Prop}, (∀ ad, cellH h3 (ad.add (i * 1)) = some (.bool T.init[i]) → K' ad) → AtP w.i.a K' := fun hK' => (q.i.ext e03).getn (i := i) (by omega) fun ad _ hc => hK' ad hc
    refine ⟨fun h0 => ⟨_, _, _, hw3.fld 0 rfl, by omega, by omega, rdI fun ad2 hc2 => ⟨_, hc2, ?_⟩⟩, fun h0 => ⟨fun h1 => ⟨_, _, _, hw3.fld 0 rfl, by omega, by omega, rdI fun ad2 hc2 => ⟨_, hc2, ?_⟩⟩, fun h1 => nx fun hh => ?_⟩⟩
    · cases hb1 : T.init[i] with
      | true => exact BIf.t (no ⟨by omega, by rw [hb1, decide_eq_false (by omega)]; simp⟩)
      | false => exact BIf.f ⟨fun h1 => absurd h1 (by omega), fun h1 => nx fun hh => hh.2 (by rw [hb1, decide_eq_false h1])⟩
    · cases hb1 : T.init[i] with
      | true => exact BIf.f (nx fun hh => hh.2 (by rw [hb1, decide_eq_true h1]))
      | false => exact BIf.t (no ⟨by omega, by rw [hb1, decide_eq_true h1]; simp⟩)
    · omega
  · rw [iniF_end (by omega)] at hI
    refine ldC hb3 (ldT hw3 ((c39 (r.ext e03) g ro (q.ext e03) hf).mono ?_))
    rintro _ h6 ⟨e6, ma, mn, mc, sa, sn, sc, rfl, mi, rs⟩
    have ml := mi.len
    have mnl : mn ≤ 512 := by have := hf.2.2.1; rw [movs_len] at ml; omega
    refine ⟨_, _, _, _, _, _, rfl, ?_⟩
    refine LoopT.to (n := mn) (by omega) (fun j h' => h' = h6 ∧ brkF (movs C T.init T.ins) 0 = brkF ((movs C T.init T.ins).drop j) j) ⟨rfl, rfl⟩ ?_
    clear K hK
    rintro j h7 K hj ⟨hh, hB⟩ hK
    replace hh := hh.symm
    subst hh
    refine ⟨fun hlt => ?_, fun hlt => ?_⟩
    · refine ⟨by omega, by omega, mi.elem (i := j) (by omega) fun ad m hl1 re mo => ⟨_, re.fld 1 rfl, ?_⟩⟩
      rw [brkF_drop hl1] at hB
      rw [mo.ok]
      cases hok : (movs C T.init T.ins)[j].ok with
      | false =>
        refine BIf.t ?_
        have hQ : runQ C T = ([], (j : Int), 130) := by
          unfold runQ
          rw [hR, if_neg (by simp), hI]
          simp only
          rw [hB, if_pos hok]
        exact ⟨e03.trans e6, .inr (by rw [hQ]; exact ⟨by simp, rfl⟩)⟩
      | true => exact BIf.f (hK _ (by omega) ⟨rfl, by rw [if_neg (by simp [hok])] at hB; exact hB⟩)
    · have hd : (movs C T.init T.ins).drop j = [] := List.drop_of_length_le (by omega)
      rw [hd, brkF] at hB
      have hQ : runQ C T = (movs C T.init T.ins, 0, 0) := by
        unfold runQ
        rw [hR, if_neg (by simp), hI]
        simp only
        rw [hB]
      exact ⟨e03.trans e6, .inl (by rw [hQ]; exact ⟨rfl, ma, mn, mc, sa, sn, sc, rfl, mi, rs⟩)⟩
end
end Go.Proofs.YtpmpacdjcfijbaaGreat
/- The document's judgement. No condition. -/
set_option linter.unusedVariables false
set_option linter.unusedSimpArgs false
namespace Go.Hx
end Go.Hx
namespace Go.Proofs.YtpmpacdjcfijbaaGreat
open Go.Hx Go.Deep
section
variable {h : Heap} {v : CV} {C : Circ} {w : TV} {T : Tr}
theorem runQ_nofit {C : Circ} {T : Tr} (hc : (chk C).2 = 0) (hf : ¬ Fit C T) : runQ C T = ([], 0, 4) := by
  have hR : runR C T = ([], 4) := by unfold runR; rw [if_neg (by simp [hc]), if_neg hf]
  unfold runQ
  rw [hR, if_pos (by simp)]
end
end Go.Proofs.YtpmpacdjcfijbaaGreat
/- The document's justice; a trace held against a property. No condition. -/
set_option linter.unusedVariables false
set_option linter.unusedSimpArgs false
namespace Go.Proofs.YtpmpacdjcfijbaaGreat
open Go.Hx Go.Deep
section
variable {h : Heap} {v : CV} {C : Circ} {w : TV} {T : Tr}
def hasP (C : Circ) (kd i : Int) : Prop := (kd = 98 ∧ 0 ≤ i ∧ i < C.bads.length) ∨ (kd = 106 ∧ 0 ≤ i ∧ i < C.just.length)
instance (C : Circ) (kd i : Int) : Decidable (hasP C kd i) := by unfold hasP; infer_instance
end
end Go.Proofs.YtpmpacdjcfijbaaGreat
/- Traces are held against properties as the document has it. No condition. -/
set_option linter.unusedVariables false
set_option linter.unusedSimpArgs false
namespace Go.Hx
structure PV where
  k : Int
  i : Int
def PV.cs (p : PV) : List Value := [.int .u8 p.k, .int .i64 p.i]
end Go.Hx
namespace Go.Proofs.YtpmpacdjcfijbaaGreat
open Go.Hx Go.Deep
section
variable {H : Type} {enc : TypeId × Value → H} {W : World} {base : Nat} {held : Bool}
end
theorem tOk3P {T : Tr} (ok : T.Ok) : T.init.length < 9223372036854775807 ∧ T.ins.length < 9223372036854775807 ∧ ∀ r ∈ T.ins, r.length < 9223372036854775807 := by
  have h1 := ok.init
  have h2 := ok.ins
  exact ⟨by omega, by omega, fun r hr => by have := ok.rows r hr; omega⟩
section
variable {h : Heap} {v : CV} {C : Circ} {w : TV} {T : Tr}
end
end Go.Proofs.YtpmpacdjcfijbaaGreat
