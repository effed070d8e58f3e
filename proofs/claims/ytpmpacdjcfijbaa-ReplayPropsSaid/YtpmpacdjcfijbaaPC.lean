/- Words and facts that the claim's proof leans on. No condition. -/
import Derived.Test.YtpmpacdjcfijbaaPA
import Derived.Test.YtpmpacdjcfijbaaSM
import Derived.Test.YtpmpacdjcfijbaaDE
import Derived.Test.YtpmpacdjcfijbaaEA
/- The document's run; a bad state is reached. No condition. -/
set_option linter.unusedVariables false
set_option linter.unusedSimpArgs false
namespace Go.Hx
theorem defG_g {α : Type} {mx k : Int} {f g : α → Int} {K : List Mk → DR} : ∀ {L : List α} {i : Int} {B : List Mk}, (defG mx k f g L i B K).2.1 = 0 → (∃ B', (K B').2.1 = 0) ∧ ∀ x ∈ L, g x = 0
  | [], i, B, h => ⟨⟨B, h⟩, fun x hx => by cases hx⟩
  | x :: r, i, B, h => by
    rw [defG] at h
    split at h
    · split at h
      · rename_i hg
        obtain ⟨h2, h3⟩ := defG_g h
        refine ⟨h2, fun y hy => ?_⟩
        rcases List.mem_cons.1 hy with rfl | hy
        · exact hg
        · exact h3 y hy
      · rename_i h2; exact absurd h h2
    · rename_i h1; exact absurd h h1
theorem lats_rst {C : Circ} (h : (defs C).2.1 = 0) : ∀ x ∈ C.lats, x.c = 0 ∨ x.c = 1 ∨ x.c = x.a := by
  intro x hx
  unfold defs at h
  obtain ⟨⟨B1, h1⟩, _⟩ := defG_g h
  obtain ⟨_, h2⟩ := defG_g h1
  have := h2 x hx
  unfold rst at this
  split at this
  · assumption
  · simp at this
end Go.Hx
namespace Go.Proofs.Ytpmpacdjcfijbaa
open Go.Hx Go.Deep
section
variable {h : Heap} {v : CV} {C : Circ} {w : TV} {T : Tr} {a : Option Addr} {n c : Nat}
theorem c127 (r : CIs h v C) (ok : C.Ok) : CallsH Try.prog 127 #[v.v] h (OrdP C h) := by
  refine run127 v.mx v.i.a v.i.n v.i.c v.l.a v.l.n v.l.c v.o.a v.o.n v.o.c v.b.a v.b.n v.b.c v.c.a v.c.n v.c.c v.j.a v.j.n v.j.c v.f.a v.f.n v.f.c v.g.a v.g.n v.g.c v.s.a v.s.n v.s.c v.m.a v.m.n v.m.c _ h ?_
  unfold VC127
  intro h1
  have e1 : Ext h h1 := Ext.box h _
  have hb : Rd h1 (some ⟨h.size, 0, none⟩) 11 v.cs := boxC v 29
  refine ldC hb (useX (c51 (r.ext e1) ok) fun h2 e2 => ⟨_, _, rfl, fun hz => ?_, fun hz => ⟨e1.trans e2, .inr ⟨hz, rfl⟩⟩⟩)
  refine ldC (hb.ext e2) ((c91 (r.ext (e1.trans e2)) ok (gd_of (chk_bounds hz).1.1 (chk_ok hz).2.1) (gok hz)).mono ?_)
  rintro _ h3 ⟨out, a, c, t, rfl, f⟩
  exact ⟨_, _, _, rfl, (e1.trans e2).trans f.ext, .inl ⟨hz, out, a, c, rfl, ⟨hz, t⟩, Rd.one f.own.rd⟩⟩
theorem c96 {l : List Int} (r : Rd h a n (ints l)) (hn : n < 9223372036854775807) (x : Int) : CallsH Try.prog 96 #[.slice a n c, .int .i64 x] h (Ret (.bool (decide (x ∈ l))) h) := by
  have hl := r.ilen
  refine run96 a n c x _ h (LoopT.to (n := n) hn (fun i h' => h' = h ∧ x ∉ l.take i) ⟨rfl, by simp⟩ ?_)
  rintro i _ K hi ⟨rfl, hI⟩ hK
  refine ⟨fun hlt => ⟨by omega, hlt, r.getn (i := i) (by omega) fun ad hl1 hc => ⟨_, hc, fun e => ⟨by rw [decide_eq_true (e ▸ List.getElem_mem hl1)], rfl⟩, fun e => hK _ (by omega) ⟨rfl, ?_⟩⟩⟩, fun hlt => ⟨?_, rfl⟩⟩
  · rw [List.take_succ_eq_append_getElem hl1, List.mem_append, List.mem_singleton]
    exact fun h => h.elim hI fun h => e h.symm
  · rw [List.take_of_length_le (by omega)] at hI
    rw [decide_eq_false hI]
set_option maxRecDepth 4000 in
theorem c128 {out : List Nat} (r : CIs h v C) (g : GoodC C out) {oa : Option Addr} {oc : Nat} (ro : Rd h oa out.length (ints (nI out))) (q : TIs h w T) (hf : Fit C T) :
    CallsH Try.prog 128 #[v.v, .slice oa out.length oc, w.v] h fun u h' => Ext h h' ∧ ∃ a n c sa sn sc, u = .tuple #[.slice a n c, .slice sa sn sc] ∧ MosIs h' a n c (movs C T.init T.ins) ∧ Rd h' sa sn (bools (endS C T.init T.ins)) := by
  have ql := q.i.ilen
  have qs := q.s.len
  have q2 := r.len.l
  have bnd := chk_bounds g.chk
  have hf1 := hf.1
  have hf3 := hf.2.2.1
  refine run128 v.mx v.i.a v.i.n v.i.c v.l.a v.l.n v.l.c v.o.a v.o.n v.o.c v.b.a v.b.n v.b.c v.c.a v.c.n v.c.c v.j.a v.j.n v.j.c v.f.a v.f.n v.f.c v.g.a v.g.n v.g.c v.s.a v.s.n v.s.c v.m.a v.m.n v.m.c oa out.length oc w.i.a w.i.n w.i.c w.s.a w.s.n w.s.c w.lp _ h ?_
  unfold VC128
  intro h1 h2 h3
  have e1 : Ext h h1 := Ext.box h _
  have e2 : Ext h h2 := e1.trans (Ext.push h1 _)
  have hb : Rd h2 (some ⟨h.size, 0, none⟩) 11 v.cs := (boxC v 29).ext (Ext.push h1 _)
  have hw : Rd h2 (some ⟨h1.size, 0, none⟩) 3 w.cs := boxT w 35
  have e3 : Ext h2 h3 := Ext.push h2 _
  have qi := q.i.ext (e2.trans e3)
  refine ⟨_, _, _, (hw.ext e3).fld 0 rfl, bools T.init, qi.read, by rw [qi.len]; omega, app0n (h := h2) (by rw [qi.len]; omega) bools_one (by omega) fun a1 c1 h4 f4 => ?_⟩
  have e4 : Ext h h4 := e2.trans f4.ext
  have hb4 := hb.ext f4.ext
  have hw4 := hw.ext f4.ext
  have r4 := r.ext e4
  have q4 := q.ext e4
  have ro4 := ro.ext e4
  refine LoopT.to3 (n := w.s.n) (by omega) (fun i z s h' => ∃ (ms : List MV) (L : List Mo) (st : List Bool), L ++ movs C st (T.ins.drop i) = movs C T.init T.ins ∧ endS C st (T.ins.drop i) = endS C T.init T.ins ∧ ms.length = i ∧ L.length = i ∧ s.2.1 = i ∧ st.length = C.lats.length ∧ z.2.1 = v.l.n ∧ Fr h4 4 h' s.1 i s.2.2 (ms.flatMap MV.cs) ∧ Rd h' z.1 z.2.1 (bools st) ∧
    ∀ (k : Nat) m M, ms[k]? = some m → L[k]? = some M → ∃ p q, Far h' p q (fun h'' => MoIs h'' m M) ∧ q ≤ h'.size ∧ ∀ ad, s.1 = some ad → ¬ (p ≤ ad.block ∧ ad.block < q)) ⟨[], [], T.init, rfl, rfl, rfl, rfl, rfl, hf1, by simp only; omega, .nil (.refl h4), Rd.one f4.own.rd, fun k m M hm => by simp at hm⟩ ?_
  rintro i ⟨za, zn, zc⟩ ⟨oa', on, oc'⟩ h10 K hi ⟨ms, L, st, hL, hE, hms, hLl, hon, hst, hzn, f, rz, hfar⟩ hK
  dsimp only at hon hzn f rz hfar ⊢
  subst hon
  have e10 := f.ext
  have hs10 := e10.1
  refine ⟨_, _, _, (hw4.ext e10).fld 1 rfl, fun hlt => ?_, fun hlt => ?_⟩
  · refine ldC (hb4.ext e10) ⟨_, _, _, (hw4.ext e10).fld 1 rfl, by omega, hlt, (q4.s.ext e10).get (i := on) (by omega) fun ad hl1 x hc hr hxc hx1 hxn => ⟨_, _, _, hc, ?_⟩⟩
    have hxl : T.ins[on].length = C.ins.length := hf.2.2.2.2.2 _ (List.getElem_mem hl1)
    have q1 := r.len.i
    refine (c158 (r4.ext e10) g (ro4.ext e10) rz hr (by omega) (by omega)).mono ?_
    rintro _ h11 ⟨va, vc, rfl, f11⟩
    rw [hx1] at f11
    refine ⟨_, _, _, rfl, ldC (hb4.ext (e10.trans f11.ext)) ((c159 (r4.ext (e10.trans f11.ext)) g.chk (rz.ext f11.ext) (by omega) (Rd.one f11.own.rd) rfl).mono ?_)⟩
    rintro _ h12 ⟨m, rfl, e12, mn⟩
    refine ⟨_, _, _, _, _, _, _, _, _, _, rfl, ?_⟩
    intro h13
    have e13 : Ext h12 h13 := Ext.push h12 _
    have r13 := (Fr.lit (.refl h12) m.cs 55 4 rfl).rd
    have e10_13 := (f11.ext.trans e12).trans e13
    have z1 := f11.ext.1
    have z2 := e12.1
    have z3 := e13.1
    have olt : ∀ ad, oa' = some ad → ad.block < h10.size := fun ad ha => by have := f.own; rw [ha] at this; exact this.lt
    refine ⟨m.cs, r13.read, rfl, (f.upd e10_13).app rfl (MV.one m) (by omega) fun a' c' h14 f14 u14 hor => ?_⟩
    have rv14 : Rd h14 va (C.mx + 1).toNat (bools (valsOf C st T.ins[on])) := ((Rd.one f11.own.rd).ext (e12.trans e13)).upd u14 fun ad ha ⟨ad', ha', e⟩ => by
      have := f11.new ad ha
      have := olt ad' ha'
      omega
    have e14 : Ext h4 h14 := f14.ext
    refine ldC (hb4.ext e14) ((c160 (r4.ext e14) g.chk rv14 rfl).mono ?_)
    rintro _ h15 ⟨na, nc, rfl, f15⟩
    refine ⟨_, _, _, rfl, hK _ _ _ (by omega) ⟨ms ++ [m], L ++ [moOf C st (valsOf C st T.ins[on])], nextL C (valsOf C st T.ins[on]), ?_, ?_, by simp [hms], by simp [hLl], rfl, by simp [nextL], rfl, ?_, Rd.one f15.own.rd, ?_⟩⟩
    · rw [← hL, List.drop_eq_getElem_cons hl1, movs, List.append_assoc]; rfl
    · rw [← hE, List.drop_eq_getElem_cons hl1, endS]
    · have : (ms ++ [m]).flatMap MV.cs = ms.flatMap MV.cs ++ m.cs := by simp [List.flatMap_append]
      rw [this]
      exact f14.upd f15.ext
    · intro k m' M' hm hM
      have z4 := u14.1
      rcases Nat.lt_or_ge k on with hk | hk
      · rw [List.getElem?_append_left (by omega)] at hm hM
        obtain ⟨p, q, hf, hq, hno⟩ := hfar k m' M' hm hM
        refine ⟨p, q, ((hf.ext e10_13 hq).upd u14 (fun b h1 h2 ⟨ad, ha, e⟩ => hno ad ha (by omega)) (by omega)).ext f15.ext (by omega), by have := f15.ext.1; omega, fun ad ha hh => ?_⟩
        replace ha : a' = some ad := ha
        rcases hor with rfl | ⟨ad', ha', hge⟩
        · exact hno ad ha hh
        · rw [ha] at ha'
          obtain rfl := Option.some.inj ha'
          omega
      · have hk2 : k = on := by
          have := (List.getElem?_eq_some_iff.1 hm).1
          simp at this; omega
        subst hk2
        rw [List.getElem?_append_right (by omega)] at hm hM
        simp [hms] at hm
        simp [hLl] at hM
        subst hm hM
        refine ⟨h11.size, h12.size, ((Far.ext mn e13 (Nat.le_refl _)).upd u14 (fun b h1 h2 ⟨ad, ha, e⟩ => by have := olt ad ha; omega) (by omega)).ext f15.ext (by omega), by have := f15.ext.1; omega, fun ad ha hh => ?_⟩
        replace ha : a' = some ad := ha
        rcases hor with rfl | ⟨ad', ha', hge⟩
        · have := olt ad ha; omega
        · rw [ha] at ha'
          obtain rfl := Option.some.inj ha'
          omega
  · have hin : on = w.s.n := by omega
    subst hin
    have hd : T.ins.drop w.s.n = [] := List.drop_of_length_le (by omega)
    rw [hd, movs, List.append_nil] at hL
    rw [hd, endS] at hE
    refine ⟨e4.trans e10, oa', w.s.n, oc', za, zn, zc, rfl, ?_, by rw [← hE]; exact rz⟩
    rw [← hL]
    exact ⟨hLl, f.own.cap, ms, f.own.rd, hms, fun k m M hm hM => (hfar k m M hm hM).choose_spec.choose_spec.1.now⟩
/-- What 'Begun' tells. -/
def BegP (C : Circ) (T : Tr) (h : Heap) (u : Value) (h' : Heap) : Prop := Ext h h' ∧ (((runQ C T).2.2 = 0 ∧ ∃ a n c sa sn sc, u = .tuple #[.slice a n c, .slice sa sn sc, .int .i64 0, .int .i64 0] ∧ MosIs h' a n c (runQ C T).1 ∧ Rd h' sa sn (bools (endS C T.init T.ins))) ∨
  ((runQ C T).2.2 ≠ 0 ∧ u = .tuple #[.slice none 0 0, .slice none 0 0, .int .i64 (runQ C T).2.1, .int .i64 (runQ C T).2.2]))
theorem c95 (r : CIs h v C) (ok : C.Ok) (hc : (chk C).2 = 0) (q : TIs h w T) (hf : Fit C T) : CallsH Try.prog 95 #[v.v, w.v] h (BegP C T h) := by
  have ql := q.i.ilen
  have q2 := r.len.l
  have bnd := chk_bounds hc
  have hil := hf.1
  refine run95 v.mx v.i.a v.i.n v.i.c v.l.a v.l.n v.l.c v.o.a v.o.n v.o.c v.b.a v.b.n v.b.c v.c.a v.c.n v.c.c v.j.a v.j.n v.j.c v.f.a v.f.n v.f.c v.g.a v.g.n v.g.c v.s.a v.s.n v.s.c v.m.a v.m.n v.m.c w.i.a w.i.n w.i.c w.s.a w.s.n w.s.c w.lp _ h ?_
  unfold VC95
  intro h1 h2
  have e1 : Ext h h1 := Ext.box h _
  have e2 : Ext h h2 := e1.trans (Ext.push h1 _)
  have hb : Rd h2 (some ⟨h.size, 0, none⟩) 11 v.cs := (boxC v 29).ext (Ext.push h1 _)
  have hw : Rd h2 (some ⟨h1.size, 0, none⟩) 3 w.cs := boxT w 35
  refine ldC hb ((c127 (r.ext e2) ok).mono ?_)
  rintro _ h3 ⟨e3, ⟨_, out, oa, oc, rfl, g, ro⟩ | ⟨hz, rfl⟩⟩
  rotate_left
  · exact absurd hc hz
  have e03 := e2.trans e3
  have hb3 := hb.ext e3
  have hw3 := hw.ext e3
  have hR : runR C T = (movs C T.init T.ins, 0) := by unfold runR; rw [if_neg (by simp [hc]), if_pos hf]
  refine ⟨_, _, _, _, rfl, ?_⟩
  refine LoopT.to (n := v.l.n) (by omega) (fun i h' => h' = h3 ∧ iniF C.lats T.init 0 = iniF (C.lats.drop i) (T.init.drop i) i) ⟨rfl, rfl⟩ ?_
  rintro i h4 K hi ⟨hh, hI⟩ hK
  replace hh := hh.symm
  subst hh
  refine ⟨_, _, _, hb3.fld 2 rfl, fun hlt => ?_, fun hlt => ?_⟩
  · refine ⟨_, _, _, hb3.fld 2 rfl, by omega, hlt, (r.l.ext e03).elem L3.csl (by omega) (i := i) (by omega) fun ad hl1 re => ⟨_, re.fld 2 rfl, ?_⟩⟩
    have his : i < T.init.length := by omega
    have hrs := lats_rst (chk_ok hc).2.1 _ (List.getElem_mem hl1)
    have hra := (dn hc).l i _ (List.getElem?_eq_getElem hl1)
    rw [iniF_drop hl1 his] at hI
    have nx : ¬ (C.lats[i].c < 2 ∧ T.init[i] ≠ decide (C.lats[i].c = 1)) → K (IntKind.wrap .i64 (i + 1)) h3 := fun hn => hK _ (by omega) ⟨rfl, by rw [if_neg hn] at hI; exact hI⟩
    have no : (C.lats[i].c < 2 ∧ T.init[i] ≠ decide (C.lats[i].c = 1)) → BegP C T h (.tuple #[.slice none 0 0, .slice none 0 0, .int .i64 (i : Int), .int .i64 134]) h3 := fun hp => by
      have hQ : runQ C T = ([], (i : Int), 134) := by unfold runQ; rw [hR, if_neg (by simp), hI, if_pos hp]
      exact ⟨e03, .inr (by rw [hQ]; exact ⟨by simp, rfl⟩)⟩
    have rdI : ∀ {K' : Addr → Prop}, (∀ ad, cellH h3 (ad.add (i * 1)) = some (.bool T.init[i]) → K' ad) → AtP w.i.a K' := fun hK' => (q.i.ext e03).getn (i := i) (by omega) fun ad _ hc => hK' ad hc
    refine ⟨fun h0 => ⟨_, _, _, hw3.fld 0 rfl, by omega, by omega, rdI fun ad2 hc2 => ⟨_, hc2, ?_⟩⟩, fun h0 => ⟨fun h1 => ⟨_, _, _, hw3.fld 0 rfl, by omega, by omega, rdI fun ad2 hc2 => ⟨_, hc2, ?_⟩⟩, fun h1 => nx fun hh => ?_⟩⟩
    · cases hb1 : T.init[i] with
      | true => exact BIf.t (no ⟨by omega, by rw [hb1, decide_eq_false (by omega)]; simp⟩)
      | false => exact BIf.f ⟨fun h1 => absurd h1 (by omega), fun h1 => nx fun hh => hh.2 (by rw [hb1, decide_eq_false h1])⟩
    · cases hb1 : T.init[i] with
      | true => exact BIf.f (nx fun hh => hh.2 (by rw [hb1, decide_eq_true h1]))
      | false => exact BIf.t (no ⟨by omega, by rw [hb1, decide_eq_true h1]; simp⟩)
    · omega
  · rw [iniF_end (by omega)] at hI
    refine ldC hb3 (ldT hw3 ((c128 (r.ext e03) g ro (q.ext e03) hf).mono ?_))
    rintro _ h6 ⟨e6, ma, mn, mc, sa, sn, sc, rfl, mi, rs⟩
    have ml := mi.len
    have mnl : mn ≤ 512 := by have := hf.2.2.1; rw [movs_len] at ml; omega
    refine ⟨_, _, _, _, _, _, rfl, ?_⟩
    refine LoopT.to (n := mn) (by omega) (fun j h' => h' = h6 ∧ brkF (movs C T.init T.ins) 0 = brkF ((movs C T.init T.ins).drop j) j) ⟨rfl, rfl⟩ ?_
    clear K hK
    rintro j h7 K hj ⟨hh, hB⟩ hK
    replace hh := hh.symm
    subst hh
    refine ⟨fun hlt => ?_, fun hlt => ?_⟩
    · refine ⟨by omega, by omega, mi.elem (i := j) (by omega) fun ad m hl1 re mo => ⟨_, re.fld 1 rfl, ?_⟩⟩
      rw [brkF_drop hl1] at hB
      rw [mo.ok]
      cases hok : (movs C T.init T.ins)[j].ok with
      | false =>
        refine BIf.t ?_
        have hQ : runQ C T = ([], (j : Int), 130) := by
          unfold runQ
          rw [hR, if_neg (by simp), hI]
          simp only
          rw [hB, if_pos hok]
        exact ⟨e03.trans e6, .inr (by rw [hQ]; exact ⟨by simp, rfl⟩)⟩
      | true => exact BIf.f (hK _ (by omega) ⟨rfl, by rw [if_neg (by simp [hok])] at hB; exact hB⟩)
    · have hd : (movs C T.init T.ins).drop j = [] := List.drop_of_length_le (by omega)
      rw [hd, brkF] at hB
      have hQ : runQ C T = (movs C T.init T.ins, 0, 0) := by
        unfold runQ
        rw [hR, if_neg (by simp), hI]
        simp only
        rw [hB]
      exact ⟨e03.trans e6, .inl (by rw [hQ]; exact ⟨rfl, ma, mn, mc, sa, sn, sc, rfl, mi, rs⟩)⟩
end
end Go.Proofs.Ytpmpacdjcfijbaa
/- The document's judgement. No condition. -/
set_option linter.unusedVariables false
set_option linter.unusedSimpArgs false
namespace Go.Hx
theorem LoopT.from2 {τ : Type} {B : τ × Int → Heap → (τ × Int → Heap → Prop) → Prop} {n lo : Nat} {h : Heap} {s0 : τ} (hlo : lo ≤ n) (hn : n < 9223372036854775807) (I : Nat → τ → Heap → Prop) (h0 : I lo s0 h)
    (hs : ∀ (i : Nat) (s : τ) (h' : Heap) (K : τ × Int → Heap → Prop), i ≤ n → I i s h' → (∀ s' h'', i < n → I (i + 1) s' h'' → K (s', IntKind.wrap .i64 ((i : Int) + 1)) h'') → B (s, i) h' K) : LoopT B (s0, (lo : Int)) h := by
  refine ⟨fun st h' m => ∃ i : Nat, st.2 = i ∧ i ≤ n ∧ m = n - i ∧ I i st.1 h', ⟨n - lo, lo, rfl, hlo, rfl, h0⟩, ?_⟩
  rintro ⟨s, t⟩ h' m ⟨i, rfl, hi, rfl, hI⟩
  refine hs i s h' _ hi hI fun s' h'' hlt hI' => ?_
  exact ⟨n - (i + 1), by omega, i + 1, by show IntKind.wrap .i64 ((i : Int) + 1) = _; rw [w64 (by omega) (by omega)]; rfl, by omega, rfl, hI'⟩
end Go.Hx
namespace Go.Proofs.Ytpmpacdjcfijbaa
open Go.Hx Go.Deep
section
variable {h : Heap} {v : CV} {C : Circ} {w : TV} {T : Tr}
theorem runQ_nofit {C : Circ} {T : Tr} (hc : (chk C).2 = 0) (hf : ¬ Fit C T) : runQ C T = ([], 0, 4) := by
  have hR : runR C T = ([], 4) := by unfold runR; rw [if_neg (by simp [hc]), if_neg hf]
  unfold runQ
  rw [hR, if_pos (by simp)]
theorem c53 (r : CIs h v C) (ok : C.Ok) (hc : (chk C).2 = 0) (q : TIs h w T) (i : Int) : CallsH Try.prog 53 #[v.v, .int .i64 i, w.v] h (Xt (.tuple #[.int .i64 (badQ C i T).1, .int .i64 (badQ C i T).2]) h) := by
  have qs := q.s.len
  refine run53 v.mx v.i.a v.i.n v.i.c v.l.a v.l.n v.l.c v.o.a v.o.n v.o.c v.b.a v.b.n v.b.c v.c.a v.c.n v.c.c v.j.a v.j.n v.j.c v.f.a v.f.n v.f.c v.g.a v.g.n v.g.c v.s.a v.s.n v.s.c v.m.a v.m.n v.m.c i w.i.a w.i.n w.i.c w.s.a w.s.n w.s.c w.lp _ h ?_
  unfold VC53
  intro h1 h2
  have e1 : Ext h h1 := Ext.box h _
  have e2 : Ext h h2 := e1.trans (Ext.push h1 _)
  have hb : Rd h2 (some ⟨h.size, 0, none⟩) 11 v.cs := (boxC v 29).ext (Ext.push h1 _)
  have hw : Rd h2 (some ⟨h1.size, 0, none⟩) 3 w.cs := boxT w 35
  refine ldC hb (ldT hw (useX (c76 (r.ext e2) (q.ext e2)) fun h3 e3 => ⟨_, rfl, ?_⟩))
  by_cases hf : Fit C T
  rotate_left
  · rw [decide_eq_false hf]
    refine BIf.t ⟨?_, e2.trans e3⟩
    unfold badQ
    rw [runQ_nofit hc hf, if_pos (by simp)]
  rw [decide_eq_true hf]
  have e03 := e2.trans e3
  refine BIf.f (ldC (hb.ext e3) (ldT (hw.ext e3) ((c95 (r.ext e03) ok hc (q.ext e03) hf).mono ?_)))
  rintro _ h4 ⟨e4, ⟨hz, ma, mn, mc, sa, sn, sc, rfl, mi, rs⟩ | ⟨hz, rfl⟩⟩
  rotate_left
  · exact ⟨_, _, _, _, _, _, _, _, rfl, fun h => absurd h hz, fun _ => ⟨by unfold badQ; rw [if_pos hz], e03.trans e4⟩⟩
  obtain ⟨_, _, hQ, _⟩ := runQ_ok hz
  have ml := mi.len
  have hml : (runQ C T).1.length = T.ins.length := by rw [hQ]; exact movs_len
  have h1m : 1 ≤ mn := by have := hf.2.1; omega
  have hmx : mn ≤ 512 := by have := hf.2.2.1; omega
  have wl : IntKind.wrap .i64 (((mn : Nat) : Int) - 1) = ((mn - 1 : Nat) : Int) := by rw [w64 (by omega) (by omega)]; omega
  have hB : badQ C i T = ((T.ins.length : Int) - 1, if i ∈ (lastM (runQ C T).1).bads then 0 else 131) := by unfold badQ; rw [if_neg (by simp [hz])]
  refine ⟨_, _, _, _, _, _, _, _, rfl, fun _ => ?_, fun h => absurd rfl h⟩
  unfold J53_1
  rw [wl]
  refine ⟨by omega, by omega, mi.elem (i := mn - 1) (by omega) fun ad m hl1 re mo => ⟨_, _, _, re.fld 2 rfl, ?_⟩⟩
  have hmem : ∀ M, M ∈ (runQ C T).1 → M ∈ movs C T.init T.ins := fun M hM => by rw [hQ] at hM; exact hM
  have hlen := (movs_mem hc hf.1 (hmem _ (List.getElem_mem hl1))).2.1
  have hbn := mo.b.ilen
  have hlast : lastM (runQ C T).1 = (runQ C T).1[mn - 1] := by
    unfold lastM
    rw [List.getD_eq_getElem?_getD, show (runQ C T).1.length - 1 = mn - 1 by omega, List.getElem?_eq_getElem hl1]; rfl
  have hT : ((T.ins.length : Int) - 1) = ((mn - 1 : Nat) : Int) := by omega
  refine use (c96 mo.b (by omega) i) ⟨_, rfl, ?_⟩
  rw [hB, hlast, hT]
  by_cases hm : i ∈ (runQ C T).1[mn - 1].bads
  · rw [decide_eq_true hm, if_pos hm]
    exact BIf.f ⟨rfl, e03.trans e4⟩
  · rw [decide_eq_false hm, if_neg hm]
    exact BIf.t ⟨rfl, e03.trans e4⟩
/-- One place is looked for. -/
theorem want {R : Value → Heap → Prop} {h_ h9 hh : Heap} {A24 : Option Addr} {n c : Nat} {L : List Mo} (mi : MosIs hh A24 n c L) (hn : n ≤ 512) (hfl : ∀ M ∈ L, M.fair.length ≤ 32768) {k lp : Int} {next : Int → Heap → Prop} (hlp : cellH hh (Addr.add ⟨h_.size, 0, none⟩ 2) = some (.int .i64 lp)) (h0 : 0 ≤ lp) (h1 : lp < n) {p q : Int}
    (hb : Rd hh (some ⟨h9.size, 0, none⟩) 2 (cs2 (p, q))) (yes : cameIn L lp.toNat (p, q) → next (IntKind.wrap .i64 (k + 1)) hh) (no : ¬ cameIn L lp.toNat (p, q) → R (.tuple #[.int .i64 k, .int .i64 133]) hh) : J54_6 R h_ A24 n k next h9 hh := by
  have hLl := mi.len
  obtain ⟨lo, hlo⟩ : ∃ lo : Nat, lp = lo := ⟨lp.toNat, by omega⟩
  subst hlo
  rw [Int.toNat_natCast] at yes no
  refine ⟨_, hlp, ?_⟩
  refine LoopT.from2 (n := n) (lo := lo) (by omega) (by omega) (fun i came h' => h' = hh ∧ (came = true ↔ ∃ m ∈ (L.drop lo).take (i - lo), (p, q) ∈ m.fair) ∧ lo ≤ i) ⟨rfl, by simp, Nat.le_refl _⟩ ?_
  rintro i came h' K hi ⟨he, hI, hli⟩ hK
  replace he := he.symm
  subst he
  refine ⟨fun hlt => ?_, fun hlt => ?_⟩
  · have hil : i < L.length := by omega
    have htk : (L.drop lo).take (i + 1 - lo) = (L.drop lo).take (i - lo) ++ [L[i]] := by
      rw [show i + 1 - lo = (i - lo) + 1 by omega, List.take_succ_eq_append_getElem (by simp; omega), List.getElem_drop]
      congr 2
      congr 1
      omega
    have hfi := hfl _ (List.getElem_mem hil)
    refine LoopT.to2 (n := L[i].fair.length) (by omega) (fun f cm h' => h' = hh ∧ (cm = true ↔ ((∃ m ∈ (L.drop lo).take (i - lo), (p, q) ∈ m.fair) ∨ (p, q) ∈ L[i].fair.take f))) ⟨rfl, by rw [hI]; simp⟩ ?_
    rintro f cm h' K2 hf ⟨he, hJ⟩ hK2
    replace he := he.symm
    subst he
    refine ⟨by omega, by omega, mi.elem (i := i) (by omega) fun ad m hl1 re mo => ⟨_, _, _, re.fld 3 rfl, ?_⟩⟩
    have mfl := mo.f.elen cs2l (by omega)
    refine ⟨fun hlt2 => ?_, fun hlt2 => ?_⟩
    · have hff : f < L[i].fair.length := by omega
      have st : ∀ b : Bool, (b = true ↔ (cm = true ∨ (p, q) = L[i].fair[f])) → K2 (b, IntKind.wrap .i64 (f + 1)) hh := fun b hb => hK2 _ _ hff ⟨rfl, by
        rw [hb, hJ, List.take_succ_eq_append_getElem hff, List.mem_append, List.mem_singleton]
        exact or_assoc⟩
      cases cm with
      | true => exact st true (by simp)
      | false =>
        refine ⟨by omega, by omega, mi.elem (i := i) (by omega) fun ad2 m2 hl2 re2 mo2 => ⟨_, _, _, re2.fld 3 rfl, ?_⟩⟩
        have mfl2 := mo2.f.elen cs2l (by omega)
        refine ⟨by omega, by omega, mo2.f.elem cs2l (by omega) (i := f) (by omega) fun ad3 hl3 re3 => ⟨_, _, re3.cells, p, q, hb.cells, fun he => st true ?_, fun he => st false ?_⟩⟩
        · have h1 := congrArg Array.toList he
          simp only [List.cons.injEq, Value.int.injEq, true_and, and_true] at h1
          refine iff_of_true rfl (.inr (Prod.ext ?_ ?_))
          · exact h1.1.symm
          · exact h1.2.symm
        · refine iff_of_false (by simp) fun hor => ?_
          rcases hor with hor | hor
          · cases hor
          · apply he
            rw [← hor]
    · have hfe : f = L[i].fair.length := by omega
      subst hfe
      rw [List.take_length] at hJ
      refine hK _ _ (by omega) ⟨rfl, ?_, by omega⟩
      rw [hJ, htk]
      constructor
      · rintro (⟨m, hm, hs⟩ | hs)
        · exact ⟨m, List.mem_append_left _ hm, hs⟩
        · exact ⟨_, List.mem_append_right _ (List.mem_singleton.2 rfl), hs⟩
      · rintro ⟨m, hm, hs⟩
        rcases List.mem_append.1 hm with hm | hm
        · exact .inl ⟨m, hm, hs⟩
        · rw [List.mem_singleton] at hm; subst hm; exact .inr hs
  · rw [List.take_of_length_le (by simp; omega)] at hI
    cases came with
    | true => exact BIf.f (yes (hI.1 rfl))
    | false => exact BIf.t (no fun hc => by have := hI.2 hc; cases this)
end
end Go.Proofs.Ytpmpacdjcfijbaa
/- The document's justice; a trace held against a property. No condition. -/
set_option linter.unusedVariables false
set_option linter.unusedSimpArgs false
namespace Go.Proofs.Ytpmpacdjcfijbaa
open Go.Hx Go.Deep
section
variable {h : Heap} {v : CV} {C : Circ} {w : TV} {T : Tr}
set_option maxRecDepth 4000 in
theorem c54 (r : CIs h v C) (ok : C.Ok) (hc : (chk C).2 = 0) (q : TIs h w T) {j : Int} (hj0 : 0 ≤ j) (hj1 : j < C.just.length) : CallsH Try.prog 54 #[v.v, .int .i64 j, w.v] h (Xt (.tuple #[.int .i64 (justQ C j T).1, .int .i64 (justQ C j T).2]) h) := by
  have qs := q.s.len
  have qlp := q.lp
  have q6 := r.len.j
  have q7 := r.len.f
  have bnd := chk_bounds hc
  refine run54 v.mx v.i.a v.i.n v.i.c v.l.a v.l.n v.l.c v.o.a v.o.n v.o.c v.b.a v.b.n v.b.c v.c.a v.c.n v.c.c v.j.a v.j.n v.j.c v.f.a v.f.n v.f.c v.g.a v.g.n v.g.c v.s.a v.s.n v.s.c v.m.a v.m.n v.m.c j w.i.a w.i.n w.i.c w.s.a w.s.n w.s.c w.lp _ h ?_
  unfold VC54
  intro h1 h2
  have e1 : Ext h h1 := Ext.box h _
  have e2 : Ext h h2 := e1.trans (Ext.push h1 _)
  have hb : Rd h2 (some ⟨h.size, 0, none⟩) 11 v.cs := (boxC v 29).ext (Ext.push h1 _)
  have hw : Rd h2 (some ⟨h1.size, 0, none⟩) 3 w.cs := boxT w 35
  refine ldC hb (ldT hw (useX (c76 (r.ext e2) (q.ext e2)) fun h3 e3 => ⟨_, rfl, ?_⟩))
  by_cases hf : Fit C T
  rotate_left
  · rw [decide_eq_false hf]
    refine BIf.t ⟨?_, e2.trans e3⟩
    unfold justQ
    rw [runQ_nofit hc hf, if_pos (by simp)]
  rw [decide_eq_true hf]
  have e03 := e2.trans e3
  refine BIf.f (ldC (hb.ext e3) (ldT (hw.ext e3) ((c95 (r.ext e03) ok hc (q.ext e03) hf).mono ?_)))
  rintro _ h5 ⟨e5, ⟨hz, ma, mn, mc, sa, sn, sc, rfl, mi, rs⟩ | ⟨hz, rfl⟩⟩
  rotate_left
  · exact ⟨_, _, _, _, _, _, _, _, rfl, fun h => absurd h hz, fun _ => ⟨by unfold justQ; rw [if_pos hz], e03.trans e5⟩⟩
  obtain ⟨_, _, hQ, _⟩ := runQ_ok hz
  have hJ := justQ_at (j := j) hz
  have ml := mi.len
  obtain ⟨M, row, hM, hr, l1, l2, l3⟩ := last_eq hf
  obtain ⟨L, hLd⟩ : ∃ L, L = (runQ C T).1 := ⟨_, rfl⟩
  have hLm : L = movs C T.init T.ins := by rw [hLd, hQ]
  rw [← hLd] at hJ mi ml
  rw [hLm, l1, l2, ← l3, ← hLm] at hJ
  have hmem : ∀ M ∈ L, M.st.length = C.lats.length ∧ M.bads.length ≤ 16384 ∧ M.fair.length ≤ 32768 := fun M hM => by rw [hLm] at hM; exact movs_mem hc hf.1 hM
  have hml : L.length = T.ins.length := by rw [hLm]; exact movs_len
  have h1m : 1 ≤ mn := by have := hf.2.1; omega
  have hmx : mn ≤ 512 := by have := hf.2.2.1; omega
  have hlo : T.loop < mn := by have := hf.2.2.2.2.1; omega
  have wl : IntKind.wrap .i64 (((mn : Nat) : Int) - 1) = ((mn - 1 : Nat) : Int) := by rw [w64 (by omega) (by omega)]; omega
  have hT : ((T.ins.length : Int) - 1) = ((mn - 1 : Nat) : Int) := by omega
  rw [hT] at hJ
  have e05 := e03.trans e5
  have e25 := e3.trans e5
  have hw5 := hw.ext e25
  have hb5 := hb.ext e25
  refine ⟨_, _, _, _, _, _, _, _, rfl, fun _ => ?_, fun h => absurd rfl h⟩
  unfold J54_1
  rw [wl]
  refine ⟨_, hw5.fld 2 rfl, fun hneg => ⟨by rw [hJ, if_pos (by omega)], e05⟩, fun hnn => ?_⟩
  rw [if_neg (by omega)] at hJ
  refine ⟨_, hw5.fld 2 rfl, by omega, by omega, mi.elem (i := w.lp.toNat) (by omega) fun ad3 m2 hl3 re2 mo2 => ⟨_, _, _, re2.fld 0 rfl, ?_⟩⟩
  have hlop : (L.getD T.loop.toNat ⟨[], false, [], []⟩) = L[w.lp.toNat] := by
    rw [List.getD_eq_getElem?_getD, ← qlp, List.getElem?_eq_getElem hl3]; rfl
  rw [hlop] at hJ
  have hsn := rs.ilen
  have hel : (endS C T.init T.ins).length = C.lats.length := by rw [l3]; simp [nextL]
  refine use (c28 rs mo2.s (by omega)) ⟨_, rfl, ?_⟩
  by_cases hEq : endS C T.init T.ins = L[w.lp.toNat].st
  rotate_left
  · rw [decide_eq_false hEq]
    exact BIf.t ⟨by rw [hJ, if_pos hEq], e05⟩
  rw [decide_eq_true hEq]
  rw [if_neg (fun h => h hEq)] at hJ
  refine BIf.f ⟨_, _, _, hb5.fld 6 rfl, by omega, by omega, (r.j.ext e05).get (i := j.toNat) (by omega) fun ad6 hl6 x6 hc6 hr6 hx6 hx61 hx6n => ⟨_, _, _, hc6, ?_⟩⟩
  have hjD : C.just.getD j.toNat [] = C.just[j.toNat] := by rw [List.getD_eq_getElem?_getD, List.getElem?_eq_getElem hl6]; rfl
  rw [hjD] at hJ
  have hxl : C.just[j.toNat].length ≤ 16384 := by have := le_sumS (List.getElem_mem hl6); omega
  have wn : IntKind.wrap .i64 (((x6.n : Nat) : Int) + ((v.f.n : Nat) : Int)) = ((x6.n + v.f.n : Nat) : Int) := by rw [w64 (by omega) (by omega)]; omega
  refine LoopT.to (n := x6.n + v.f.n) (by omega) (fun k h' => Ext h5 h' ∧ missF (cameIn L T.loop.toNat) j C.just[j.toNat].length 0 = missF (cameIn L T.loop.toNat) j (C.just[j.toNat].length - k) k ∧
    (x6.n ≤ k → missF (cameIn L T.loop.toNat) (-1) C.fair.length 0 = missF (cameIn L T.loop.toNat) (-1) (C.fair.length - (k - x6.n)) (k - x6.n))) ⟨.refl _, rfl, fun hk => by rw [show 0 - x6.n = 0 by omega]; rfl⟩ ?_
  rintro k h8 K hk ⟨e8, hI1, hI2⟩ hK
  have e08 := e05.trans e8
  refine ⟨_, _, _, (hb5.ext e8).fld 7 rfl, ?_⟩
  rw [wn]
  refine ⟨fun hlt => ?_, fun hlt => ?_⟩
  · unfold J54_4
    intro h10
    have f10 : Fr h8 1 h10 (some ⟨h8.size, 0, none⟩) 2 2 [.int .i64 0, .int .i64 0] := Fr.lit (.refl h8) [.int .i64 0, .int .i64 0] 130 2 rfl
    refine f10.put (ws := cs2 (j, (k : Int))) rfl (cs2_one _) fun h11 f11 u11 => ⟨fun hge => ?_, fun hnge => ?_⟩
    · have wk : IntKind.wrap .i64 ((k : Int) - ((x6.n : Nat) : Int)) = ((k - x6.n : Nat) : Int) := by rw [w64 (by omega) (by omega)]; omega
      rw [wk]
      refine f11.put (ws := cs2 (-1, ((k - x6.n : Nat) : Int))) rfl (cs2_one _) fun h12 f12 u12 => ?_
      have e12 := f12.ext
      have hz1 : missF (cameIn L T.loop.toNat) j C.just[j.toNat].length 0 = none := by rw [hI1, show C.just[j.toNat].length - k = 0 by omega]; rfl
      rw [hz1] at hJ
      simp only at hJ
      refine want (mi.ext (e8.trans e12)) hmx (fun M hM => (hmem M hM).2.2) ((hw5.ext (e8.trans e12)).fld 2 rfl) (by omega) (by omega) f12.rd (fun hy => hK _ (by omega) ⟨e8.trans e12, ?_, fun _ => ?_⟩) fun hn => ⟨?_, e08.trans e12⟩
      · rw [hI1, show C.just[j.toNat].length - k = 0 by omega, show C.just[j.toNat].length - (k + 1) = 0 by omega]; rfl
      · rw [hI2 (by omega), missF_step (by omega) (by rw [← qlp]; exact hy), show k + 1 - x6.n = k - x6.n + 1 by omega]
      · rw [hI2 (by omega), missF_stop (by omega) (by rw [← qlp]; exact hn)] at hJ
        rw [hJ]
        simp only
        rw [show ((C.just[j.toNat].length : Int) + ((k - x6.n : Nat) : Int)) = (k : Int) by omega]
    · have e11 := f11.ext
      refine want (mi.ext (e8.trans e11)) hmx (fun M hM => (hmem M hM).2.2) ((hw5.ext (e8.trans e11)).fld 2 rfl) (by omega) (by omega) f11.rd (fun hy => hK _ (by omega) ⟨e8.trans e11, ?_, fun hkk => ?_⟩) fun hn => ⟨?_, e08.trans e11⟩
      · rw [hI1, missF_step (by omega) (by rw [← qlp]; exact hy)]
      · rw [show k + 1 - x6.n = 0 by omega]; rfl
      · rw [hI1, missF_stop (by omega) (by rw [← qlp]; exact hn)] at hJ
        rw [hJ]
  · have hz1 : missF (cameIn L T.loop.toNat) j C.just[j.toNat].length 0 = none := by rw [hI1, show C.just[j.toNat].length - k = 0 by omega]; rfl
    have hz2 : missF (cameIn L T.loop.toNat) (-1) C.fair.length 0 = none := by rw [hI2 (by omega), show C.fair.length - (k - x6.n) = 0 by omega]; rfl
    rw [hz1, hz2] at hJ
    refine ⟨_, (hw5.ext e8).fld 2 rfl, ?_, e08⟩
    rw [hJ, qlp]
def hasP (C : Circ) (kd i : Int) : Prop := (kd = 98 ∧ 0 ≤ i ∧ i < C.bads.length) ∨ (kd = 106 ∧ 0 ≤ i ∧ i < C.just.length)
instance (C : Circ) (kd i : Int) : Decidable (hasP C kd i) := by unfold hasP; infer_instance
theorem c52 (r : CIs h v C) (kd i : Int) : CallsH Try.prog 52 #[v.v, .agg #[.int .u8 kd, .int .i64 i]] h (Xt (.bool (decide (hasP C kd i))) h) := by
  have q4 := r.len.b
  have q6 := r.len.j
  refine run52 v.mx v.i.a v.i.n v.i.c v.l.a v.l.n v.l.c v.o.a v.o.n v.o.c v.b.a v.b.n v.b.c v.c.a v.c.n v.c.c v.j.a v.j.n v.j.c v.f.a v.f.n v.f.c v.g.a v.g.n v.g.c v.s.a v.s.n v.s.c v.m.a v.m.n v.m.c kd i _ h ?_
  unfold VC52
  intro h1 h2
  have e1 : Ext h h1 := Ext.box h _
  have e2 : Ext h h2 := e1.trans (Ext.push h1 _)
  have hb4 : Rd h2 (some ⟨h.size, 0, none⟩) 11 v.cs := (boxC v 29).ext (Ext.push h1 _)
  have hp4 : Rd h2 (some ⟨h1.size, 0, none⟩) 2 [.int .u8 kd, .int .i64 i] := (Fr.lit (.refl h1) [.int .u8 kd, .int .i64 i] 31 2 rfl).rd
  have yes : hasP C kd i → Xt (.bool (decide (hasP C kd i))) h (.bool true) h2 := fun hp => ⟨by rw [decide_eq_true hp], e2⟩
  have no : ¬ hasP C kd i → Xt (.bool (decide (hasP C kd i))) h (.bool false) h2 := fun hp => ⟨by rw [decide_eq_false hp], e2⟩
  refine ⟨_, hp4.fld 0 rfl, fun k1 => ⟨_, hp4.fld 1 rfl, fun k2 => ⟨_, hp4.fld 1 rfl, _, _, _, hb4.fld 4 rfl, fun k3 => yes (.inl ⟨k1, k2, by omega⟩), fun k3 => ?_⟩, fun k2 => ?_⟩, fun k1 => ?_⟩
  · exact ⟨_, hp4.fld 0 rfl, fun m1 => absurd m1 (by omega), fun m1 => no fun h => by unfold hasP at h; omega⟩
  · exact ⟨_, hp4.fld 0 rfl, fun m1 => absurd m1 (by omega), fun m1 => no fun h => by unfold hasP at h; omega⟩
  · exact ⟨_, hp4.fld 0 rfl, fun m1 => ⟨_, hp4.fld 1 rfl, fun m2 => ⟨_, hp4.fld 1 rfl, _, _, _, hb4.fld 6 rfl, fun m3 => yes (.inr ⟨m1, m2, by omega⟩), fun m3 => no fun h => by unfold hasP at h; omega⟩, fun m2 => no fun h => by unfold hasP at h; omega⟩, fun m1 => no fun h => by unfold hasP at h; omega⟩
set_option maxRecDepth 4000 in
theorem c16 (r : CIs h v C) (ok : C.Ok) (q : TIs h w T) (kd i : Int) : CallsH Try.prog 16 #[v.v, .agg #[.int .u8 kd, .int .i64 i], w.v] h (Xt (.tuple #[.int .i64 (propQ C kd i T).1, .int .i64 (propQ C kd i T).2]) h) := by
  refine run16 v.mx v.i.a v.i.n v.i.c v.l.a v.l.n v.l.c v.o.a v.o.n v.o.c v.b.a v.b.n v.b.c v.c.a v.c.n v.c.c v.j.a v.j.n v.j.c v.f.a v.f.n v.f.c v.g.a v.g.n v.g.c v.s.a v.s.n v.s.c v.m.a v.m.n v.m.c kd i w.i.a w.i.n w.i.c w.s.a w.s.n w.s.c w.lp _ h ?_
  unfold VC16
  intro h1 h2 h3
  have e1 : Ext h h1 := Ext.box h _
  have e2 : Ext h h2 := e1.trans (Ext.push h1 _)
  have e3 : Ext h h3 := e2.trans (Ext.push h2 _)
  have hb : Rd h3 (some ⟨h.size, 0, none⟩) 11 v.cs := ((boxC v 29).ext (Ext.push h1 _)).ext (Ext.push h2 _)
  have hp : Rd h3 (some ⟨h1.size, 0, none⟩) 2 [.int .u8 kd, .int .i64 i] := (Fr.lit (.refl h1) [.int .u8 kd, .int .i64 i] 31 2 rfl).rd.ext (Ext.push h2 _)
  have hw : Rd h3 (some ⟨h2.size, 0, none⟩) 3 w.cs := boxT w 35
  refine ldC hb (useX (c51 (r.ext e3) ok) fun h4 e4 => ⟨_, _, rfl, fun hz => ?_, fun hz => ⟨by unfold propQ; rw [if_pos hz], e3.trans e4⟩⟩)
  have e04 := e3.trans e4
  have hR : propQ C kd i T = if kd = 98 ∧ 0 ≤ i ∧ i < C.bads.length then badQ C i T else if kd = 106 ∧ 0 ≤ i ∧ i < C.just.length then justQ C i T else (0, 5) := by unfold propQ; rw [if_neg (by simp [hz])]
  refine ldC (hb.ext e4) ⟨_, _, (hp.ext e4).cells, useX (c52 (r.ext e04) kd i) fun h5 e5 => ⟨_, rfl, ?_⟩⟩
  have e05 := e04.trans e5
  have e35 := e4.trans e5
  have hb5 := hb.ext e35
  have hp5 := hp.ext e35
  have hw5 := hw.ext e35
  by_cases hh : hasP C kd i
  rotate_left
  · rw [decide_eq_false hh]
    refine BIf.t ⟨?_, e05⟩
    rw [hR, if_neg fun a => hh (.inl a), if_neg fun a => hh (.inr a)]
  rw [decide_eq_true hh]
  refine BIf.f ⟨_, hp5.fld 0 rfl, fun k1 => ?_, fun k1 => ?_⟩
  · have hb1 : kd = 98 ∧ 0 ≤ i ∧ i < C.bads.length := by rcases hh with a | a; exact a; omega
    exact ldC hb5 ⟨_, hp5.fld 1 rfl, ldT hw5 (useX (c53 (r.ext e05) ok hz (q.ext e05) i) fun h6 e6 => ⟨_, _, rfl, by rw [hR, if_pos hb1], e05.trans e6⟩)⟩
  · have hb1 : kd = 106 ∧ 0 ≤ i ∧ i < C.just.length := by rcases hh with a | a; omega; exact a
    exact ldC hb5 ⟨_, hp5.fld 1 rfl, ldT hw5 (useX (c54 (r.ext e05) ok hz (q.ext e05) hb1.2.1 hb1.2.2) fun h6 e6 => ⟨_, _, rfl, by rw [hR, if_neg (fun a => k1 a.1), if_pos hb1], e05.trans e6⟩)⟩
theorem c18 (r : CIs h v C) (ok : C.Ok) (q : TIs h w T) (i : Int) : CallsH Try.prog 18 #[v.v, .int .i64 i, w.v] h (Xt (.tuple #[.int .i64 (propQ C 98 i T).1, .int .i64 (propQ C 98 i T).2]) h) := by
  refine run18 v.mx v.i.a v.i.n v.i.c v.l.a v.l.n v.l.c v.o.a v.o.n v.o.c v.b.a v.b.n v.b.c v.c.a v.c.n v.c.c v.j.a v.j.n v.j.c v.f.a v.f.n v.f.c v.g.a v.g.n v.g.c v.s.a v.s.n v.s.c v.m.a v.m.n v.m.c i w.i.a w.i.n w.i.c w.s.a w.s.n w.s.c w.lp _ h ?_
  unfold VC18
  intro h1 h2
  have e1 : Ext h h1 := Ext.box h _
  have e2 : Ext h h2 := e1.trans (Ext.push h1 _)
  have hb : Rd h2 (some ⟨h.size, 0, none⟩) 11 v.cs := (boxC v 29).ext (Ext.push h1 _)
  have hw : Rd h2 (some ⟨h1.size, 0, none⟩) 3 w.cs := boxT w 35
  exact ldC hb (ldT hw (useX (c16 (r.ext e2) ok (q.ext e2) 98 i) fun h3 e3 => ⟨_, _, rfl, rfl, e2.trans e3⟩))
theorem c20 (r : CIs h v C) (ok : C.Ok) (q : TIs h w T) (i : Int) : CallsH Try.prog 20 #[v.v, .int .i64 i, w.v] h (Xt (.tuple #[.int .i64 (propQ C 106 i T).1, .int .i64 (propQ C 106 i T).2]) h) := by
  refine run20 v.mx v.i.a v.i.n v.i.c v.l.a v.l.n v.l.c v.o.a v.o.n v.o.c v.b.a v.b.n v.b.c v.c.a v.c.n v.c.c v.j.a v.j.n v.j.c v.f.a v.f.n v.f.c v.g.a v.g.n v.g.c v.s.a v.s.n v.s.c v.m.a v.m.n v.m.c i w.i.a w.i.n w.i.c w.s.a w.s.n w.s.c w.lp _ h ?_
  unfold VC20
  intro h1 h2
  have e1 : Ext h h1 := Ext.box h _
  have e2 : Ext h h2 := e1.trans (Ext.push h1 _)
  have hb : Rd h2 (some ⟨h.size, 0, none⟩) 11 v.cs := (boxC v 29).ext (Ext.push h1 _)
  have hw : Rd h2 (some ⟨h1.size, 0, none⟩) 3 w.cs := boxT w 35
  exact ldC hb (ldT hw (useX (c16 (r.ext e2) ok (q.ext e2) 106 i) fun h3 e3 => ⟨_, _, rfl, rfl, e2.trans e3⟩))
end
end Go.Proofs.Ytpmpacdjcfijbaa
/- Traces are held against properties as the document has it. No condition. -/
set_option linter.unusedVariables false
set_option linter.unusedSimpArgs false
namespace Go.Hx
structure PV where
  k : Int
  i : Int
def PV.cs (p : PV) : List Value := [.int .u8 p.k, .int .i64 p.i]
end Go.Hx
namespace Go.Proofs.Ytpmpacdjcfijbaa
open Go.Hx Go.Deep
theorem list2 {cs : List Value} {x0 x1 : Value} (hl : cs.length = 2) (h0 : cs[0]? = some x0) (h1 : cs[1]? = some x1) : cs = [x0, x1] := by
  match cs, hl with
  | [a, b], _ => simp at h0 h1; rw [h0, h1]
section
variable {H : Type} {enc : TypeId × Value → H} {W : World} {base : Nat} {held : Bool}
theorem open_prop : Opens enc Try.prog W base held 31 PV.cs (fun _ => True) := by
  intro fuel cs x h hw
  obtain ⟨hl, hf⟩ := struct_cells (P := Try.prog) (t := 31) Try.underlying31 (by kernel_rfl) h hw
  rw [show Try.prog.cellsOf 31 = 2 by kernel_rfl] at hl
  obtain ⟨k, _, h0, e0, k0⟩ := hf 0 _ rfl (by omega) (Opens.int Try.underlying5)
  obtain ⟨i, _, h1, e1, k1⟩ := hf 1 _ rfl (by omega) (Opens.int Try.underlying3)
  simp only [List.cons.injEq, and_true] at e0 e1
  subst e0 e1
  exact ⟨⟨k, i⟩, list2 hl h0 h1, trivial⟩
end
theorem tOk3P {T : Tr} (ok : T.Ok) : T.init.length < 9223372036854775807 ∧ T.ins.length < 9223372036854775807 ∧ ∀ r ∈ T.ins, r.length < 9223372036854775807 := by
  have h1 := ok.init
  have h2 := ok.ins
  exact ⟨by omega, by omega, fun r hr => by have := ok.rows r hr; omega⟩
section
variable {h : Heap} {v : CV} {C : Circ} {w : TV} {T : Tr}
set_option maxRecDepth 4000 in
theorem c3 (r : CIs h v C) (ok : C.Ok) (kd i : Int) (q : TIs h w T) (tok : T.Ok) : CallsH Try.prog 3 #[v.v, .agg #[.int .u8 kd, .int .i64 i], w.v] h (Xt (.bool true) h) := by
  refine run3 v.mx v.i.a v.i.n v.i.c v.l.a v.l.n v.l.c v.o.a v.o.n v.o.c v.b.a v.b.n v.b.c v.c.a v.c.n v.c.c v.j.a v.j.n v.j.c v.f.a v.f.n v.f.c v.g.a v.g.n v.g.c v.s.a v.s.n v.s.c v.m.a v.m.n v.m.c kd i w.i.a w.i.n w.i.c w.s.a w.s.n w.s.c w.lp _ h ?_
  unfold VC3
  intro h0 h1 h2
  have e0 : Ext h h0 := Ext.box h _
  have e1 : Ext h h1 := e0.trans (Ext.push h0 _)
  have e2 : Ext h h2 := e1.trans (Ext.push h1 _)
  have hs0 : h0.size = h.size + 1 := by simp [h0]
  have hs1 : h1.size = h.size + 2 := by simp [h1, hs0]
  have hs2 : h2.size = h.size + 3 := by simp [h2, hs1]
  have hb : Rd h2 (some ⟨h.size, 0, none⟩) 11 v.cs := ((boxC v 29).ext (Ext.push h0 _)).ext (Ext.push h1 _)
  have hp : Rd h2 (some ⟨h0.size, 0, none⟩) 2 [.int .u8 kd, .int .i64 i] := (Fr.lit (.refl h0) [.int .u8 kd, .int .i64 i] 31 2 rfl).rd.ext (Ext.push h1 _)
  have hw : Rd h2 (some ⟨h1.size, 0, none⟩) 3 w.cs := boxT w 35
  refine run12 _ h2 ⟨true, rfl, BIf.f ?_⟩
  have m := MemU.start (Mem.nil (.refl h2))
  refine ⟨by simp only; omega, ldC hb fun U h3 g => ?_⟩
  have m1 := m.grow g
  refine (c13n (r.ext (e2.trans m1.mem.ext)) ok).mono ?_
  rintro _ h4 ⟨v2, rfl, ln, e4⟩
  obtain ⟨k, m2⟩ := m1.ext e4
  refine ⟨_, _, _, _, _, _, _, _, _, _, _, _, _, _, _, _, _, _, _, _, _, _, _, _, _, _, _, _, _, _, _, rfl, k, by simp only; omega, ldT (hw.ext m2.mem.ext) fun U1 h5 g1 => ?_⟩
  have m3 := m2.grow g1
  refine (c14 (q.ext (e2.trans m3.mem.ext)) tok).mono ?_
  rintro _ h8 ⟨w2, rfl, tn⟩
  obtain ⟨rows, hrows, tm⟩ := tn.ex
  obtain ⟨k, m6⟩ := m3.add tm
  refine ⟨_, _, _, _, _, _, _, rfl, k, fun U3 h9 b g3 hU ho U4 h10 b1 g4 hU1 ho1 U5 h11 g5 => ?_⟩
  have m7 := m6.grow g3
  have hb7 := m7.lt b hU
  have m8 := (m7.take hU hb7.1 (t := ⟨1, some ⟨b, 0, none⟩, 11, 11, CV.zero.cs⟩) ⟨Own.row ho rfl, (fun ad ha => by cases ha; exact hb7.1), m7.mem.ext⟩ fun ad ha => by cases ha; rfl).grow g4
  have hb8 := m8.lt b1 hU1
  have m9 := (m8.take hU1 hb8.1 (t := ⟨1, some ⟨b1, 0, none⟩, 3, 3, TV.zero.cs⟩) ⟨Own.row ho1 rfl, (fun ad ha => by cases ha; exact hb8.1), m8.mem.ext⟩ fun ad ha => by cases ha; rfl).grow g5
  have z1 : h2.size ≤ h3.size := g.size
  have z4 : h3.size ≤ h4.size := e4.1
  have z5 := g1.size
  have z6 : h5.size ≤ h8.size := tm.ext.1
  have z9 := g3.size
  have z10 := g4.size
  have z11 := g5.size
  have av0 : ∀ x, U x → ¬ (h3.size ≤ x ∧ x < h4.size) := fun x hx hh => by have := (m1.lt x hx).2; omega
  have av1 : ∀ x, U1 x → ¬ (h3.size ≤ x ∧ x < h4.size) := fun x hx hh => by
    rcases g1.sup x hx with h | h
    · exact av0 x h hh
    · omega
  have av3 : ∀ x, U3 x → ¬ (h3.size ≤ x ∧ x < h4.size) := fun x hx hh => by
    rcases g3.sup x hx with h | h
    · exact av1 x h hh
    · omega
  have av4 : ¬ (h3.size ≤ b1 ∧ b1 < h4.size) := fun hh => by
    rcases g4.sup b1 hU1 with h | h
    · exact av3 b1 h.1 hh
    · omega
  refine (m9.mem.get 1 rfl).put (ws := v2.cs) rfl (CV.one v2) fun h12 f12 u12 => ⟨u12.1, fun U6 h13 g6 => ?_⟩
  have m10 := (m9.mem.setAt 1 (t' := ⟨1, some ⟨b, 0, none⟩, 11, 11, v2.cs⟩) rfl f12 u12 (.inl rfl)).ext' g6.ext
  refine (m10.get 0 rfl).put (ws := w2.cs) rfl (TV.one w2) fun h14 f14 u14 => ⟨u14.1, ?_⟩
  have m12 := m10.setAt 0 (t' := ⟨1, some ⟨b1, 0, none⟩, 3, 3, w2.cs⟩) rfl f14 u14 (.inl rfl)
  have u4_14 : Upd (fun x => x = b ∨ x = b1) h4 h14 := by
    have ea : Ext h4 h11 := (((g1.ext.trans tm.ext).trans g3.ext).trans g4.ext).trans g5.ext
    have eb : Upd (fun x => x = b ∨ x = b1) h11 h12 := u12.mono fun x _ ⟨ad, ha, e⟩ => by cases ha; exact .inl e
    have ec : Upd (fun x => x = b ∨ x = b1) h13 h14 := u14.mono fun x _ ⟨ad, ha, e⟩ => by cases ha; exact .inr e
    exact (((Upd.wide ea).trans eb).trans (Upd.wide g6.ext)).trans ec
  have li : LIs h14 v2 C := ln _ _ u4_14 fun x hx1 hx2 hx => by
    rcases hx with rfl | rfl
    · exact av3 _ hU ⟨hx1, hx2⟩
    · exact av4 ⟨hx1, hx2⟩
  have own : TNew h2 h14 w2 T := ⟨tn.lp, rows, hrows, m12.sub (by rw [List.append_nil]; exact .cons _ (.cons _ (.refl _)))⟩
  have bv : Rd h14 (some ⟨b, 0, none⟩) 11 v2.cs := (m12.get 1 rfl).rd
  have bw : Rd h14 (some ⟨b1, 0, none⟩) 3 w2.cs := (m12.get 0 rfl).rd
  have e14 : Ext h2 h14 := m12.ext
  clear m12 f14 u14 m10 g6 f12 u12 m9 m8 m7 hb7 hb8 m6 m3 m2 m1 m ln av0 av1 av3 av4 u4_14 k
  have ot := own.tis
  refine ldC bv ⟨_, _, (hp.ext e14).cells, ldT bw (useX (c15 li.cis ok ot kd i) fun h15 e15 => ⟨_, _, rfl, ?_⟩)⟩
  have x15 := e14.trans e15
  refine ldC (hb.ext x15) ⟨_, _, (hp.ext x15).cells, ldT (hw.ext x15) (useX (c16 (r.ext (e2.trans x15)) ok (q.ext (e2.trans x15)) kd i) fun h16 e16 => ⟨_, _, rfl, fun _ => ⟨fun _ => ?_, fun h => absurd rfl h⟩, fun h => absurd rfl h⟩)⟩
  have y16 := e15.trans e16
  have x16 := e14.trans y16
  refine ldC (bv.ext y16) ⟨_, (hp.ext x16).fld 1 rfl, ldT (bw.ext y16) (useX (c17 (li.cis.ext y16) ok (ot.ext y16) i) fun h18 e18 => ⟨_, _, rfl, ?_⟩)⟩
  have y18 := y16.trans e18
  have x18 := e14.trans y18
  refine ldC (hb.ext x18) ⟨_, (hp.ext x18).fld 1 rfl, ldT (hw.ext x18) (useX (c18 (r.ext (e2.trans x18)) ok (q.ext (e2.trans x18)) i) fun h19 e19 => ⟨_, _, rfl, ?_⟩)⟩
  have y19 := y18.trans e19
  have x19 := e14.trans y19
  refine ldC (bv.ext y19) ⟨_, (hp.ext x19).fld 1 rfl, ldT (bw.ext y19) (useX (c19 (li.cis.ext y19) ok (ot.ext y19) i) fun h20 e20 => ⟨_, _, rfl, ?_⟩)⟩
  have y20 := y19.trans e20
  have x20 := e14.trans y20
  refine ldC (hb.ext x20) ⟨_, (hp.ext x20).fld 1 rfl, ldT (hw.ext x20) (useX (c20 (r.ext (e2.trans x20)) ok (q.ext (e2.trans x20)) i) fun h21 e21 => ⟨_, _, rfl, fun _ => ⟨fun _ => ⟨fun _ => ⟨fun _ => ?_, fun h => absurd rfl h⟩, fun h => absurd rfl h⟩, fun h => absurd rfl h⟩, fun h => absurd rfl h⟩)⟩
  have y21 := y20.trans e21
  have x21 := e14.trans y21
  refine ldC (bv.ext y21) (ldC (hb.ext x21) (useX (c21 (li.ext y21) (r.ext (e2.trans x21)) (Circ.Ok.sm ok)) fun h22 e22 => ⟨true, rfl, BIf.t ?_⟩))
  have y22 := y21.trans e22
  have x22 := e14.trans y22
  refine ldT (bw.ext y22) (ldT (hw.ext x22) (useX (c22 (ot.ext y22) (q.ext (e2.trans x22)) (tOk3P tok)) fun h23 e23 => ⟨true, rfl, BIf.t ?_⟩))
  exact useX (c23 h23) fun h24 e24 => ⟨true, rfl, rfl, (e2.trans (x22.trans e23)).trans e24⟩
end
end Go.Proofs.Ytpmpacdjcfijbaa
