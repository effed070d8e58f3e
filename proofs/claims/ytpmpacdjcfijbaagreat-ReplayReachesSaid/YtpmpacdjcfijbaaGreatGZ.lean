/- The bad states that a run comes by, as the document has them. No condition. -/
import Derived.Test.YtpmpacdjcfijbaaGreatGA
import Derived.Test.YtpmpacdjcfijbaaGreatPC
import Derived.Test.YtpmpacdjcfijbaaGreatCZa
set_option linter.unusedVariables false
set_option linter.unusedSimpArgs false
namespace Go.Proofs.YtpmpacdjcfijbaaGreat
open Go.Hx Go.Deep
open Classical in
noncomputable def upTo (L : List Mo) (k : Nat) : List Int := ((List.range k).filter fun (i : Nat) => decide (∃ M ∈ L, ((i : Nat) : Int) ∈ M.bads)).map fun (i : Nat) => ((i : Nat) : Int)
theorem upTo_yes {L : List Mo} {k : Nat} (h : ∃ M ∈ L, (k : Int) ∈ M.bads) : upTo L (k + 1) = upTo L k ++ [(k : Int)] := by
  unfold upTo
  rw [List.range_succ, List.filter_append, List.map_append, List.filter_cons, if_pos (by simpa using h)]
  rfl
theorem upTo_no {L : List Mo} {k : Nat} (h : ¬ ∃ M ∈ L, (k : Int) ∈ M.bads) : upTo L (k + 1) = upTo L k := by
  unfold upTo
  rw [List.range_succ, List.filter_append, List.map_append, List.filter_cons, if_neg (by simpa using h)]
  simp
theorem upTo_lt {L : List Mo} {k : Nat} : (upTo L k).Pairwise (· < ·) := by
  unfold upTo
  rw [List.pairwise_map]
  exact ((List.pairwise_lt_range (n := k)).filter _).imp fun h => by omega
theorem mem_upTo {L : List Mo} {k : Nat} {x : Int} : x ∈ upTo L k ↔ 0 ≤ x ∧ x < k ∧ ∃ M ∈ L, x ∈ M.bads := by
  unfold upTo
  simp only [List.mem_map, List.mem_filter, List.mem_range, decide_eq_true_eq]
  constructor
  · rintro ⟨i, ⟨h1, h2⟩, rfl⟩
    exact ⟨by omega, by omega, h2⟩
  · rintro ⟨h1, h2, h3⟩
    exact ⟨x.toNat, ⟨by omega, by rw [show ((x.toNat : Nat) : Int) = x by omega]; exact h3⟩, by omega⟩
theorem upTo_len {L : List Mo} {k : Nat} : (upTo L k).length ≤ k := by
  unfold upTo
  rw [List.length_map]
  exact Nat.le_trans (List.length_filter_le _ _) (by simp)
theorem badF_rng {V : List Bool} : ∀ {l : List Int} {o : Nat} {z : Int}, z ∈ badF V l o → (o : Int) ≤ z ∧ z < (o + l.length : Nat)
  | [], _, _, h => by cases h
  | x :: l, o, z, h => by
    rw [badF, List.mem_append] at h
    rcases h with h | h
    · split at h
      · rw [List.mem_singleton] at h; subst h; simp; omega
      · cases h
    · have := badF_rng h
      simp only [List.length_cons]
      omega
theorem movs_rng {C : Circ} : ∀ {rs : List (List Bool)} {st : List Bool} {M : Mo}, M ∈ movs C st rs → ∀ x ∈ M.bads, 0 ≤ x ∧ x < C.bads.length
  | [], _, _, h, _, _ => by cases h
  | r :: rs, st, M, h, x, hx => by
    rw [movs] at h
    rcases List.mem_cons.1 h with rfl | h
    · have := badF_rng hx
      omega
    · exact movs_rng h x hx
section
variable {h : Heap} {v : CV} {C : Circ} {w : TV} {T : Tr}
set_option maxRecDepth 4000 in
theorem c7 (r : CIs h v C) (ok : C.Ok) (q : TIs h w T) : CallsH Tryz.prog 7 #[v.v, w.v] h (ReachP C T h) := by
  have q4 := r.len.b
  refine run7 v.mx v.i.a v.i.n v.i.c v.l.a v.l.n v.l.c v.o.a v.o.n v.o.c v.b.a v.b.n v.b.c v.c.a v.c.n v.c.c v.j.a v.j.n v.j.c v.f.a v.f.n v.f.c v.g.a v.g.n v.g.c v.s.a v.s.n v.s.c v.m.a v.m.n v.m.c w.i.a w.i.n w.i.c w.s.a w.s.n w.s.c w.lp _ h ?_
  unfold VC7
  intro h1 h2
  have e1 : Ext h h1 := Ext.box h _
  have e2 : Ext h h2 := e1.trans (Ext.push h1 _)
  have hb : Rd h2 (some ⟨h.size, 0, none⟩) 11 v.cs := (boxC v 29).ext (Ext.push h1 _)
  have hw : Rd h2 (some ⟨h1.size, 0, none⟩) 3 w.cs := boxT w 33
  have bad : ∀ {h' : Heap} {e : Int}, (runQ C T).2.2 = e → e ≠ 0 → Ext h h' → ReachP C T h (.tuple #[.slice none 0 0, .int .i64 e]) h' := fun {h' e} he hne e' => by
    have hR : reachR C T = ([], e) := by unfold reachR; rw [he, if_pos hne]
    exact ⟨e', none, 0, 0, by rw [hR], by rw [hR]; exact .nil⟩
  refine ldC hb (useX (c17 (r.ext e2) ok) fun h3 e3 => ⟨_, _, rfl, fun hz => ?_, fun hz => bad (by unfold runQ runR; rw [if_pos hz, if_pos hz]) hz (e2.trans e3)⟩)
  have e03 := e2.trans e3
  refine ldC (hb.ext e3) (ldT (hw.ext e3) (useX (c18 (r.ext e03) (q.ext e03)) fun h4 e4 => ⟨_, rfl, ?_⟩))
  have e04 := e03.trans e4
  by_cases hf : Fit C T
  rotate_left
  · rw [decide_eq_false hf]
    refine BIf.t (bad ?_ (by simp) e04)
    rw [runQ_nofit hz hf]
  rw [decide_eq_true hf]
  have e24 := e3.trans e4
  refine BIf.f (ldC (hb.ext e24) (ldT (hw.ext e24) ((c19 (r.ext e04) ok hz (q.ext e04) hf).mono ?_)))
  rintro _ h6 ⟨e6, ⟨hq, ma, mn, mc, sa, sn, sc, rfl, mi, rs⟩ | ⟨hq, rfl⟩⟩
  rotate_left
  · exact ⟨_, _, _, _, _, _, _, _, rfl, fun h => absurd h hq, fun _ => bad rfl hq (e04.trans e6)⟩
  refine ⟨_, _, _, _, _, _, _, _, rfl, fun _ => ?_, fun h => absurd rfl h⟩
  have e06 := e04.trans e6
  have hb6 := hb.ext (e24.trans e6)
  obtain ⟨_, _, hQ, _⟩ := runQ_ok hq
  have hRR : reachR C T = (reachL (runQ C T).1, 0) := by unfold reachR; rw [if_neg (by simp [hq])]
  have hrg : ∀ M ∈ (runQ C T).1, ∀ x ∈ M.bads, 0 ≤ x ∧ x < C.bads.length := fun M hM => by rw [hQ] at hM; exact movs_rng hM
  have hbl : ∀ M ∈ (runQ C T).1, M.bads.length ≤ 16384 := fun M hM => by rw [hQ] at hM; exact (movs_mem hz hf.1 hM).2.1
  have ml := mi.len
  have hmn : mn ≤ 512 := by rw [← ml, hQ, movs_len]; exact hf.2.2.1
  have hbd := (chk_bounds hz).2.2.2.2.1
  generalize (runQ C T).1 = L at *
  refine LoopT.to2 (n := v.b.n) (by omega) (fun k s h' => Fr h6 1 h' s.1 s.2.1 s.2.2 (ints (upTo L k))) (.nil (.refl _)) ?_
  rintro k ⟨oa, on, oc⟩ h8 K hk f hK
  dsimp only at f ⊢
  have fl := f.rd.ilen
  have fu := upTo_len (L := L) (k := k)
  refine ⟨_, _, _, (hb6.ext f.ext).fld 4 rfl, fun hlt => ?_, fun hlt => ?_⟩
  · refine LoopT.to2 (n := mn) (by omega) (fun i s h' => s = (oa, on, oc) ∧ Ext h8 h' ∧ ∀ M ∈ L.take i, (k : Int) ∉ M.bads) ⟨rfl, .refl _, by simp⟩ ?_
    rintro i s h10 K2 hi ⟨rfl, e10, hno⟩ hK2
    refine ⟨fun hlt2 => ?_, fun hlt2 => ?_⟩
    · refine ⟨by omega, hlt2, (mi.ext (f.ext.trans e10)).elem (i := i) (by omega) fun ad m hl re mo => ⟨_, _, _, re.fld 2 rfl, use (c20 mo.b (by have := mo.b.ilen; have := hbl _ (List.getElem_mem hl); omega) k) ⟨_, rfl, ?_⟩⟩⟩
      by_cases hm : (k : Int) ∈ L[i].bads
      · rw [decide_eq_true hm]
        refine BIf.t ?_
        intro h13
        refine app1 (f.upd e10) rfl (by omega) fun a' c' h14 f14 => hK _ _ (by omega) ?_
        rw [upTo_yes ⟨_, List.getElem_mem hl, hm⟩, ints, List.map_append]
        exact f14
      · rw [decide_eq_false hm]
        refine BIf.f (hK2 _ _ (by omega) ⟨rfl, e10, fun M hM => ?_⟩)
        rw [List.take_succ_eq_append_getElem hl, List.mem_append, List.mem_singleton] at hM
        rcases hM with hM | rfl
        · exact hno M hM
        · exact hm
    · rw [List.take_of_length_le (by omega)] at hno
      refine hK _ _ (by omega) ?_
      dsimp only
      rw [upTo_no fun ⟨M, hM, hx⟩ => hno M hM hx]
      exact f.upd e10
  · have hkn : k = C.bads.length := by omega
    subst hkn
    have e : upTo L C.bads.length = reachL L := rise_ext upTo_lt (reachL_lt L) fun x => by
      rw [mem_upTo, mem_reachL]
      exact ⟨fun h => h.2.2, fun h => ⟨(hrg _ h.choose_spec.1 _ h.choose_spec.2).1, (hrg _ h.choose_spec.1 _ h.choose_spec.2).2, h⟩⟩
    rw [e] at f
    exact ⟨e06.trans f.ext, _, _, _, by rw [hRR], by rw [hRR]; exact f.rd⟩
end
section
variable {h : Heap} {v : CV} {C : Circ} {w : TV} {T : Tr}
theorem reachR_len {C : Circ} {T : Tr} : (reachR C T).1.length ≤ 8388608 := by
  unfold reachR
  split
  · simp
  · rename_i hz
    obtain ⟨hc, hf, hQ, _⟩ := runQ_ok (Decidable.not_not.1 hz)
    simp only
    unfold reachL
    refine Nat.le_trans Go.Hx.compact_len ?_
    rw [List.length_mergeSort]
    refine Nat.le_trans (bads_len fun M hM => ?_) (show (runQ C T).1.length * 16384 ≤ 8388608 from ?_)
    · rw [hQ] at hM; exact (movs_mem hc hf.1 hM).2.1
    · rw [hQ, movs_len]; have := hf.2.2.1; omega
set_option maxRecDepth 4000 in
theorem c3 (r : CIs h v C) (ok : C.Ok) (q : TIs h w T) (tok : T.Ok) : CallsH Tryz.prog 3 #[v.v, w.v] h (Xt (.bool true) h) := by
  refine run3 v.mx v.i.a v.i.n v.i.c v.l.a v.l.n v.l.c v.o.a v.o.n v.o.c v.b.a v.b.n v.b.c v.c.a v.c.n v.c.c v.j.a v.j.n v.j.c v.f.a v.f.n v.f.c v.g.a v.g.n v.g.c v.s.a v.s.n v.s.c v.m.a v.m.n v.m.c w.i.a w.i.n w.i.c w.s.a w.s.n w.s.c w.lp _ h ?_
  unfold VC3
  intro h1 h2
  have e1 : Ext h h1 := Ext.box h _
  have e2 : Ext h h2 := e1.trans (Ext.push h1 _)
  have hs1 : h1.size = h.size + 1 := by simp [h1]
  have hs2 : h2.size = h.size + 2 := by simp [h2, hs1]
  have hb : Rd h2 (some ⟨h.size, 0, none⟩) 11 v.cs := (boxC v 29).ext (Ext.push h1 _)
  have hw : Rd h2 (some ⟨h1.size, 0, none⟩) 3 w.cs := boxT w 33
  have m := MemU.start (Mem.nil (.refl h2))
  refine ⟨by simp only; omega, ldC hb fun U h3 g => ?_⟩
  have m1 := m.grow g
  refine (c4n (r.ext (e2.trans m1.mem.ext)) ok).mono ?_
  rintro _ h4 ⟨v2, rfl, ln, e4⟩
  obtain ⟨k, m2⟩ := m1.ext e4
  refine ⟨_, _, _, _, _, _, _, _, _, _, _, _, _, _, _, _, _, _, _, _, _, _, _, _, _, _, _, _, _, _, _, rfl, k, by simp only; omega, ldT (hw.ext m2.mem.ext) fun U1 h5 g1 => ?_⟩
  have m3 := m2.grow g1
  refine (c5 (q.ext (e2.trans m3.mem.ext)) tok).mono ?_
  rintro _ h8 ⟨w2, rfl, tn⟩
  obtain ⟨rows, hrows, tm⟩ := tn.ex
  obtain ⟨k, m6⟩ := m3.add tm
  refine ⟨_, _, _, _, _, _, _, rfl, k, fun U3 h9 b g3 hU ho U4 h10 b1 g4 hU1 ho1 U5 h11 g5 => ?_⟩
  have m7 := m6.grow g3
  have hb7 := m7.lt b hU
  have m8 := (m7.take hU hb7.1 (t := ⟨1, some ⟨b, 0, none⟩, 11, 11, CV.zero.cs⟩) ⟨Own.row ho rfl, (fun ad ha => by cases ha; exact hb7.1), m7.mem.ext⟩ fun ad ha => by cases ha; rfl).grow g4
  have hb8 := m8.lt b1 hU1
  have m9 := (m8.take hU1 hb8.1 (t := ⟨1, some ⟨b1, 0, none⟩, 3, 3, TV.zero.cs⟩) ⟨Own.row ho1 rfl, (fun ad ha => by cases ha; exact hb8.1), m8.mem.ext⟩ fun ad ha => by cases ha; rfl).grow g5
  have z1 : h2.size ≤ h3.size := g.size
  have z4 : h3.size ≤ h4.size := e4.1
  have z5 := g1.size
  have z6 : h5.size ≤ h8.size := tm.ext.1
  have z9 := g3.size
  have z10 := g4.size
  have z11 := g5.size
  have av0 : ∀ x, U x → ¬ (h3.size ≤ x ∧ x < h4.size) := fun x hx hh => by have := (m1.lt x hx).2; omega
  have av1 : ∀ x, U1 x → ¬ (h3.size ≤ x ∧ x < h4.size) := fun x hx hh => by
    rcases g1.sup x hx with h | h
    · exact av0 x h hh
    · omega
  have av3 : ∀ x, U3 x → ¬ (h3.size ≤ x ∧ x < h4.size) := fun x hx hh => by
    rcases g3.sup x hx with h | h
    · exact av1 x h hh
    · omega
  have av4 : ¬ (h3.size ≤ b1 ∧ b1 < h4.size) := fun hh => by
    rcases g4.sup b1 hU1 with h | h
    · exact av3 b1 h.1 hh
    · omega
  refine (m9.mem.get 1 rfl).put (ws := v2.cs) rfl (CV.one v2) fun h12 f12 u12 => ⟨u12.1, fun U6 h13 g6 => ?_⟩
  have m10 := (m9.mem.setAt 1 (t' := ⟨1, some ⟨b, 0, none⟩, 11, 11, v2.cs⟩) rfl f12 u12 (.inl rfl)).ext' g6.ext
  refine (m10.get 0 rfl).put (ws := w2.cs) rfl (TV.one w2) fun h14 f14 u14 => ⟨u14.1, ?_⟩
  have m12 := m10.setAt 0 (t' := ⟨1, some ⟨b1, 0, none⟩, 3, 3, w2.cs⟩) rfl f14 u14 (.inl rfl)
  have u4_14 : Upd (fun x => x = b ∨ x = b1) h4 h14 := by
    have ea : Ext h4 h11 := (((g1.ext.trans tm.ext).trans g3.ext).trans g4.ext).trans g5.ext
    have eb : Upd (fun x => x = b ∨ x = b1) h11 h12 := u12.mono fun x _ ⟨ad, ha, e⟩ => by cases ha; exact .inl e
    have ec : Upd (fun x => x = b ∨ x = b1) h13 h14 := u14.mono fun x _ ⟨ad, ha, e⟩ => by cases ha; exact .inr e
    exact (((Upd.wide ea).trans eb).trans (Upd.wide g6.ext)).trans ec
  have li : LIs h14 v2 C := ln _ _ u4_14 fun x hx1 hx2 hx => by
    rcases hx with rfl | rfl
    · exact av3 _ hU ⟨hx1, hx2⟩
    · exact av4 ⟨hx1, hx2⟩
  have own : TNew h2 h14 w2 T := ⟨tn.lp, rows, hrows, m12.sub (by rw [List.append_nil]; exact .cons _ (.cons _ (.refl _)))⟩
  have bv : Rd h14 (some ⟨b, 0, none⟩) 11 v2.cs := (m12.get 1 rfl).rd
  have bw : Rd h14 (some ⟨b1, 0, none⟩) 3 w2.cs := (m12.get 0 rfl).rd
  have e14 : Ext h2 h14 := m12.ext
  clear m12 f14 u14 m10 g6 f12 u12 m9 m8 m7 hb7 hb8 m6 m3 m2 m1 m ln av0 av1 av3 av4 u4_14 k
  have ot := own.tis
  refine ldC bv (ldT bw ((c6 li.cis ok ot).mono ?_))
  rintro _ h15 ⟨e15, xa, xn, xc, rfl, rx⟩
  have x15 := e14.trans e15
  refine ⟨_, _, _, _, rfl, ldC (hb.ext x15) (ldT (hw.ext x15) ((c7 (r.ext (e2.trans x15)) ok (q.ext (e2.trans x15))).mono ?_))⟩
  rintro _ h16 ⟨e16, ya, yn, yc, rfl, ry⟩
  have y16 := e15.trans e16
  have x16 := e14.trans y16
  have hxl := rx.ilen
  have hrl := reachR_len (C := C) (T := T)
  refine ⟨_, _, _, _, rfl, use (c8t (rx.ext e16) ry (by omega)) ⟨true, rfl, BIf.t ⟨fun _ => ?_, fun h => absurd rfl h⟩⟩⟩
  refine ldC (bv.ext y16) (ldC (hb.ext x16) (useX (c9 (li.ext y16) (r.ext (e2.trans x16)) (Circ.Ok.sm ok)) fun h22 e22 => ⟨true, rfl, BIf.t ?_⟩))
  have y22 := y16.trans e22
  have x22 := e14.trans y22
  refine ldT (bw.ext y22) (ldT (hw.ext x22) (useX (c10 (ot.ext y22) (q.ext (e2.trans x22)) (tOk3P tok)) fun h23 e23 => ⟨true, rfl, BIf.t ?_⟩))
  exact useX (c11 h23) fun h24 e24 => ⟨true, rfl, rfl, (e2.trans (x22.trans e23)).trans e24⟩
end
end Go.Proofs.YtpmpacdjcfijbaaGreat
