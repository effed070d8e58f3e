/- Words and facts that the claim's proof leans on. No condition. -/
import Derived.Test.YtpmpacdjcfijbaaSA
/- A run of a circuit. No condition. -/
set_option linter.unusedVariables false
set_option linter.unusedSimpArgs false
namespace Go.Hx
theorem Far.ext {h h1 : Heap} {p q : Nat} {P : Heap → Prop} (f : Far h p q P) (u : Ext h h1) (hq : q ≤ h.size) : Far h1 p q P := f.upd u (fun _ _ _ h => h) hq
structure MosIs (h : Heap) (a : Option Addr) (n c : Nat) (L : List Mo) : Prop where
  len : L.length = n
  cap : n ≤ c
  ex : ∃ ms : List MV, Rd h a (n * 4) (ms.flatMap MV.cs) ∧ ms.length = n ∧ ∀ (k : Nat) m M, ms[k]? = some m → L[k]? = some M → MoIs h m M
theorem MosIs.ext {h h' : Heap} {a : Option Addr} {n c : Nat} {L : List Mo} (r : MosIs h a n c L) (u : Ext h h') : MosIs h' a n c L :=
  let ⟨ms, h1, h2, h3⟩ := r.ex; ⟨r.len, r.cap, ms, h1.ext u, h2, fun k m M hm hM => (h3 k m M hm hM).ext u⟩
theorem MosIs.nil {h : Heap} : MosIs h none 0 0 [] := ⟨rfl, Nat.le_refl _, [], .nil, rfl, fun k m M hm => by simp at hm⟩
theorem MosIs.elem {h : Heap} {a : Option Addr} {n c : Nat} {L : List Mo} (r : MosIs h a n c L) {i : Nat} (hi : i < n) {K : Addr → Prop} (hK : ∀ ad (m : MV) (hl : i < L.length), Rd h (some (ad.add (i * 4))) 4 m.cs → MoIs h m L[i] → K ad) : AtP a K := by
  obtain ⟨ms, h1, h2, h3⟩ := r.ex
  have hl := r.len
  exact h1.elem MV.csl (by omega) (i := i) hi fun ad hl1 re => hK ad ms[i] (by omega) re (h3 i _ _ (List.getElem?_eq_getElem hl1) (List.getElem?_eq_getElem (by omega)))
end Go.Hx
namespace Go.Proofs.Ytpmpacdjcfijbaa
open Go.Hx Go.Deep
noncomputable def movs (C : Circ) : List Bool → List (List Bool) → List Mo
  | _, [] => []
  | st, r :: rs => moOf C st (valsOf C st r) :: movs C (nextL C (valsOf C st r)) rs
theorem movs_len {C : Circ} : ∀ {rs : List (List Bool)} {st : List Bool}, (movs C st rs).length = rs.length
  | [], _ => rfl
  | r :: rs, st => by rw [movs, List.length_cons, List.length_cons, movs_len]
open Classical in
noncomputable def runR (C : Circ) (T : Tr) : List Mo × Int := if (chk C).2 ≠ 0 then ([], (chk C).2) else if Fit C T then (movs C T.init T.ins, 0) else ([], 4)
def RunP (C : Circ) (T : Tr) (h : Heap) (w : Value) (h' : Heap) : Prop := Ext h h' ∧ ∃ a n c, w = .tuple #[.slice a n c, .int .i64 (runR C T).2] ∧ MosIs h' a n c (runR C T).1
section
variable {h : Heap} {v : CV} {C : Circ} {w : TV} {T : Tr}
theorem run_bad {C : Circ} {T : Tr} {h h' : Heap} {e : Int} (he : runR C T = ([], e)) (u : Ext h h') : RunP C T h (.tuple #[.slice none 0 0, .int .i64 e]) h' := ⟨u, none, 0, 0, by rw [he], by rw [he]; exact .nil⟩
theorem c24 (r : CIs h v C) (ok : C.Ok) (q : TIs h w T) : CallsH Try.prog 24 #[v.v, w.v] h (RunP C T h) := by
  have ql := q.i.ilen
  have qs := q.s.len
  have qlp := q.lp
  have q1 := r.len.i
  have q2 := r.len.l
  refine run24 v.mx v.i.a v.i.n v.i.c v.l.a v.l.n v.l.c v.o.a v.o.n v.o.c v.b.a v.b.n v.b.c v.c.a v.c.n v.c.c v.j.a v.j.n v.j.c v.f.a v.f.n v.f.c v.g.a v.g.n v.g.c v.s.a v.s.n v.s.c v.m.a v.m.n v.m.c w.i.a w.i.n w.i.c w.s.a w.s.n w.s.c w.lp _ h ?_
  unfold VC24
  intro h1 h2
  have e1 : Ext h h1 := Ext.box h _
  have e2 : Ext h h2 := e1.trans (Ext.push h1 _)
  have hb : Rd h2 (some ⟨h.size, 0, none⟩) 11 v.cs := (boxC v 29).ext (Ext.push h1 _)
  have hw : Rd h2 (some ⟨h1.size, 0, none⟩) 3 w.cs := boxT w 35
  refine ldC hb ((c55 (r.ext e2) ok).mono ?_)
  rintro _ h3 ⟨e3, ⟨hz, out, k, v2, rfl, rr⟩ | ⟨hz, rfl⟩⟩
  rotate_left
  · exact ⟨_, _, rfl, fun h => absurd h hz, fun _ => run_bad (by unfold runR; rw [if_pos hz]) (e2.trans e3)⟩
  refine ⟨_, _, rfl, fun _ => ?_, fun h => absurd rfl h⟩
  have e03 := e2.trans e3
  have hw3 := hw.ext e3
  have hb3 := hb.ext e3
  have bad : ∀ h', Ext h h' → ¬ Fit C T → RunP C T h (.tuple #[.slice none 0 0, .int .i64 4]) h' := fun h' u hn => run_bad (by unfold runR; rw [if_neg (by simp [hz]), if_neg hn]) u
  refine ⟨_, _, _, hw3.fld 1 rfl, fun k2 => bad _ e03 fun f => by have := f.2.1; omega, fun k2 => ⟨fun k3 => bad _ e03 fun f => by have := f.2.2.1; omega, fun k3 => ⟨_, hw3.fld 2 rfl, fun k4 => bad _ e03 fun f => by have := f.2.2.2.1; omega, fun k4 => ⟨_, hw3.fld 2 rfl, fun k5 => bad _ e03 fun f => by have := f.2.2.2.2.1; omega, fun k5 => ?_⟩⟩⟩⟩
  refine ⟨_, _, _, hw3.fld 0 rfl, _, _, _, hb3.fld 2 rfl, fun k1 => ?_, fun k1 => bad _ e03 fun f => by have := f.1; omega⟩
  refine ⟨_, _, _, hw3.fld 1 rfl, ?_⟩
  have q3 := q.ext e03
  refine LoopT.to (n := w.s.n) (by omega) (fun i h' => h' = h3 ∧ ∀ r ∈ T.ins.take i, r.length = C.ins.length) ⟨rfl, fun r hr => by simp at hr⟩ ?_
  rintro i h3x K hi ⟨hh, hI⟩ hK
  replace hh := hh.symm
  subst hh
  refine ⟨fun hlt => ?_, fun hlt => ?_⟩
  · refine ⟨by omega, hlt, q3.s.get (i := i) (by omega) fun ad hl1 x hc hr hxc hx1 hxn => ⟨_, _, _, hc, _, _, _, hb3.fld 1 rfl, fun e => hK _ (by omega) ⟨rfl, fun r hr => ?_⟩, fun e => bad _ e03 fun f => ?_⟩⟩
    · rw [List.take_succ_eq_append_getElem hl1, List.mem_append] at hr
      rcases hr with hr | hr
      · exact hI r hr
      · rw [List.mem_singleton] at hr; subst hr; omega
    · have := f.2.2.2.2.2 _ (List.getElem_mem hl1)
      omega
  rw [List.take_of_length_le (by omega)] at hI
  have hFit : Fit C T := ⟨by omega, by omega, by omega, by omega, by omega, hI⟩
  clear hK K hlt hi i
  refine ⟨Int.le_refl _, by omega, by omega, ?_⟩
  intro h8
  have f8 : Fr h3 4 h8 (some ⟨h3.size, 0, none⟩) 0 w.s.n (([] : List MV).flatMap MV.cs) := by
    have := Fr.push (sz := 4) (.refl h3) (zeroRow #[.slice none 0 0, .bool false, .slice none 0 0, .slice none 0 0] (w.s.n * 4)) 55 0 w.s.n (Nat.zero_le _) (by simp [zeroRow])
    exact this
  have e8 := f8.ext
  refine ⟨_, _, _, (hw3.ext e8).fld 0 rfl, _, _, _, (hw3.ext e8).fld 1 rfl, ?_⟩
  have hv2 := rr.cis.len.l
  refine LoopT.to3 (n := w.s.n) (by omega) (fun i s z h' => ∃ (ms : List MV) (L : List Mo) (st : List Bool), L ++ movs C st (T.ins.drop i) = movs C T.init T.ins ∧ ms.length = i ∧ L.length = i ∧ s.2.1 = i ∧ st.length = C.lats.length ∧ z.2.1 = v.l.n ∧ Fr h3 4 h' s.1 i s.2.2 (ms.flatMap MV.cs) ∧ Rd h' z.1 z.2.1 (bools st) ∧
    ∀ (k : Nat) m M, ms[k]? = some m → L[k]? = some M → ∃ p q, Far h' p q (fun h'' => MoIs h'' m M) ∧ q ≤ h'.size ∧ ∀ ad, s.1 = some ad → ¬ (p ≤ ad.block ∧ ad.block < q)) ⟨[], [], T.init, rfl, rfl, rfl, rfl, by omega, by simp only; omega, f8, q3.i.ext e8, fun k m M hm => by simp at hm⟩ ?_
  rintro i ⟨oa, on, oc⟩ ⟨za, zn, zc⟩ h10 K hi ⟨ms, L, st, hL, hms, hLl, hon, hst, hzn, f, rz, hfar⟩ hK
  dsimp only at hon hzn f rz hfar ⊢
  subst hon
  have e10 := f.ext
  have rr10 := rr.ext e10
  have hs10 := e10.1
  refine ⟨fun hlt => ?_, fun hlt => ?_⟩
  · refine ⟨by omega, hlt, (q3.s.ext e10).get (i := on) (by omega) fun ad hl1 x hc hr hxc hx1 hxn => ⟨_, _, _, hc, ?_⟩⟩
    have hxl : T.ins[on].length = C.ins.length := hI _ (List.getElem_mem hl1)
    refine (c56 rr10 rz hr (by omega) (by omega)).mono ?_
    rintro _ h11 ⟨va, vc, rfl, f11⟩
    rw [hx1] at f11
    refine ⟨_, _, _, rfl, (c57 (rr10.ext f11.ext) (rz.ext f11.ext) (by have := (chk_bounds hz).2.2.1; omega) (Rd.one f11.own.rd) rfl).mono ?_⟩
    rintro _ h12 ⟨m, rfl, e12, mn⟩
    refine ⟨_, _, _, _, _, _, _, _, _, _, rfl, ?_⟩
    intro h13
    have e13 : Ext h12 h13 := Ext.push h12 _
    have r13 := (Fr.lit (.refl h12) m.cs 55 4 rfl).rd
    have e10_13 := (f11.ext.trans e12).trans e13
    have z1 := f11.ext.1
    have z2 := e12.1
    have z3 := e13.1
    have olt : ∀ ad, oa = some ad → ad.block < h10.size := fun ad ha => by have := f.own; rw [ha] at this; exact this.lt
    refine ⟨m.cs, r13.read, rfl, (f.upd e10_13).app rfl (MV.one m) (by omega) fun a' c' h14 f14 u14 hor => ?_⟩
    have rv14 : Rd h14 va (C.mx + 1).toNat (bools (valsOf C st T.ins[on])) := ((Rd.one f11.own.rd).ext (e12.trans e13)).upd u14 fun ad ha ⟨ad', ha', e⟩ => by
      have := f11.new ad ha
      have := olt ad' ha'
      omega
    have e14 : Ext h3 h14 := f14.ext
    refine (c58 (rr.ext e14) rv14 rfl).mono ?_
    rintro _ h15 ⟨na, nc, rfl, f15⟩
    refine ⟨_, _, _, rfl, hK _ _ _ (by omega) ⟨ms ++ [m], L ++ [moOf C st (valsOf C st T.ins[on])], nextL C (valsOf C st T.ins[on]), ?_, by simp [hms], by simp [hLl], rfl, by simp [nextL], by simp only; omega, ?_, Rd.one f15.own.rd, ?_⟩⟩
    · rw [← hL, List.drop_eq_getElem_cons hl1, movs, List.append_assoc]; rfl
    · have : (ms ++ [m]).flatMap MV.cs = ms.flatMap MV.cs ++ m.cs := by simp [List.flatMap_append]
      rw [this]
      exact f14.upd f15.ext
    · intro k m' M' hm hM
      have z4 := u14.1
      rcases Nat.lt_or_ge k on with hk | hk
      · rw [List.getElem?_append_left (by omega)] at hm hM
        obtain ⟨p, q, hf, hq, hno⟩ := hfar k m' M' hm hM
        refine ⟨p, q, ((hf.ext e10_13 hq).upd u14 (fun b h1 h2 ⟨ad, ha, e⟩ => hno ad ha (by omega)) (by omega)).ext f15.ext (by omega), by have := f15.ext.1; omega, fun ad ha hh => ?_⟩
        replace ha : a' = some ad := ha
        rcases hor with rfl | ⟨ad', ha', hge⟩
        · exact hno ad ha hh
        · rw [ha] at ha'
          obtain rfl := Option.some.inj ha'
          omega
      · have hk2 : k = on := by
          have := (List.getElem?_eq_some_iff.1 hm).1
          simp at this; omega
        subst hk2
        rw [List.getElem?_append_right (by omega)] at hm hM
        simp [hms] at hm
        simp [hLl] at hM
        subst hm hM
        refine ⟨h11.size, h12.size, ((Far.ext mn e13 (Nat.le_refl _)).upd u14 (fun b h1 h2 ⟨ad, ha, e⟩ => by have := olt ad ha; omega) (by omega)).ext f15.ext (by omega), by have := f15.ext.1; omega, fun ad ha hh => ?_⟩
        replace ha : a' = some ad := ha
        rcases hor with rfl | ⟨ad', ha', hge⟩
        · have := olt ad ha; omega
        · rw [ha] at ha'
          obtain rfl := Option.some.inj ha'
          omega
  · have hin : on = w.s.n := by omega
    subst hin
    have hd : T.ins.drop w.s.n = [] := List.drop_of_length_le (by omega)
    rw [hd, movs, List.append_nil] at hL
    have hR : runR C T = (movs C T.init T.ins, 0) := by unfold runR; rw [if_neg (by simp [hz]), if_pos hFit]
    refine ⟨e03.trans e10, oa, w.s.n, oc, by rw [hR], ?_⟩
    rw [hR, ← hL]
    exact ⟨hLl, f.own.cap, ms, f.own.rd, hms, fun k m M hm hM => (hfar k m M hm hM).choose_spec.choose_spec.1.now⟩
end
end Go.Proofs.Ytpmpacdjcfijbaa
/- A step by itself; who may begin; a run that is one. No condition. -/
set_option linter.unusedVariables false
set_option linter.unusedSimpArgs false
namespace Go.Proofs.Ytpmpacdjcfijbaa
open Go.Hx Go.Deep
section
variable {h : Heap} {v : CV} {C : Circ} {sa ra : Option Addr} {sn sc rn rc : Nat} {st row : List Bool}
end
theorem runR_ok {C : Circ} {T : Tr} (h : (runR C T).2 = 0) : (chk C).2 = 0 ∧ Fit C T ∧ runR C T = (movs C T.init T.ins, 0) := by
  unfold runR at h ⊢
  split at h
  · rename_i hc; exact absurd h hc
  · rename_i hc
    split at h
    · rename_i hf
      rw [if_neg hc, if_pos hf]
      exact ⟨Decidable.not_not.1 hc, hf, rfl⟩
    · simp at h
section
variable {h : Heap} {v : CV} {C : Circ} {w : TV} {T : Tr} {sa : Option Addr} {sn sc : Nat} {st : List Bool}
end
end Go.Proofs.Ytpmpacdjcfijbaa
/- A justice property is broken. No condition. -/
set_option linter.unusedVariables false
set_option linter.unusedSimpArgs false
namespace Go.Proofs.Ytpmpacdjcfijbaa
open Go.Hx Go.Deep
theorem movs_mem {C : Circ} (hc : (chk C).2 = 0) : ∀ {rs : List (List Bool)} {st : List Bool} {M : Mo}, st.length = C.lats.length → M ∈ movs C st rs → M.st.length = C.lats.length ∧ M.bads.length ≤ 16384 ∧ M.fair.length ≤ 32768
  | [], _, _, _, hM => by cases hM
  | r :: rs, st, M, hs, hM => by
    rw [movs] at hM
    rcases List.mem_cons.1 hM with rfl | hM
    · have b := chk_bounds hc
      refine ⟨hs, ?_, ?_⟩
      · have := badF_len (V := valsOf C st r) (l := C.bads) (i := 0)
        simp only [moOf]
        omega
      · have h1 := justF_len (V := valsOf C st r) (l := C.just) (i := 0)
        have h2 := fairF_len (a := -1) (V := valsOf C st r) (l := C.fair) (i := 0)
        simp only [moOf, List.length_append]
        omega
    · exact movs_mem hc (by simp [nextL]) hM
abbrev mkey (p : Mk) : Value := .agg #[.int .i64 p.1, .int .i64 p.2]
section
variable {h : Heap} {v : CV} {C : Circ} {w : TV} {T : Tr}
/-- What the counts say. -/
structure Cnt (h : Heap) (b cnt : Nat) (M : List (Mk × Int)) (P : Mk → Prop) : Prop where
  map : IsM mkey (Value.int .i64) h b M
  no : ∀ s, atM M s = none ↔ ¬ P s
  pos : ∀ s t, atM M s = some t → 1 ≤ t ∧ t ≤ cnt
theorem Cnt.step {h : Heap} {b cnt : Nat} {M : List (Mk × Int)} {P : Mk → Prop} (s : Cnt h b cnt M P) (hc : cnt ≤ 1000000000) (x : Mk) (hbx : Nat) (hne : hbx ≠ b) (hbc : ∃ t16 t17 : Int, cellsH h ⟨hbx, 0, none⟩ 0 [.int .i64 t16, .int .i64 t17] ∧ x = (t16, t17))
    {next : Heap → Prop} (hK : ∀ h' M', Upd (fun i => i = b) h h' → Cnt h' b (cnt + 1) M' (fun y => P y ∨ y = x) → next h') :
    ∃ zn : Zone, Zone.has zn h hbx ∧ ∃ (t16 : Int), ∃ (t17 : Int), cellsH h ⟨hbx, 0, none⟩ 0 [.int .i64 t16, .int .i64 t17] ∧ MapLookW zn (.flat [.int .i64, .int .i64]) (.agg #[.int .i64 t16, .int .i64 t17]) (.int .i64 0) h (some b) (MapEnt (.flat [.int .i64, .int .i64]) (.int .i64 0) (.agg #[.int .i64 t16, .int .i64 t17]) h (some b) (fun st h_17 => Zone.r zn h h_17 ∧ MapSet st (.int .i64 (IntKind.wrap .i64 (0 + 1))) h_17 (some b) next) (fun u st1 h_19 => ∃ (t18 : Int), u = .int .i64 t18 ∧ Zone.r zn h h_19 ∧ MapSet st1 (.int .i64 (IntKind.wrap .i64 (0 + 1))) h_19 (some b) next)) fun look =>
      ∃ (t19 : Int), look (.int .i64 t19) ∧ MapEnt (.flat [.int .i64, .int .i64]) (.int .i64 0) (.agg #[.int .i64 t16, .int .i64 t17]) h (some b) (fun st2 h_21 => Zone.r zn h h_21 ∧ MapSet st2 (.int .i64 (IntKind.wrap .i64 (t19 + 1))) h_21 (some b) next) (fun u1 st3 h_23 => ∃ (t20 : Int), u1 = .int .i64 t20 ∧ Zone.r zn h h_23 ∧ MapSet st3 (.int .i64 (IntKind.wrap .i64 (t19 + 1))) h_23 (some b) next) := by
  obtain ⟨t16, t17, hcc, rfl⟩ := hbc
  have kr := KeyR.two .i64
  have key : ∀ h2 M2 (z : Int), (z = 1 ∧ atM M (t16, t17) = Option.none ∨ ∃ u, atM M (t16, t17) = some u ∧ z = u + 1) → IsM mkey (Value.int .i64) h2 b (putM M (t16, t17) z) → M2 = putM M (t16, t17) z → Cnt h2 b (cnt + 1) M2 (fun y => P y ∨ y = (t16, t17)) := fun h2 M2 z hz hm e => by
    subst e
    refine ⟨hm, fun y => ?_, fun y t ht => ?_⟩
    · rw [atM_putM]
      split
      · rename_i hy
        exact iff_of_false (by simp) (by simp [hy])
      · rename_i hy
        rw [s.no y]
        simp [hy]
    · rw [atM_putM] at ht
      split at ht
      · obtain rfl := Option.some.inj ht
        rcases hz with ⟨rfl, _⟩ | ⟨u, hu, rfl⟩
        · omega
        · have := s.pos _ _ hu; omega
      · have := s.pos y t ht; omega
  refine ⟨⟨fun a c => (∀ j, j < h.size → j ≠ b → c[j]? = a[j]?) ∧ ∀ u, LookAs (.flat [.int .i64, .int .i64]) (mkey (t16, t17)) (.int .i64 0) a b u ↔ LookAs (.flat [.int .i64, .int .i64]) (mkey (t16, t17)) (.int .i64 0) c b u,
    fun a => ⟨fun _ _ _ => rfl, fun _ => .rfl⟩, fun hh => ⟨fun j hj hn => (hh.1 j hj hn).symm, fun u => (hh.2 u).symm⟩, fun hh kk => ⟨fun j hj hn => (kk.1 j hj hn).trans (hh.1 j hj hn), fun u => (hh.2 u).trans (kk.2 u)⟩⟩, ?_⟩
  have hlt : hbx < h.size := cellH_lt (a := ⟨hbx, 0, none⟩) (by have := hcc.1; rwa [addr_add0] at this)
  refine ⟨fun h' hh => hh.1 _ hlt hne, t16, t17, hcc, ?_⟩
  refine ⟨(atM M (t16, t17)).getD 0, fun h' hh => (hh.2 _).1 ((s.map.lookAs kr (t16, t17) 0 _).2 rfl), ?_⟩
  refine s.map.ent kr (t16, t17) 0 (fun hnone st h7 u7 m7 hset => ⟨⟨fun j hj hn => u7.2 j hj hn, fun u => ?_⟩, ?_⟩) (fun u hu st h7 u7 m7 hset => ⟨u, rfl, ⟨fun j hj hn => u7.2 j hj hn, fun u => ?_⟩, ?_⟩)
  · rw [s.map.lookAs kr (t16, t17) 0 u, m7.lookAs kr (t16, t17) 0 u, hnone]
    have : atM (M ++ [((t16, t17), (0 : Int))]) (t16, t17) = some 0 := by
      unfold atM at hnone ⊢
      rw [List.find?_append]
      rw [Option.map_eq_none_iff] at hnone
      rw [hnone]
      simp
    rw [this]; rfl
  · rw [hnone, show IntKind.wrap .i64 ((Option.none : Option Int).getD 0 + 1) = 1 from rfl]
    exact hset 1 _ fun h8 m8 u8 => hK h8 _ (u7.trans u8) (key h8 _ 1 (.inl ⟨rfl, hnone⟩) m8 rfl)
  · rw [s.map.lookAs kr (t16, t17) 0 u, m7.lookAs kr (t16, t17) 0 u]
  · rw [hu]
    have hp := s.pos _ _ hu
    rw [show IntKind.wrap .i64 ((some u).getD 0 + 1) = u + 1 from w64 (by simp only [Option.getD_some]; omega) (by simp only [Option.getD_some]; omega)]
    exact hset (u + 1) _ fun h8 m8 u8 => hK h8 _ (u7.trans u8) (key h8 _ (u + 1) (.inr ⟨u, hu, rfl⟩) m8 rfl)
end
end Go.Proofs.Ytpmpacdjcfijbaa
