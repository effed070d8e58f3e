/- Words and facts that the claim's proof leans on. No condition. -/
import Derived.Test.YtpmpacdjcfijbaaGreatSI
import Derived.Test.YtpmpacdjcfijbaaGreatCAh
/- The document's runner: literals, values, moments. No condition. -/
set_option linter.unusedVariables false
set_option linter.unusedSimpArgs false
namespace Go.Proofs.YtpmpacdjcfijbaaGreat
open Go.Hx Go.Deep
section
variable {h h0 : Heap} {v : CV} {C : Circ} {V : List Bool} {a : Option Addr} {n c : Nat}
theorem c82 (r : Rd h a n (bools V)) {l : Int} (h0 : 0 ≤ l) (h1 : l ≤ 1000000) (hl : (l / 2).toNat < n) : CallsH Tryz.prog 82 #[.slice a n c, .int .i64 l] h (Ret (.bool (lit V l)) h) := by
  refine run82 a n c l _ h ?_
  unfold VC82
  have hd : Int.tdiv l 2 = l / 2 := Int.tdiv_eq_ediv_of_nonneg h0
  have hm : Int.tmod l 2 = l % 2 := Int.tmod_eq_emod_of_nonneg h0
  have wd : IntKind.wrap .i64 (Int.tdiv l 2) = l / 2 := by rw [hd]; exact w64 (by omega) (by omega)
  rw [wd, hm]
  refine ⟨by omega, by omega, r.geti (j := l / 2) (by omega) (by omega) fun ad hl2 hc => ⟨_, hc, ?_⟩⟩
  have e : lit V l = (V[(l / 2).toNat] != decide (l % 2 = 1)) := by unfold lit; rw [List.getD_eq_getElem?_getD, List.getElem?_eq_getElem hl2]; rfl
  rw [e]
  exact ⟨fun h1 => ⟨fun h2 => ⟨lt1 h1 h2, rfl⟩, fun h2 => ⟨lt2 h1 h2, rfl⟩⟩, fun h1 => ⟨fun h2 => ⟨lt3 h1 h2, rfl⟩, fun h2 => ⟨lt4 h1 h2, rfl⟩⟩⟩
theorem c83 (r : Rd h a n (bools V)) {la : Option Addr} {ln lc : Nat} {l : List Int} (rl : Rd h la ln (ints l)) (hln : ln < 9223372036854775807) (hl : ∀ x ∈ l, 0 ≤ x ∧ x ≤ 1000000 ∧ (x / 2).toNat < n) : CallsH Tryz.prog 83 #[.slice a n c, .slice la ln lc] h (Ret (.bool (l.all (lit V))) h) := by
  have hll := rl.ilen
  refine run83 a n c la ln lc _ h (LoopT.to (n := ln) hln (fun i h' => h' = h ∧ ∀ x ∈ l.take i, lit V x = true) ⟨rfl, by simp⟩ ?_)
  rintro i _ K hi ⟨rfl, hI⟩ hK
  refine ⟨fun hlt => ⟨by omega, hlt, rl.getn (i := i) (by omega) fun ad2 hl1 hc => ⟨_, hc, ?_⟩⟩, fun hlt => ⟨?_, rfl⟩⟩
  · obtain ⟨k1, k2, k3⟩ := hl _ (List.getElem_mem hl1)
    refine use (c82 r k1 k2 k3) ⟨_, rfl, ?_⟩
    cases hx : lit V l[i] with
    | true => exact BIf.f (hK _ (by omega) ⟨rfl, fun x hx' => by
        rw [List.take_succ_eq_append_getElem hl1, List.mem_append, List.mem_singleton] at hx'
        rcases hx' with hx' | rfl
        · exact hI x hx'
        · exact hx⟩)
    | false =>
      refine BIf.t ⟨?_, rfl⟩
      have : l.all (lit V) = false := by
        rw [List.all_eq_false]
        exact ⟨_, List.getElem_mem hl1, by rw [hx]; simp⟩
      rw [this]
  · rw [List.take_of_length_le (by omega)] at hI
    rw [List.all_eq_true.2 hI]
theorem c66 (r : CIs h v C) (hc : (chk C).2 = 0) (rv : Rd h a n (bools V)) (hn : n = (C.mx + 1).toNat) : CallsH Tryz.prog 66 #[v.v, .slice a n c] h fun w h' => ∃ a' c', w = .slice a' v.l.n c' ∧ Fr h 1 h' a' v.l.n c' (bools (nextL C V)) := by
  obtain ⟨⟨b0, b1⟩, b2, b3, b4, b5, b6, b7, b8, b9, b10, b11, b12⟩ := chk_bounds hc
  obtain ⟨l1, _⟩ := good_lits hc
  have q2 := r.len.l
  refine run66 v.mx v.i.a v.i.n v.i.c v.l.a v.l.n v.l.c v.o.a v.o.n v.o.c v.b.a v.b.n v.b.c v.c.a v.c.n v.c.c v.j.a v.j.n v.j.c v.f.a v.f.n v.f.c v.g.a v.g.n v.g.c v.s.a v.s.n v.s.c v.m.a v.m.n v.m.c a n c _ h ?_
  unfold VC66
  intro h1
  have e1 : Ext h h1 := Ext.box h _
  have hb : Rd h1 (some ⟨h.size, 0, none⟩) 11 v.cs := boxC v 29
  refine ⟨_, _, _, hb.fld 2 rfl, by omega, Int.le_refl _, by omega, ?_⟩
  intro h2
  have fz : Fr h1 1 h2 (some ⟨h1.size, 0, none⟩) v.l.n v.l.n (bools (List.replicate v.l.n false)) := by rw [← boolsD]; exact Fr.zeros _ _ _
  have bset : ∀ (V : List Bool) (j : Nat) (b : Bool), (bools V).set j (.bool b) = bools (V.set j b) := fun V j b => by rw [bools, bools, List.map_set]
  refine LoopT.to (n := v.l.n) (by omega) (fun i h' => ∃ L : List Bool, L.length = v.l.n ∧ L.take i = (nextL C V).take i ∧ Fr h1 1 h' (some ⟨h1.size, 0, none⟩) v.l.n v.l.n (bools L)) ⟨_, by simp, by simp, fz⟩ ?_
  rintro i h3 K hi ⟨L, hLl, hLt, f2⟩ hK
  have hb3 := hb.ext f2.ext
  have e3 := e1.trans f2.ext
  refine ⟨_, _, _, hb3.fld 2 rfl, fun hlt => ?_, fun hlt => ?_⟩
  · refine ⟨_, _, _, hb3.fld 2 rfl, by omega, hlt, (r.l.ext e3).elem L3.csl (by omega) (i := i) (by omega) fun ad hl1 re => ⟨_, re.fld 1 rfl, ?_⟩⟩
    have hx := l1 _ (List.getElem_mem hl1)
    refine use (c82 (rv.ext e3) hx.1 (by omega) (by omega)) ⟨_, rfl, by omega, by simp only [Int.toNat_natCast]; omega, ?_⟩
    refine f2.at1 (j := (i : Int)) (by omega) (by omega) rfl fun h4 u4 f4 => hK _ (by omega) ⟨L.set i (lit V C.lats[i].b), by simpa using hLl, ?_, by rw [bset] at f4; exact f4⟩
    have hnl : i < (nextL C V).length := by simpa [nextL] using hl1
    rw [List.take_succ_eq_append_getElem (by simp; omega), List.take_succ_eq_append_getElem hnl, List.getElem_set_self, List.take_set_of_le (Nat.le_refl _), hLt]
    congr 1
    simp [nextL]
  · have e : L = nextL C V := by
      rw [List.take_of_length_le (by omega), List.take_of_length_le (by simp [nextL]; omega)] at hLt
      exact hLt
    subst e
    exact ⟨_, _, rfl, f2.base e1⟩
set_option maxRecDepth 4000 in
theorem c64 {out : List Nat} {st row : List Bool} (r : CIs h v C) (g : GoodC C out) {oa sa ra : Option Addr} {oc sn sc rn rc : Nat} (ro : Rd h oa out.length (ints (nI out))) (rs : Rd h sa sn (bools st)) (rw' : Rd h ra rn (bools row)) (hs : sn = C.lats.length) (hr : rn = C.ins.length) :
    CallsH Tryz.prog 64 #[v.v, .slice oa out.length oc, .slice sa sn sc, .slice ra rn rc] h fun w h' => ∃ a c, w = .slice a (C.mx + 1).toNat c ∧ Fr h 1 h' a (C.mx + 1).toNat c (bools (valsOf C st row)) := by
  obtain ⟨q1, q2, q3, q4, q5, q6, q7, q8, q9, q10⟩ := r.len
  have hmx := r.mx
  obtain ⟨⟨b0, b1⟩, b2, b3, b4, b5, b6, b7, b8, b9, b10, b11, b12⟩ := chk_bounds g.chk
  have d := dn g.chk
  have gk := gok g.chk
  have hsl : st.length = sn := rs.ilen
  have hrl : row.length = rn := rw'.ilen
  refine run64 v.mx v.i.a v.i.n v.i.c v.l.a v.l.n v.l.c v.o.a v.o.n v.o.c v.b.a v.b.n v.b.c v.c.a v.c.n v.c.c v.j.a v.j.n v.j.c v.f.a v.f.n v.f.c v.g.a v.g.n v.g.c v.s.a v.s.n v.s.c v.m.a v.m.n v.m.c oa out.length oc sa sn sc ra rn rc _ h ?_
  unfold VC64
  intro h1
  have e1 : Ext h h1 := Ext.box h _
  have hb : Rd h1 (some ⟨h.size, 0, none⟩) 11 v.cs := boxC v 29
  refine ⟨_, hb.fld 0 rfl, ?_⟩
  have w1 : IntKind.wrap .i64 (v.mx + 1) = C.mx + 1 := by rw [hmx]; exact w64 (by omega) (by omega)
  rw [w1]
  refine ⟨by omega, Int.le_refl _, by omega, ?_⟩
  intro h2
  have fz : Fr h1 1 h2 (some ⟨h1.size, 0, none⟩) (C.mx + 1).toNat (C.mx + 1).toNat (bools (List.replicate (C.mx + 1).toNat false)) := by rw [← boolsD]; exact Fr.zeros _ _ _
  have bset : ∀ (V : List Bool) (j : Nat) (b : Bool), (bools V).set j (.bool b) = bools (V.set j b) := fun V j b => by rw [bools, bools, List.map_set]
  have wd : ∀ l : Int, 0 ≤ l → l ≤ 1000000 → IntKind.wrap .i64 (Int.tdiv l 2) = l / 2 := fun l h0 h1 => by rw [Int.tdiv_eq_ediv_of_nonneg h0]; exact w64 (by omega) (by omega)
  refine LoopT.to (n := v.i.n) (by omega) (fun i h' => ∃ V, V1 C (defs C).2.2 st row V i ∧ Fr h1 1 h' (some ⟨h1.size, 0, none⟩) (C.mx + 1).toNat (C.mx + 1).toNat (bools V)) ⟨_, V1.start d, fz⟩ ?_
  rintro i h4 K hi ⟨V, s1, f4⟩ hK
  have e4 := e1.trans f4.ext
  have hb4 := hb.ext f4.ext
  refine ⟨_, _, _, hb4.fld 1 rfl, fun hlt => ?_, fun hlt => ?_⟩
  · refine ⟨_, _, _, hb4.fld 1 rfl, by omega, hlt, (r.i.ext e4).getn (i := i) (by omega) fun ad hl1 hc => ⟨_, hc, by omega, by omega, (rw'.ext e4).getn (i := i) (by omega) fun ad2 hl2 hc2 => ⟨_, hc2, ?_⟩⟩⟩
    obtain ⟨k1, k2, k3, k4⟩ := d.i i _ (List.getElem?_eq_getElem hl1)
    rw [wd _ (by omega) (by omega)]
    refine ⟨by omega, by omega, f4.at1 (j := C.ins[i] / 2) (by omega) (by omega) rfl fun h5 u5 f5 => hK _ (by omega) ⟨_, s1.step d (List.getElem?_eq_getElem hl1) (List.getElem?_eq_getElem hl2), ?_⟩⟩
    rw [bset] at f5; exact f5
  have hin : i = C.ins.length := by omega
  subst hin
  refine LoopT.to (n := v.l.n) (by omega) (fun i h' => ∃ V, V2 C (defs C).2.2 st row V i ∧ Fr h1 1 h' (some ⟨h1.size, 0, none⟩) (C.mx + 1).toNat (C.mx + 1).toNat (bools V)) ⟨_, s1.done d, f4⟩ ?_
  clear s1 f4 hK K V hlt e4 hb4
  rintro i h4 K hi ⟨V, s1, f4⟩ hK
  have e4 := e1.trans f4.ext
  have hb4 := hb.ext f4.ext
  refine ⟨_, _, _, hb4.fld 2 rfl, fun hlt => ?_, fun hlt => ?_⟩
  · refine ⟨_, _, _, hb4.fld 2 rfl, by omega, hlt, (r.l.ext e4).elem L3.csl (by omega) (i := i) (by omega) fun ad hl1 re => ⟨_, re.fld 0 rfl, by omega, by omega, (rs.ext e4).getn (i := i) (by omega) fun ad2 hl2 hc2 => ⟨_, hc2, ?_⟩⟩⟩
    obtain ⟨k1, k2, k3, k4⟩ := d.l i _ (List.getElem?_eq_getElem hl1)
    rw [wd _ (by omega) (by omega)]
    refine ⟨by omega, by omega, f4.at1 (j := C.lats[i].a / 2) (by omega) (by omega) rfl fun h5 u5 f5 => hK _ (by omega) ⟨_, s1.step d (List.getElem?_eq_getElem hl1) (List.getElem?_eq_getElem hl2), ?_⟩⟩
    rw [bset] at f5; exact f5
  have hin : i = C.lats.length := by omega
  subst hin
  have hol : out.length ≤ C.ands.length := nodup_len _ _ g.topo.nd g.topo.lt
  refine LoopT.to (n := out.length) (by omega) (fun i h' => ∃ V, V3 C (defs C).2.2 st row V out i ∧ Fr h1 1 h' (some ⟨h1.size, 0, none⟩) (C.mx + 1).toNat (C.mx + 1).toNat (bools V)) ⟨_, s1.done d out, f4⟩ ?_
  clear s1 f4 hK K V hlt e4 hb4
  rintro i h4 K hi ⟨V, s1, f4⟩ hK
  have e4 := e1.trans f4.ext
  have hb4 := hb.ext f4.ext
  refine ⟨fun hlt => ?_, fun hlt => ?_⟩
  · have hio : i < out.length := by omega
    have hog : out[i] < C.ands.length := g.topo.lt _ (List.getElem_mem hio)
    have blt : ∀ k, (Addr.add ⟨h.size, 0, none⟩ k).block < h4.size := fun k => by rw [add_block]; have := f4.ext.1; have := e1.1; simp only; have : h1.size = h.size + 1 := by simp [h1]
                                                                                  omega
    unfold J64_5
    rw [w1]
    refine ⟨blt 8, _, _, _, hb4.fld 8 rfl, by omega, hlt, (ro.ext e4).getn (i := i) (by omega) fun ad hl1 hc => ⟨cellH_lt hc, _, hc, ?_⟩⟩
    rw [nI_at hio]
    refine ⟨by omega, by omega, (r.g.ext e4).elem L3.csl (by omega) (i := out[i]) (by omega) fun ad2 hl2 re => ⟨?_, _, _, _, re.cells, ?_⟩⟩
    · have := cellH_lt (re.fld 0 rfl)
      rwa [add_block] at this
    have hux := gk.lits _ (List.getElem_mem hl2)
    have hx : C.ands[out[i]]? = some C.ands[out[i]] := List.getElem?_eq_getElem hl2
    obtain ⟨k1, k2, k3, k4⟩ := d.g _ _ hx
    generalize C.ands[out[i]] = x at *
    intro h12
    refine ⟨fun b hb => (Ext.push h4 _).2 b hb fun x => x, ?_⟩
    refine boxN (zs := [.int .i64 0, .int .i64 0, .int .i64 0]) (ws := L3.cs x) rfl (by simp [Value.oneCell']) fun h5 e5 b5 => ?_
    have f5 := f4.upd e5
    have z5 : h4.size < h5.size := cellH_lt (b5.fld 0 rfl) |> fun h => by rw [add_block] at h; exact h
    have rV : Rd h5 (some ⟨h1.size, 0, none⟩) (C.mx + 1).toNat (bools V) := Rd.one f5.own.rd
    have fin : ∀ b : Bool, b = (lit V x.b && lit V x.c) → 0 ≤ IntKind.wrap .i64 (Int.tdiv x.a 2) ∧ IntKind.wrap .i64 (Int.tdiv x.a 2) < ((C.mx + 1).toNat : Nat) ∧ StoreH h5 (Addr.add ⟨h1.size, 0, none⟩ (Int.toNat (IntKind.wrap .i64 (Int.tdiv x.a 2)) * 1)) [.bool b] fun h17 => K (IntKind.wrap .i64 (i + 1)) h17 := fun b hb => by
      rw [wd _ (by omega) (by omega)]
      refine ⟨by omega, by omega, f5.at1 (j := x.a / 2) (by omega) (by omega) rfl fun h6 u6 f6 => hK _ (by omega) ⟨_, s1.step d g.topo hio hx, ?_⟩⟩
      rw [bset, hb] at f6; exact f6
    refine ⟨by rw [add_block]; exact z5, _, b5.fld 0 rfl, by rw [add_block]; exact z5, _, b5.fld 1 rfl, use (c82 rV hux.1.1 (by omega) (by omega)) ⟨_, rfl, fun b hb => rfl, ?_⟩⟩
    cases hb1 : lit V x.b with
    | true => exact ⟨by rw [add_block]; exact z5, _, b5.fld 2 rfl, use (c82 rV hux.2.1 (by omega) (by omega)) ⟨_, rfl, fun b hb => rfl, fin _ (by rw [hb1]; rfl)⟩⟩
    | false => exact fin _ (by rw [hb1]; rfl)
  · have hin : i = out.length := by omega
    subst hin
    have hV := s1.done d (g.all gk)
    rw [valsOf_eq g (by omega) (by omega) hV]
    unfold J64_4
    rw [w1]
    exact ⟨_, _, rfl, f4.base e1⟩
end
end Go.Proofs.YtpmpacdjcfijbaaGreat
/- The document's moments. No condition. -/
set_option linter.unusedVariables false
set_option linter.unusedSimpArgs false
namespace Go.Proofs.YtpmpacdjcfijbaaGreat
open Go.Hx Go.Deep
/-- A place is put behind the fair ones. -/
theorem MB.spot {h0 h : Heap} {b : Addr} {m : MV} {M : Mo} (mb : MB h0 h b m M) (hl : M.fair.length ≤ 1000000) (p q : Int) {K : Heap → Prop} (hK : ∀ h' m', MB h0 h' b m' { M with fair := M.fair ++ [(p, q)] } → K h') :
    ∃ (A : Option Addr), ∃ (N : Nat), ∃ (C : Nat), cellH h (b.add 3) = some (.slice A N C) ∧ let h3 : Heap := h.push (.cells #[.int .i64 p, .int .i64 q] 120); ∃ ys : List Value, ReadL h3 (some (Addr.mk h.size 0 none)) ys ∧ ys.length = 1 * 2 ∧
      AppS h3 A N C 120 16 2 #[.int .i64 0, .int .i64 0] ys 1 fun apA apN apC h4 => StoreH h4 (b.add 3) [.slice apA apN apC] K := by
  refine ⟨_, _, _, mb.fld 3 rfl, ?_⟩
  intro h3
  have e3 : Ext h h3 := Ext.push h _
  have r3 := (Fr.lit (.refl h) (cs2 (p, q)) 120 2 rfl).rd
  have m3 := mb.mem.ext' e3
  have fn := (m3.get 3 rfl).own.rd.elen cs2l (by omega)
  refine ⟨cs2 (p, q), r3.read, rfl, (m3.get 3 rfl).app rfl (by simp [Value.oneCell']) (by omega) fun a' c' h4 f4 u4 hor => ?_⟩
  have m4 := m3.setAt 3 (t' := ⟨2, a', m.f.n + 1, c', _⟩) rfl f4 u4 hor
  refine (m4.get 0 rfl).cellAt 3 (by omega) rfl fun h5 u5 f5 => hK _ { m with f := ⟨a', m.f.n + 1, c'⟩ } ⟨mb.ok, ?_⟩
  have m5 := m4.setAt 0 (t' := ⟨1, some b, 4, 4, _⟩) rfl f5 u5 (.inl rfl)
  simp only [List.set_cons_succ, List.set_cons_zero] at m5
  have e : M.fair.flatMap cs2 ++ cs2 (p, q) = (M.fair ++ [(p, q)]).flatMap cs2 := by simp [List.flatMap_append]
  rw [e] at m5
  exact m5
theorem MB.bad {h0 h : Heap} {b : Addr} {m : MV} {M : Mo} (mb : MB h0 h b m M) (hl : M.bads.length ≤ 1000000) (p : Int) {K : Heap → Prop} (hK : ∀ h' m', MB h0 h' b m' { M with bads := M.bads ++ [p] } → K h') :
    ∃ (A : Option Addr), ∃ (N : Nat), ∃ (C : Nat), cellH h (b.add 2) = some (.slice A N C) ∧ let h3 : Heap := h.push (.cells #[.int .i64 p] 3); ∃ ys : List Value, ReadL h3 (some (Addr.mk h.size 0 none)) ys ∧ ys.length = 1 * 1 ∧
      AppS h3 A N C 3 8 1 #[.int .i64 0] ys 1 fun apA apN apC h4 => StoreH h4 (b.add 2) [.slice apA apN apC] K := by
  refine ⟨_, _, _, mb.fld 2 rfl, ?_⟩
  intro h3
  have e3 : Ext h h3 := Ext.push h _
  have r3 := (Fr.lit (.refl h) [Value.int .i64 p] 3 1 rfl).rd
  have m3 := mb.mem.ext' e3
  have fn := (m3.get 2 rfl).rd.ilen (f := Value.int .i64)
  refine ⟨[Value.int .i64 p], r3.read, rfl, (m3.get 2 rfl).app rfl (by simp [Value.oneCell']) (by omega) fun a' c' h4 f4 u4 hor => ?_⟩
  have m4 := m3.setAt 2 (t' := ⟨1, a', m.b.n + 1, c', _⟩) rfl f4 u4 hor
  refine (m4.get 0 rfl).cellAt 2 (by omega) rfl fun h5 u5 f5 => hK _ { m with b := ⟨a', m.b.n + 1, c'⟩ } ⟨mb.ok, ?_⟩
  have m5 := m4.setAt 0 (t' := ⟨1, some b, 4, 4, _⟩) rfl f5 u5 (.inl rfl)
  simp only [List.set_cons_succ, List.set_cons_zero] at m5
  have e : ints M.bads ++ [Value.int .i64 p] = ints (M.bads ++ [p]) := by rw [ints, ints, List.map_append]; rfl
  rw [e] at m5
  exact m5
section
variable {h h0 : Heap} {v : CV} {C : Circ} {V : List Bool} {a : Option Addr} {n c : Nat}
set_option maxRecDepth 4000 in
theorem c65 (r : CIs h v C) (hc : (chk C).2 = 0) {sa : Option Addr} {sn sc : Nat} {st : List Bool} (rs : Rd h sa sn (bools st)) (hsn : sn ≤ 16384) (rv : Rd h a n (bools V)) (hn : n = (C.mx + 1).toNat) :
    CallsH Tryz.prog 65 #[v.v, .slice sa sn sc, .slice a n c] h fun w h' => ∃ m, w = MV.v m ∧ Ext h h' ∧ MoN h h' m (moOf C st V) := by
  obtain ⟨⟨b0, b1⟩, b2, b3, b4, b5, b6, b7, b8, b9, b10, b11, b12⟩ := chk_bounds hc
  obtain ⟨_, _, l3, l4, l5, l6⟩ := good_lits hc
  obtain ⟨q1, q2, q3, q4, q5, q6, q7, q8, q9, q10⟩ := r.len
  refine run65 v.mx v.i.a v.i.n v.i.c v.l.a v.l.n v.l.c v.o.a v.o.n v.o.c v.b.a v.b.n v.b.c v.c.a v.c.n v.c.c v.j.a v.j.n v.j.c v.f.a v.f.n v.f.c v.g.a v.g.n v.g.c v.s.a v.s.n v.s.c v.m.a v.m.n v.m.c sa sn sc a n c _ h ?_
  unfold VC65
  intro h1 h2
  have e1 : Ext h h1 := Ext.box h _
  have e2 : Ext h h2 := e1.trans (Ext.push h1 _)
  have hs1 : h1.size = h.size + 1 := by simp [h1]
  have hs2 : h2.size = h.size + 2 := by simp [h2, hs1]
  have hb : Rd h2 (some ⟨h.size, 0, none⟩) 11 v.cs := (boxC v 29).ext (Ext.push h1 _)
  have fb : Fr h 1 h2 (some ⟨h1.size, 0, none⟩) 4 4 (MV.cs ⟨⟨none, 0, 0⟩, false, ⟨none, 0, 0⟩, ⟨none, 0, 0⟩⟩) := Fr.lit e1 (MV.cs ⟨⟨none, 0, 0⟩, false, ⟨none, 0, 0⟩, ⟨none, 0, 0⟩⟩) 54 4 rfl
  have rs2 := rs.ext e2
  have r2 := r.ext e2
  have rv2 := rv.ext e2
  have m := MemU.start (Mem.nil (.refl h2))
  intro U h3 b g hU ho U1 h4 g1
  have m2 := (flt0 (m.grow g) rfl hU ho 1).grow g1
  refine ⟨bools st, (rs2.ext m2.mem.ext).read, by rw [rs2.len]; omega, app0 (m2.mem.at' 0 rfl) (by rw [rs2.len]; show sn = sn * 1; omega) bools_one (by omega) fun a1 c1 h5 f u hor => ?_⟩
  obtain ⟨kk, m3⟩ := m2.setAt 0 (t' := ⟨1, a1, sn, c1, bools st⟩) rfl f u hor
  refine ⟨kk, by rw [add_block]; simp only; omega, _, _, _, (hb.ext m3.mem.ext).fld 5 rfl, fun U2 h6 g2 => ?_⟩
  have m4 := m3.grow g2
  refine use (c83 (rv2.ext m4.mem.ext) (r2.c.ext m4.mem.ext) (by omega) fun x hx => by have := l4 x hx; omega) ?_
  refine ⟨_, rfl, (m4.ext (.refl h6)).1, fun U3 h7 bx g7 hU3 ho3 U4 h8 g8 => ?_⟩
  have m5 := m4.grow g7
  have hb5 := m5.lt bx hU3
  have m6 := (m5.take hU3 hb5.1 (t := ⟨1, some ⟨bx, 0, none⟩, 4, 4, MV.cs ⟨⟨none, 0, 0⟩, false, ⟨none, 0, 0⟩, ⟨none, 0, 0⟩⟩⟩) ⟨Own.row ho3 rfl, (fun ad ha => by cases ha; exact hb5.1), m5.mem.ext⟩ fun ad ha => by cases ha; rfl).grow g8
  let mv0 : MV := ⟨⟨a1, sn, c1⟩, C.cons.all (lit V), ⟨none, 0, 0⟩, ⟨none, 0, 0⟩⟩
  let M0 : Mo := ⟨st, C.cons.all (lit V), [], []⟩
  refine (m6.mem.get 0 rfl).put (ws := mv0.cs) rfl (MV.one _) fun h9 f9 u9 => ⟨u9.1, ?_⟩
  have m7 := m6.mem.setAt 0 (t' := ⟨1, some ⟨bx, 0, none⟩, 4, 4, mv0.cs⟩) rfl f9 u9 (.inl rfl)
  have mb0 : MB h2 h9 ⟨bx, 0, none⟩ mv0 M0 := ⟨rfl, by
    have := (m7.add (t := ⟨1, none, 0, 0, []⟩) (.nil (.refl h9))).add (t := ⟨2, none, 0, 0, []⟩) (.nil (.refl h9))
    refine this.perm ?_
    have p : ∀ (x y u w : Itm), [x, y, u, w].Perm [u, w, y, x] := fun x y u w => by
      have h1 : ([x, y] ++ [u, w]).Perm ([u, w] ++ [x, y]) := List.perm_append_comm
      exact h1.trans (.cons _ (.cons _ (.swap _ _ _)))
    exact p _ _ _ _⟩
  clear m m2 m3 m4 m5 m6 m7 f9 u9
  refine LoopT.to (n := v.b.n) (by omega) (fun i h' => ∃ m' F, MB h2 h' ⟨bx, 0, none⟩ m' { M0 with bads := F } ∧ F.length ≤ i ∧ F ++ badF V (C.bads.drop i) i = badF V C.bads 0) ⟨mv0, [], mb0, Nat.le_refl _, rfl⟩ ?_
  rintro i h10 K hi ⟨m1, F, mb1, hFl, hF⟩ hK
  have hb10 := hb.ext mb1.mem.ext
  refine ⟨_, _, _, hb10.fld 4 rfl, fun hlt => ?_, fun hlt => ?_⟩
  · refine ⟨_, _, _, hb10.fld 4 rfl, by omega, hlt, (r2.b.ext mb1.mem.ext).getn (i := i) (by omega) fun ad2 hl1 hc => ⟨_, hc, ?_⟩⟩
    have k1 := l3 _ (List.getElem_mem hl1)
    refine use (c82 (rv2.ext mb1.mem.ext) k1.1 (by omega) (by omega)) ⟨_, rfl, ?_⟩
    rw [badF_drop hl1] at hF
    cases hx : lit V C.bads[i] with
    | false =>
      rw [hx] at hF
      exact BIf.f (hK _ (by omega) ⟨m1, F, mb1, by omega, by simpa using hF⟩)
    | true =>
      rw [hx] at hF
      exact BIf.t (MB.bad mb1 (by simp only; omega) _ fun h5 m' mb' => hK _ (by omega) ⟨m', F ++ [(i : Int)], mb', by simp; omega, by simpa using hF⟩)
  have hd : C.bads.drop i = [] := List.drop_of_length_le (by omega)
  rw [hd, badF, List.append_nil] at hF
  subst hF
  clear hK hd hlt hFl
  let M1 : Mo := { M0 with bads := badF V C.bads 0 }
  refine LoopT.to (n := v.j.n) (by omega) (fun i h' => ∃ m' F, MB h2 h' ⟨bx, 0, none⟩ m' { M1 with fair := F } ∧ F.length ≤ (C.just.map List.length).sum ∧ F ++ justF V (C.just.drop i) i = justF V C.just 0) ⟨m1, [], mb1, Nat.zero_le _, rfl⟩ ?_
  clear K mb1 hb10
  rintro i h11 K hi ⟨m1, F, mb1, hFl, hF⟩ hK
  have hb11 := hb.ext mb1.mem.ext
  refine ⟨_, _, _, hb11.fld 6 rfl, fun hlt => ?_, fun hlt => ?_⟩
  · have hij : i < C.just.length := by omega
    have hxs := le_sumS (List.getElem_mem hij)
    rw [justF_drop hij, ← List.append_assoc] at hF
    refine LoopT.to (n := C.just[i].length) (by omega) (fun k h' => ∃ m' G, MB h2 h' ⟨bx, 0, none⟩ m' { M1 with fair := F ++ G } ∧ G.length ≤ k ∧ G ++ fairF i V (C.just[i].drop k) k = fairF i V C.just[i] 0) ⟨m1, [], by simpa using mb1, Nat.le_refl _, rfl⟩ ?_
    rintro k h12 K2 hk ⟨m2, G, mb2, hGl, hG⟩ hK2
    have hb12 := hb.ext mb2.mem.ext
    refine ⟨_, _, _, hb12.fld 6 rfl, by omega, by omega, (r2.j).get (i := i) (by omega) fun ad2 hl1 x hc hr _ hx1 hxn => ⟨_, _, _, Ext.cell mb2.mem.ext hc, fun hlt2 => ?_, fun hlt2 => ?_⟩⟩
    · refine ⟨_, _, _, hb12.fld 6 rfl, by omega, by omega, (r2.j).get (i := i) (by omega) fun ad3 hl3 x2 hc2 hr2 _ hx21 hx2n => ⟨_, _, _, Ext.cell mb2.mem.ext hc2, by omega, by omega, ?_⟩⟩
      rw [hx21] at hr2
      refine (hr2.ext mb2.mem.ext).getn (i := k) (by omega) fun ad4 hl4 hc4 => ⟨_, hc4, ?_⟩
      have k1 := l5 _ (List.getElem_mem hij) _ (List.getElem_mem hl4)
      refine use (c82 (rv2.ext mb2.mem.ext) k1.1 (by omega) (by omega)) ⟨_, rfl, ?_⟩
      rw [fairF_drop hl4] at hG
      cases hx : lit V C.just[i][k] with
      | false =>
        rw [hx] at hG
        exact BIf.f (hK2 _ (by omega) ⟨m2, G, mb2, by omega, by simpa using hG⟩)
      | true =>
        rw [hx] at hG
        refine BIf.t (MB.spot mb2 (by simp only [List.length_append]; omega) _ _ fun h5 m' mb' => hK2 _ (by omega) ⟨m', G ++ [((i : Int), (k : Int))], ?_, by simp; omega, by simpa using hG⟩)
        simp only [List.append_assoc] at mb'
        exact mb'
    · have hd : C.just[i].drop k = [] := List.drop_of_length_le (by omega)
      rw [hd, fairF, List.append_nil] at hG
      subst hG
      refine hK _ (by omega) ⟨m2, F ++ fairF i V C.just[i] 0, mb2, ?_, hF⟩
      have hlen := congrArg List.length hF
      rw [List.length_append] at hlen
      have := justF_len (V := V) (l := C.just) (i := 0)
      omega
  have hd : C.just.drop i = [] := List.drop_of_length_le (by omega)
  rw [hd, justF, List.append_nil] at hF
  subst hF
  have hjl := justF_len (V := V) (l := C.just) (i := 0)
  clear hK hlt hd
  refine LoopT.to (n := v.f.n) (by omega) (fun k h' => ∃ m' G, MB h2 h' ⟨bx, 0, none⟩ m' { M1 with fair := justF V C.just 0 ++ G } ∧ G.length ≤ k ∧ G ++ fairF (-1) V (C.fair.drop k) k = fairF (-1) V C.fair 0) ⟨m1, [], by simpa using mb1, Nat.le_refl _, rfl⟩ ?_
  clear K mb1 hb11
  rintro k h12 K hk ⟨m2, G, mb2, hGl, hG⟩ hK
  have hb12 := hb.ext mb2.mem.ext
  refine ⟨_, _, _, hb12.fld 7 rfl, fun hlt => ?_, fun hlt => ?_⟩
  · refine ⟨_, _, _, hb12.fld 7 rfl, by omega, hlt, (r2.f.ext mb2.mem.ext).getn (i := k) (by omega) fun ad4 hl4 hc4 => ⟨_, hc4, ?_⟩⟩
    have k1 := l6 _ (List.getElem_mem hl4)
    refine use (c82 (rv2.ext mb2.mem.ext) k1.1 (by omega) (by omega)) ⟨_, rfl, ?_⟩
    rw [fairF_drop hl4] at hG
    cases hx : lit V C.fair[k] with
    | false =>
      rw [hx] at hG
      exact BIf.f (hK _ (by omega) ⟨m2, G, mb2, by omega, by simpa using hG⟩)
    | true =>
      rw [hx] at hG
      refine BIf.t (MB.spot mb2 (by simp only [List.length_append]; omega) _ _ fun h5 m' mb' => hK _ (by omega) ⟨m', G ++ [(-1, (k : Int))], ?_, by simp; omega, by simpa using hG⟩)
      simp only [List.append_assoc] at mb'
      exact mb'
  · have hd : C.fair.drop k = [] := List.drop_of_length_le (by omega)
    rw [hd, fairF, List.append_nil] at hG
    subst hG
    refine ⟨_, _, _, _, _, _, _, _, _, _, (mb2.mem.get 0 rfl).rd.cells, ?_⟩
    refine (fb.upd mb2.mem.ext).put (ws := m2.cs) rfl (MV.one _) fun h21 f21 u21 => ?_
    refine ⟨_, _, _, _, _, _, _, _, _, _, f21.rd.cells, m2, rfl, f21.ext, ?_⟩
    have mo := mb2.mem.over e2 u21 fun b ⟨ad, ha, e⟩ => by cases ha; simp only at e; omega
    intro S h' u hS
    exact ⟨Rd.one (mo.farAt u hS 1 rfl), mb2.ok, Rd.one (mo.farAt u hS 2 rfl), mo.farAt u hS 3 rfl⟩
end
end Go.Proofs.YtpmpacdjcfijbaaGreat
