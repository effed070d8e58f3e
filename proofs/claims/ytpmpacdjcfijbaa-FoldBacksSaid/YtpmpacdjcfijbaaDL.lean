/- Words and facts that the claim's proof leans on. No condition. -/
import Derived.Test.YtpmpacdjcfijbaaDE
/- Constraints in a latch, by the document. No condition. -/
set_option linter.unusedVariables false
set_option linter.unusedSimpArgs false
namespace Go.Proofs.Ytpmpacdjcfijbaa
open Go.Hx

theorem Mem.stQ {h0 h : Heap} {k : Addr} {vs : List Value} {l : List Itm} (m : Mem h0 h (⟨1, some k, 11, 11, vs⟩ :: l)) (i : Nat) (hi : i < 11) {x : Value} (h1 : x.oneCell' = true) {K : Heap → Prop} (hK : ∀ h', Mem h0 h' (⟨1, some k, 11, 11, vs.set i x⟩ :: l) → Upd (fun b => b = k.block) h h' → K h') :
    StoreH h (k.add i) [x] K :=
  (m.get 0 rfl).cellAt i hi h1 fun h' u f => hK h' (m.setAt 0 (t' := ⟨1, some k, 11, 11, _⟩) rfl f u (.inl rfl)) (u.mono fun b _ ⟨ad, ha, e⟩ => by cases ha; exact e)
theorem Mem.fldQ {h0 h : Heap} {k : Addr} {vs : List Value} {l : List Itm} (m : Mem h0 h (⟨1, some k, 11, 11, vs⟩ :: l)) (i : Nat) {x : Value} (hx : vs[i]? = some x) : cellH h (k.add i) = some x := (m.get 0 rfl).rd.fld i hx

theorem c68 {h0 h : Heap} {k : Addr} {v : CV} {C : Circ} {rows : List Rw} (b : Bx h0 h k v C rows) (hm0 : 0 ≤ C.mx) (hm1 : C.mx ≤ 1000000) (hg : C.ands.length ≤ 1000000) (x y : Int) :
    CallsH Try.prog 68 #[.pointer (some k), .int .i64 x, .int .i64 y] h fun w h' => w = .int .i64 (2 * (C.mx + 1)) ∧ ∃ v', v'.b = v.b ∧ Bx h0 h' k v' (gate1 C x y) rows ∧ cellH h' (k.add 4) = cellH h (k.add 4) := by
  have hmx := b.mx
  have q8 := b.cnew.cis.len.g
  refine run68 (some k) x y _ h ⟨v.mx, Mem.fldQ b.mem 0 rfl, AtP.mk rfl (Mem.stQ b.mem 0 (by omega) rfl fun h1 m1 u1 => ?_)⟩
  have hw : IntKind.wrap .i64 (v.mx + 1) = C.mx + 1 := by rw [hmx, w64 (by omega) (by omega)]
  have hw2 : IntKind.wrap .i64 (2 * (C.mx + 1)) = 2 * (C.mx + 1) := w64 (by omega) (by omega)
  rw [hw] at m1
  let v1 : CV := { v with mx := C.mx + 1 }
  have b1 : Bx h0 h1 k v1 { C with mx := C.mx + 1 } rows := ⟨rfl, b.just, m1⟩
  have hk1 : k.block < h1.size := b1.box.own.lt
  refine ⟨by rw [add_block]; exact hk1, _, _, _, Mem.fldQ b1.mem 8 rfl, by rw [add_block]; exact hk1, _, Mem.fldQ b1.mem 0 rfl, ?_⟩
  dsimp only
  rw [hw2]
  have e2 := Ext.push h1 (.cells #[.int .i64 (2 * (C.mx + 1)), .int .i64 (max x y), .int .i64 (min x y)] 82)
  obtain ⟨h2, hh2⟩ : ∃ h2, h2 = h1.push (.cells #[.int .i64 (2 * (C.mx + 1)), .int .i64 (max x y), .int .i64 (min x y)] 82) := ⟨_, rfl⟩
  have r2 : Rd h2 (some ⟨h1.size, 0, none⟩) 3 (L3.cs ⟨2 * (C.mx + 1), max x y, min x y⟩) := by rw [hh2]; exact (Fr.lit (.refl h1) (L3.cs ⟨2 * (C.mx + 1), max x y, min x y⟩) 82 3 rfl).rd
  rw [← hh2] at e2 ⊢
  have b2 := b1.ext e2
  refine ⟨fun b hb => e2.2 b hb fun x => x, _, r2.read, rfl, ?_⟩
  refine (b2.mem.get 8 rfl).app rfl (by simp [L3.cs, Value.oneCell']) (by show (v.g.n + 1) * 24 ≤ _; omega) fun a' c' h3 f u hor => ?_
  have m3 := b2.mem.setAt 8 (t' := ⟨3, a', v.g.n + 1, c', C.ands.flatMap L3.cs ++ L3.cs ⟨2 * (C.mx + 1), max x y, min x y⟩⟩) rfl f u hor
  refine AtP.mk rfl (Mem.stQ m3 8 (by omega) rfl fun h4 m4 u4 => ?_)
  refine ⟨_, Mem.fldQ m4 0 rfl, by rw [hw2], { v1 with g := ⟨a', v.g.n + 1, c'⟩ }, rfl, ⟨rfl, b.just, ?_⟩, ?_⟩
  · have e : C.ands.flatMap L3.cs ++ L3.cs ⟨2 * (C.mx + 1), max x y, min x y⟩ = (C.ands ++ [(⟨2 * (C.mx + 1), max x y, min x y⟩ : L3)]).flatMap L3.cs := by rw [List.flatMap_append]; simp
    rw [e] at m4
    exact m4
  · have g1 := Mem.fldQ m4 4 (x := Value.slice v.b.a v.b.n v.b.c) rfl
    have g2 := Mem.fldQ b.mem 4 (x := Value.slice v.b.a v.b.n v.b.c) rfl
    rw [g1, g2]

section
variable {h : Heap} {v : CV} {C : Circ} {rows : List Rw}
theorem r32_4 {h_ hA hB hC : Heap} {good : Int} (hh_ : h_.size = h.size + 1) (e0 : Ext h hB) (hs : h.size + 1 < hB.size) (hxb : Rd hB (some ⟨h.size, 0, none⟩) 11 v.cs) (r : CIs hB v C) {G : List L3} {Bd : List Int} {m : Int} {v1 : CV} (b : Bx hB hC ⟨hA.size, 0, none⟩ v1 { C with mx := m, ands := G, bads := Bd } rows) (fb : ∃ vs, Fr h 1 hB (some ⟨h_.size, 0, none⟩) 11 11 vs)
    (hm0 : 0 ≤ C.mx) (hm1 : C.mx ≤ 16384) (hl : C.lats.length ≤ 16384) (hf : C.fair.length ≤ 16384) (hsy : C.syms.length ≤ 16384) (ok : C.Ok)
    (hR : foldR C = ({ C with mx := m, ands := G, bads := Bd, lats := C.lats ++ [⟨2 * (C.mx + 1), good, 1⟩], fair := C.fair ++ [good], cons := [], syms := C.syms.filter fun s => decide (s.k ≠ 99) }, 0)) :
    J32_4 (FPost C h) h h_ hA (C.mx + 1) good hC := by
  obtain ⟨q1, q2, q3, q4, q5, q6, q7, q8, q9, q10⟩ := b.cnew.cis.len
  simp only at q2 q7 q9
  obtain ⟨vs0, fb⟩ := fb
  refine ⟨_, _, _, Mem.fldQ b.mem 2 rfl, ?_⟩
  have hw : IntKind.wrap .i64 (2 * (C.mx + 1)) = 2 * (C.mx + 1) := w64 (by omega) (by omega)
  rw [hw]
  intro h1
  have e1 : Ext hC h1 := Ext.push _ _
  have r1 : Rd h1 (some ⟨hC.size, 0, none⟩) 3 (L3.cs ⟨2 * (C.mx + 1), good, 1⟩) := (Fr.lit (.refl hC) (L3.cs ⟨2 * (C.mx + 1), good, 1⟩) 80 3 rfl).rd
  have m1 := b.mem.ext' e1
  refine ⟨_, r1.read, rfl, (m1.get 2 rfl).app rfl (by simp [L3.cs, Value.oneCell']) (by omega) fun a2 c2 h2 f2 u2 hor2 => ?_⟩
  have m2 := m1.setAt 2 (t' := ⟨3, a2, v1.l.n + 1, c2, C.lats.flatMap L3.cs ++ L3.cs ⟨2 * (C.mx + 1), good, 1⟩⟩) rfl f2 u2 hor2
  refine Mem.stQ m2 2 (by omega) rfl fun h3 m3 u3 => ?_
  refine ⟨_, _, _, Mem.fldQ m3 7 rfl, ?_⟩
  intro h4
  have e4 : Ext h3 h4 := Ext.push _ _
  have r4 : Rd h4 (some ⟨h3.size, 0, none⟩) 1 [.int .i64 good] := (Fr.lit (.refl h3) [.int .i64 good] 3 1 rfl).rd
  have m4 := m3.ext' e4
  refine ⟨_, r4.read, rfl, (m4.get 7 rfl).app rfl (by simp [Value.oneCell']) (by omega) fun a7 c7 h5 f5 u5 hor5 => ?_⟩
  have m5 := m4.setAt 7 (t' := ⟨1, a7, v1.f.n + 1, c7, ints C.fair ++ [.int .i64 good]⟩) rfl f5 u5 hor5
  refine Mem.stQ m5 7 (by omega) rfl fun h6 m6 u6 => ?_
  refine Mem.stQ m6 5 (by omega) rfl fun h7 m7 u7 => ?_
  refine Mem.stQ m7 9 (by omega) rfl fun h8 m8 u8 => ?_
  have m9 := (m8.unset 5 rfl 1).unset 9 rfl 3
  have ee : C.lats.flatMap L3.cs ++ L3.cs ⟨2 * (C.mx + 1), good, 1⟩ = (C.lats ++ [(⟨2 * (C.mx + 1), good, 1⟩ : L3)]).flatMap L3.cs := by rw [List.flatMap_append]; simp
  have ef : ints C.fair ++ [Value.int .i64 good] = ints (C.fair ++ [good]) := by rw [ints, ints, List.map_append]; rfl
  rw [ee, ef] at m9
  let v0 : CV := { v1 with l := ⟨a2, v1.l.n + 1, c2⟩, f := ⟨a7, v1.f.n + 1, c7⟩, c := ⟨none, 0, 0⟩, s := ⟨none, 0, 0⟩ }
  let C0 : Circ := { C with mx := m, ands := G, bads := Bd, lats := C.lats ++ [⟨2 * (C.mx + 1), good, 1⟩], fair := C.fair ++ [good], cons := [], syms := [] }
  have qs := r.len.s
  refine LoopT.to (n := v.s.n) (by have := ok.nb; omega) (fun i h' => ∃ s' : Sl, s'.n = ((C.syms.take i).filter fun s => decide (s.k ≠ 99)).length ∧ s'.n ≤ i ∧ Mem hB h' (⟨1, some ⟨hA.size, 0, none⟩, 11, 11, CV.cs { v0 with s := s' }⟩ :: itemsC { v0 with s := s' } { C0 with syms := (C.syms.take i).filter fun s => decide (s.k ≠ 99) } rows)) ⟨⟨none, 0, 0⟩, rfl, Nat.zero_le _, m9⟩ ?_
  rintro i h10 K hi ⟨s', hsn, hsi, m10⟩ hK
  have u10 := m10.ext
  have hx10 := hxb.ext u10
  refine ⟨_, _, _, hx10.fld 9 rfl, fun hlt => ?_, fun hlt => ?_⟩
  · have his : i < C.syms.length := by omega
    have rs := r.s.ext u10
    have etk : (C.syms.take (i + 1)).filter (fun s => decide (s.k ≠ 99)) = (C.syms.take i).filter (fun s => decide (s.k ≠ 99)) ++ [C.syms[i]].filter (fun s => decide (s.k ≠ 99)) := by rw [List.take_succ_eq_append_getElem his, List.filter_append]
    refine ⟨_, _, _, hx10.fld 9 rfl, by omega, hlt, rs.elem Sy.csl (by omega) (i := i) (by omega) fun ad hl1 re => ⟨_, re.fld 0 rfl, fun hk => ?_, fun hk => ?_⟩⟩
    · have hk' : C.syms[i].k = 99 := hk
      refine hK _ (by omega) ⟨s', ?_, by omega, ?_⟩
      · rw [etk]; simp [hk', hsn]
      · rw [etk]; simp only [List.filter_cons, hk', ne_eq, not_true_eq_false, decide_false, Bool.false_eq_true, if_false, List.filter_nil, List.append_nil]; exact m10
    · have hk' : ¬ C.syms[i].k = 99 := hk
      have hbl : ∀ {a : Addr} {w : Value}, cellH h10 a = some w → a.block < h10.size := fun h => cellH_lt h
      refine ⟨hbl (Mem.fldQ m10 9 rfl), _, _, _, Mem.fldQ m10 9 rfl, hbl (hx10.fld 9 rfl), _, _, _, hx10.fld 9 rfl, by omega, hlt, rs.elem Sy.csl (by omega) (i := i) (by omega) fun ad2 hl2 re2 => ⟨?_, _, _, _, re2.cells, ?_⟩⟩
      · have := hbl (re2.fld 0 rfl); rwa [add_block] at this
      intro h11
      have e11 : Ext h10 h11 := Ext.push _ _
      have r11 : Rd h11 (some ⟨h10.size, 0, none⟩) 3 (Sy.cs C.syms[i]) := (Fr.lit (.refl h10) (Sy.cs C.syms[i]) 103 3 rfl).rd
      have m11 := m10.ext' e11
      refine ⟨fun b hb => e11.2 b hb fun x => x, _, r11.read, rfl, ?_⟩
      refine (m11.get 9 rfl).app rfl (Sy.one1 _) (by show (s'.n + 1) * 32 ≤ _; omega) fun a' c' h12 f12 u12 hor => ?_
      have m12 := m11.setAt 9 (t' := ⟨3, a', s'.n + 1, c', ((C.syms.take i).filter fun s => decide (s.k ≠ 99)).flatMap Sy.cs ++ Sy.cs C.syms[i]⟩) rfl f12 u12 hor
      refine Mem.stQ m12 9 (by omega) rfl fun h13 m13 u13 => ?_
      have es : ((C.syms.take i).filter fun s => decide (s.k ≠ 99)).flatMap Sy.cs ++ Sy.cs C.syms[i] = ((C.syms.take (i + 1)).filter fun s => decide (s.k ≠ 99)).flatMap Sy.cs := by rw [etk, List.flatMap_append]; simp [hk']
      rw [es] at m13
      refine hK _ (by omega) ⟨⟨a', s'.n + 1, c'⟩, ?_, by simp only; omega, m13⟩
      rw [etk]; simp [hk', hsn]
  · have hin : i = v.s.n := by omega
    subst hin
    rw [show C.syms.take v.s.n = C.syms from List.take_of_length_le (by omega)] at m10
    refine ldC (v := { v0 with s := s' }) (m10.get 0 rfl).rd ?_
    have hres : Fr h 1 h10 (some ⟨h_.size, 0, none⟩) 11 11 vs0 := fb.upd u10
    refine hres.put (ws := CV.cs { v0 with s := s' }) rfl (CV.one _) fun h11 f11 u11 => ?_
    have mo := m10.over e0 u11 fun b ⟨ad, ha, e⟩ => by cases ha; simp only at e; omega
    refine ldC (v := { v0 with s := s' }) f11.rd ⟨{ v0 with s := s' }, by rw [hR]; rfl, ?_⟩
    rw [hR]
    exact ⟨b.mx, rows, b.just, mo.sub (List.sublist_cons_self ..)⟩
end
end Go.Proofs.Ytpmpacdjcfijbaa
/- Constraints in a latch, by the document: the whole. No condition. -/
set_option linter.unusedVariables false
set_option linter.unusedSimpArgs false
namespace Go.Proofs.Ytpmpacdjcfijbaa
open Go.Hx

section
variable {h : Heap} {v : CV} {C : Circ} {rows : List Rw}
theorem r32_2 {h_ hA hB hC : Heap} {good : Int} (hh_ : h_.size = h.size + 1) (e0 : Ext h hB) (hs : h.size + 1 < hB.size) (hxb : Rd hB (some ⟨h.size, 0, none⟩) 11 v.cs) (r : CIs hB v C) {G : List L3} {m : Int} {v1 : CV} (b : Bx hB hC ⟨hA.size, 0, none⟩ v1 { C with mx := m, ands := G } rows) (fb : ∃ vs, Fr h 1 hB (some ⟨h_.size, 0, none⟩) 11 11 vs)
    (hm0 : 0 ≤ C.mx) (hm1 : C.mx ≤ 16384) (hl : C.lats.length ≤ 16384) (hf : C.fair.length ≤ 16384) (hsy : C.syms.length ≤ 16384) (hbl : C.bads.length ≤ 16384) (hm : m = C.mx + 1 + C.cons.length) (hcl : C.cons.length ≤ 16384) (hG : G.length ≤ 65536) (ok : C.Ok)
    (hR : foldR C = ({ foldBads good C.bads 0 { C with mx := m, ands := G } with lats := C.lats ++ [⟨2 * (C.mx + 1), good, 1⟩], fair := C.fair ++ [good], cons := [], syms := C.syms.filter fun s => decide (s.k ≠ 99) }, 0)) :
    J32_2 Try.prog (FPost C h) h h_ hA (C.mx + 1) good hC := by
  have hbn := r.len.b
  refine LoopT.to (n := v.b.n) (by omega) (fun i h' => ∃ (v' : CV) (G' : List L3) (Bd : List Int), Bx hB h' ⟨hA.size, 0, none⟩ v' { C with mx := m + i, ands := G', bads := Bd } rows ∧ G'.length = G.length + i ∧ Bd.length = C.bads.length ∧ foldBads good (C.bads.drop i) i { C with mx := m + i, ands := G', bads := Bd } = foldBads good C.bads 0 { C with mx := m, ands := G }) ⟨v1, G, C.bads, by simpa using b, by simp, rfl, by simp⟩ ?_
  rintro i h1 K hi ⟨v', G', Bd, b1, hg1, hb1, hF⟩ hK
  have u1 := b1.mem.ext
  have q4 := b1.cnew.cis.len.b
  simp only at q4
  have hx1 := hxb.ext u1
  refine ⟨_, _, _, hx1.fld 4 rfl, fun hlt => ?_, fun hlt => ?_⟩
  · have hib : i < C.bads.length := by omega
    have rb := r.b.ext u1
    refine ⟨⟨fun a c => cellH c (Addr.add ⟨hA.size, 0, none⟩ 4) = cellH a (Addr.add ⟨hA.size, 0, none⟩ 4) ∧ ∀ b, b < hB.size → c[b]? = a[b]?, fun _ => ⟨rfl, fun _ _ => rfl⟩, fun h => ⟨h.1.symm, fun b hb => (h.2 b hb).symm⟩, fun h k => ⟨k.1.trans h.1, fun b hb => (k.2 b hb).trans (h.2 b hb)⟩⟩,
      fun h'' hz => hz.1, _, _, _, Mem.fldQ b1.mem 4 rfl, Zone.has.cell (fun h'' hz => hz.2 _ (by rw [add_block]; simp only; omega)), _, _, _, hx1.fld 4 rfl, by omega, hlt, r.b.getn (by omega) fun ad1 hl1 hc => ⟨Zone.has.cell fun h'' hz => hz.2 _ (cellH_lt hc), _, Ext.cell u1 hc, (c68 b1 (by simp only; omega) (by simp only; omega) (by simp only; omega) _ _).mono ?_⟩⟩
    rintro _ h2 ⟨rfl, v2, hv2, b2, hz2⟩
    refine ⟨_, rfl, ⟨hz2, fun b hb => by rw [b2.mem.ext.2 b hb fun x => x, u1.2 b hb fun x => x]⟩, by omega, by omega, ?_⟩
    have fB : Fr hB 1 h2 v'.b.a v'.b.n v'.b.c (ints Bd) := by have := b2.mem.get 4 rfl; rw [hv2] at this; exact this
    refine fB.set1 (by omega) (by omega) rfl fun h3 u3 f3 => hK _ (by omega) ⟨v2, G' ++ [(⟨2 * (m + i + 1), max good C.bads[i], min good C.bads[i]⟩ : L3)], Bd.set i (2 * (m + i + 1)), ⟨?_, b2.just, ?_⟩, by simp [hg1]; omega, by simpa using hb1, ?_⟩
    · have := b2.mx; simp only [gate1] at this ⊢; rw [this]; omega
    · have := b2.mem.setAt 4 (t' := ⟨1, v2.b.a, v2.b.n, v2.b.c, (ints Bd).set (Int.toNat i) (.int .i64 (2 * (m + i + 1)))⟩) rfl (by rw [hv2]; exact f3) (by rw [hv2]; exact u3) (.inl rfl)
      have e : (ints Bd).set (Int.toNat i) (.int .i64 (2 * (m + i + 1))) = ints (Bd.set i (2 * (m + i + 1))) := by rw [ints, ints, List.map_set]; rfl
      rw [e] at this
      exact this
    · rw [← hF, List.drop_eq_getElem_cons hib, foldBads]
      congr 1
      simp only [gate1, Circ.mk.injEq, and_true, true_and]
      refine ⟨by omega, ?_⟩
      rw [Int.max_comm good, Int.min_comm good]
  · have hin : i = v.b.n := by omega
    subst hin
    have hd : C.bads.drop v.b.n = [] := List.drop_of_length_le (by omega)
    rw [hd, foldBads] at hF
    rw [← hF] at hR
    exact r32_4 hh_ e0 hs hxb r b1 fb hm0 hm1 hl hf hsy ok hR
theorem c32 (r : CIs h v C) (ok : C.Ok) : CallsH Try.prog 32 #[v.v] h (FPost C h) := by
  obtain ⟨q1, q2, q3, q4, q5, q6, q7, q8, q9, q10⟩ := r.len
  have hmx := r.mx
  refine run32 v.mx v.i.a v.i.n v.i.c v.l.a v.l.n v.l.c v.o.a v.o.n v.o.c v.b.a v.b.n v.b.c v.c.a v.c.n v.c.c v.j.a v.j.n v.j.c v.f.a v.f.n v.f.c v.g.a v.g.n v.g.c v.s.a v.s.n v.s.c v.m.a v.m.n v.m.c _ h ?_
  unfold VC32
  intro h1 h2
  have e2 : Ext h h2 := (Ext.box h _).trans (Ext.box h1 _)
  have hs1 : h1.size = h.size + 1 := by simp [h1]
  have hs2 : h2.size = h.size + 2 := by simp [h2, hs1]
  have hb : Rd h2 (some ⟨h.size, 0, none⟩) 11 v.cs := (boxC v 29).ext (Ext.box h1 _)
  have fb : Fr h 1 h2 (some ⟨h1.size, 0, none⟩) 11 11 CV.zero.cs := Fr.lit (Ext.box h _) CV.zero.cs 29 11 rfl
  refine ldC hb (useX (c51 (r.ext e2) ok) fun h3 e3 => ⟨_, _, rfl, fun hc => ?_, fun hc => ?_⟩)
  have e03 := e2.trans e3
  have bad : ∀ (e : Int), foldR C = (Circ.zero, e) → StoreH h3 (Addr.mk (h1).size 0 none) CV.zero.cs fun h_5 => ∃ (t5 : Int), ∃ (A22 : Option Addr), ∃ (N22 : Nat), ∃ (C22 : Nat), ∃ (A23 : Option Addr), ∃ (N23 : Nat), ∃ (C23 : Nat), ∃ (A24 : Option Addr), ∃ (N24 : Nat), ∃ (C24 : Nat), ∃ (A25 : Option Addr), ∃ (N25 : Nat), ∃ (C25 : Nat), ∃ (A26 : Option Addr), ∃ (N26 : Nat), ∃ (C26 : Nat), ∃ (A27 : Option Addr), ∃ (N27 : Nat), ∃ (C27 : Nat), ∃ (A28 : Option Addr), ∃ (N28 : Nat), ∃ (C28 : Nat), ∃ (A29 : Option Addr), ∃ (N29 : Nat), ∃ (C29 : Nat), ∃ (A30 : Option Addr), ∃ (N30 : Nat), ∃ (C30 : Nat), ∃ (A31 : Option Addr), ∃ (N31 : Nat), ∃ (C31 : Nat),
      cellsH h_5 (Addr.mk (h1).size 0 none) 0 [.int .i64 t5, .slice A22 N22 C22, .slice A23 N23 C23, .slice A24 N24 C24, .slice A25 N25 C25, .slice A26 N26 C26, .slice A27 N27 C27, .slice A28 N28 C28, .slice A29 N29 C29, .slice A30 N30 C30, .slice A31 N31 C31] ∧
      FPost C h (.tuple #[.agg #[.int .i64 t5, .slice A22 N22 C22, .slice A23 N23 C23, .slice A24 N24 C24, .slice A25 N25 C25, .slice A26 N26 C26, .slice A27 N27 C27, .slice A28 N28 C28, .slice A29 N29 C29, .slice A30 N30 C30, .slice A31 N31 C31], .int .i64 e]) h_5 := by
    intro e he
    refine (fb.upd e3).put (ws := CV.zero.cs) rfl (CV.one _) fun h4 f4 u4 => ldC f4.rd ⟨CV.zero, by rw [he]; rfl, ?_⟩
    rw [he]
    exact CNew.zero f4.ext
  have bad2 : FLong C → foldR C = (Circ.zero, 2) := fun hl => by unfold foldR; rw [if_neg (by rw [hc]; simp), if_pos hl]
  · obtain ⟨⟨b0, b1⟩, b2, b3, b4, b5, b6, b7, b8, b9, b10, b11, b12⟩ := chk_bounds hc
    have hb3 := hb.ext e3
    have w1 : IntKind.wrap .i64 (((v.c.n : Nat) : Int) + (v.b.n : Nat)) = (v.c.n : Nat) + (v.b.n : Nat) := w64 (by omega) (by omega)
    have w2 : IntKind.wrap .i64 (v.mx + 1) = v.mx + 1 := w64 (by omega) (by omega)
    have w3 : IntKind.wrap .i64 (v.mx + 1 + ((v.c.n : Nat) + (v.b.n : Nat))) = v.mx + 1 + ((v.c.n : Nat) + (v.b.n : Nat)) := w64 (by omega) (by omega)
    have w4 : IntKind.wrap .i64 ((v.g.n : Nat) + (((v.c.n : Nat) : Int) + (v.b.n : Nat))) = (v.g.n : Nat) + ((v.c.n : Nat) + (v.b.n : Nat)) := w64 (by omega) (by omega)
    have w7 : IntKind.wrap .i64 (((v.l.n : Nat) : Int) + 1) = (v.l.n : Nat) + 1 := w64 (by omega) (by omega)
    have w8 : IntKind.wrap .i64 (((v.f.n : Nat) : Int) + 1) = (v.f.n : Nat) + 1 := w64 (by omega) (by omega)
    refine ⟨_, _, _, hb3.fld 5 rfl, _, _, _, hb3.fld 4 rfl, _, hb3.fld 0 rfl, ?_⟩
    rw [w1, w2, w3]
    refine ⟨fun hl => bad 2 (bad2 (.inl (by omega))), fun n1 => ⟨_, _, _, hb3.fld 2 rfl, ?_⟩⟩
    rw [w7]
    refine ⟨fun hl => bad 2 (bad2 (.inr (.inl (by omega)))), fun n2 => ⟨_, _, _, hb3.fld 8 rfl, ?_⟩⟩
    rw [w4]
    refine ⟨fun hl => bad 2 (bad2 (.inr (.inr (.inr (by omega))))), fun n3 => ⟨_, _, _, hb3.fld 7 rfl, ?_⟩⟩
    rw [w8]
    refine ⟨fun hl => bad 2 (bad2 (.inr (.inr (.inl (by omega))))), fun n4 => ?_⟩
    have hnl : ¬ FLong C := by unfold FLong; omega
    have r3 := r.ext e03
    refine ldC hb3 ((c48 r3 ok).mono ?_)
    rintro _ h4 ⟨v1, rfl, cn⟩
    obtain ⟨rows, hrows, m0⟩ := cn.ex
    refine ⟨_, _, _, _, _, _, _, _, _, _, _, _, _, _, _, _, _, _, _, _, _, _, _, _, _, _, _, _, _, _, _, rfl, ?_⟩
    intro h5
    have f5 : Fr h4 1 h5 (some ⟨h4.size, 0, none⟩) 11 11 CV.zero.cs := Fr.lit (.refl h4) CV.zero.cs 29 11 rfl
    refine f5.put (ws := v1.cs) rfl (CV.one v1) fun h6 f6 u6 => ?_
    have bx : Bx h3 h6 ⟨h4.size, 0, none⟩ v1 C rows := ⟨cn.mx, hrows, m0.add (t := ⟨1, some ⟨h4.size, 0, none⟩, 11, 11, v1.cs⟩) f6⟩
    have hmx1 := bx.mx
    refine ⟨v1.mx, Mem.fldQ bx.mem 0 rfl, Mem.stQ bx.mem 0 (by omega) rfl fun h7 m7 u7 => ?_⟩
    have w5 : IntKind.wrap .i64 (v1.mx + 1) = C.mx + 1 := by rw [hmx1, w64 (by omega) (by omega)]
    have w6 : IntKind.wrap .i64 (2 * (C.mx + 1)) = 2 * (C.mx + 1) := w64 (by omega) (by omega)
    rw [w5] at m7
    let v2 : CV := { v1 with mx := C.mx + 1 }
    have bx7 : Bx h3 h7 ⟨h4.size, 0, none⟩ v2 { C with mx := C.mx + 1 } rows := ⟨rfl, bx.just, m7⟩
    refine ⟨C.mx + 1, Mem.fldQ bx7.mem 0 rfl, ?_⟩
    rw [w6]
    obtain ⟨X, hX⟩ : ∃ X, X = foldCons C.cons { C with mx := C.mx + 1 } (2 * (C.mx + 1)) := ⟨_, rfl⟩
    refine LoopT.to2 (n := v.c.n) (by omega) (fun i good h' => ∃ (v' : CV) (G : List L3), Bx h3 h' ⟨h4.size, 0, none⟩ v' { C with mx := C.mx + 1 + i, ands := G } rows ∧ G.length = C.ands.length + i ∧ foldCons (C.cons.drop i) { C with mx := C.mx + 1 + i, ands := G } good = X) ⟨v2, C.ands, by simpa using bx7, by simp, by rw [hX]; simp⟩ ?_
    rintro i good h8 K hi ⟨v', G, b8', hg, hF⟩ hK
    have u8 := b8'.mem.ext
    have hx8 := hb3.ext u8
    refine ⟨_, _, _, hx8.fld 5 rfl, fun hlt => ?_, fun hlt => ?_⟩
    · have hic : i < C.cons.length := by omega
      refine ⟨_, _, _, hx8.fld 5 rfl, by omega, hlt, (r3.c.ext u8).getn (by omega) fun ad hl1 hcc => ⟨_, hcc, (c68 b8' (by simp only; omega) (by simp only; omega) (by simp only; omega) _ _).mono ?_⟩⟩
      rintro _ h9 ⟨rfl, v3, _, b9', _⟩
      refine ⟨_, rfl, hK _ _ (by omega) ⟨v3, G ++ [(⟨2 * (C.mx + 1 + i + 1), max good C.cons[i], min good C.cons[i]⟩ : L3)], ⟨?_, b9'.just, b9'.mem⟩, by simp [hg]; omega, ?_⟩⟩
      · have := b9'.mx; simp only [gate1] at this ⊢; rw [this]; omega
      · rw [← hF, List.drop_eq_getElem_cons hic, foldCons]
        congr 1
        simp only [gate1, Circ.mk.injEq, and_true, true_and]
        omega
    · have hin : i = v.c.n := by omega
      subst hin
      have hd : C.cons.drop v.c.n = [] := List.drop_of_length_le (by omega)
      rw [hd, foldCons] at hF
      have hR : foldR C = ({ foldBads good C.bads 0 { C with mx := C.mx + 1 + (v.c.n : Nat), ands := G } with lats := C.lats ++ [⟨2 * (C.mx + 1), good, 1⟩], fair := C.fair ++ [good], cons := [], syms := C.syms.filter fun s => decide (s.k ≠ 99) }, 0) := by
        unfold foldR
        rw [if_neg (by rw [hc]; simp), if_neg hnl]
        unfold foldC
        rw [← hX, ← hF]
      exact r32_2 hs1 e03 (by have := e3.1; omega) hb3 r3 b8' ⟨_, fb.upd e3⟩ b0 b1 b3 b8 b10 b5 (by rw [q5]) b6 (by omega) ok hR
  · have he : foldR C = (Circ.zero, (chk C).2) := by unfold foldR; rw [if_pos hc]
    refine (fb.upd e3).put (ws := CV.zero.cs) rfl (CV.one _) fun h4 f4 u4 => ldC f4.rd ⟨CV.zero, by rw [he]; rfl, ?_⟩
    rw [he]
    exact CNew.zero f4.ext
end
end Go.Proofs.Ytpmpacdjcfijbaa
/- The chapter's example; the statement's function. No condition. -/
set_option linter.unusedVariables false
set_option linter.unusedSimpArgs false
namespace Go.Proofs.Ytpmpacdjcfijbaa
open Go.Hx

def WC : Circ := ⟨2, [2], [⟨4, 2, 0⟩], [], [4], [3], [], [], [], [], []⟩
theorem WC_defs : defs WC = (0, 0, [(0, 0), (1, 0), (2, 0)]) := by decide +kernel
theorem WC_uses : uses WC [(0, 0), (1, 0), (2, 0)] = (0, 0) := by decide +kernel
theorem WC_chk : chk WC = (0, 0) := by
  have h1 : sizeE WC = 0 := sizeE_ok (by simp [WC]) (by simp [Big, WC])
  have h4 : cyc WC (defs WC).2.2 = none := by unfold cyc; simp [WC]
  have h5 : syF WC = none := rfl
  have h6 : comF WC = none := rfl
  unfold chk
  rw [if_neg (by rw [h1]; simp), if_neg (by rw [WC_defs]; simp), if_neg (by rw [WC_defs]; simp only; rw [WC_uses]; simp), h4, h5, h6]
theorem WC_fold : foldR WC = (foldC WC, 0) := by
  unfold foldR
  rw [if_neg (by rw [WC_chk]; simp), if_neg (by unfold FLong WC; simp)]
theorem WC_ok : WC.Ok := by
  have one : ∀ (n : Int), -100 ≤ n → n ≤ 100 → ∀ x ∈ [n], W64 x := fun n h1 h2 x hx => by simp at hx; subst hx; exact ⟨by omega, by omega⟩
  refine ⟨⟨by decide, by decide⟩, one 2 (by omega) (by omega), fun x hx => ?_, fun x hx => (by cases hx), one 4 (by omega) (by omega), one 3 (by omega) (by omega), fun x hx => (by cases hx), fun x hx => (by cases hx), fun x hx => (by cases hx), fun x hx => (by cases hx), fun x hx => (by cases hx), by simp [WC], by simp [WC]⟩
  simp only [WC, List.mem_cons, List.not_mem_nil, or_false] at hx
  subst hx
  exact ⟨⟨by decide, by decide⟩, ⟨by decide, by decide⟩, ⟨by decide, by decide⟩⟩
theorem Rd.i1 {h : Heap} {a : Option Addr} {x : Int} (r : Rd h a 1 [.int .i64 x]) : Rd h a 1 (ints [x]) := r
theorem RdRs.nil {h : Heap} : RdRs h none 0 [] := ⟨⟨[], .nil, fun s hs => (by cases hs), rfl⟩⟩
theorem c35 (h : Heap) : CallsH Try.prog 35 #[] h (Xt (.bool true) h) := by
  refine run35 _ h ?_
  unfold VC35
  intro h1 h2 h3 h4 h5
  have e1 : Ext h h1 := Ext.push _ _
  have e2 : Ext h1 h2 := Ext.push _ _
  have e3 : Ext h2 h3 := Ext.push _ _
  have e4 : Ext h3 h4 := Ext.push _ _
  have r1 : Rd h1 (some ⟨h.size, 0, none⟩) 1 [.int .i64 2] := (Fr.lit (.refl h) [.int .i64 2] 3 1 rfl).rd
  have r2 : Rd h2 (some ⟨h1.size, 0, none⟩) 3 (L3.cs ⟨4, 2, 0⟩) := (Fr.lit (.refl h1) (L3.cs ⟨4, 2, 0⟩) 80 3 rfl).rd
  have r3 : Rd h3 (some ⟨h2.size, 0, none⟩) 1 [.int .i64 4] := (Fr.lit (.refl h2) [.int .i64 4] 3 1 rfl).rd
  have r4 : Rd h4 (some ⟨h3.size, 0, none⟩) 1 [.int .i64 3] := (Fr.lit (.refl h3) [.int .i64 3] 3 1 rfl).rd
  let v : CV := ⟨2, ⟨some ⟨h.size, 0, none⟩, 1, 1⟩, ⟨some ⟨h1.size, 0, none⟩, 1, 1⟩, ⟨none, 0, 0⟩, ⟨some ⟨h2.size, 0, none⟩, 1, 1⟩, ⟨some ⟨h3.size, 0, none⟩, 1, 1⟩, ⟨none, 0, 0⟩, ⟨none, 0, 0⟩, ⟨none, 0, 0⟩, ⟨none, 0, 0⟩, ⟨none, 0, 0⟩⟩
  refine boxN (zs := CV.zero.cs) (ws := v.cs) rfl (CV.one v) fun h6 e6 b6 => ?_
  have c4 : CIs h4 v WC := ⟨rfl, ((r1.ext e2).ext e3).ext e4, (r2.ext e3).ext e4, .nil, r3.ext e4, r4, RdRs.nil, .nil, .nil, .nil, .nil⟩
  have e06 : Ext h h6 := (((e1.trans e2).trans e3).trans e4).trans e6
  refine ldC b6 ((c31 (c4.ext e6) WC_ok).mono ?_)
  rintro _ h7 ⟨v', rfl, cn⟩
  rw [WC_fold] at cn ⊢
  refine ⟨_, _, _, _, _, _, _, _, _, _, _, _, _, _, _, _, _, _, _, _, _, _, _, _, _, _, _, _, _, _, _, _, rfl, ?_⟩
  intro h8
  refine boxN (zs := CV.zero.cs) (ws := v'.cs) rfl (CV.one v') fun h9 e9 b9 => ?_
  have c9 := cn.cis.ext e9
  have hl := c9.len
  have e09 : Ext h h9 := (e06.trans cn.heap).trans e9
  have fw : foldC WC = ⟨5, [2], [⟨4, 2, 0⟩, ⟨6, 8, 1⟩], [], [10], [], [], [8], [⟨8, 6, 3⟩, ⟨10, 8, 4⟩], [], []⟩ := by kernel_rfl
  have hmx := c9.mx
  obtain ⟨q1, q2, q3, q4, q5, q6, q7, q8, q9, q10⟩ := hl
  rw [fw] at hmx q2 q4 q5
  have rl := c9.l
  have rb := c9.b
  rw [fw] at rl rb
  simp only [List.length_cons, List.length_nil] at q2 q4 q5
  have fls : ∀ {P : Prop}, P → P := fun h => h
  refine ⟨fun _ => ⟨_, b9.fld 0 rfl, fun _ => ⟨_, _, _, b9.fld 2 rfl, fun _ => ⟨_, _, _, b9.fld 2 rfl, by omega, by omega, rl.elem L3.csl (by omega) (i := 1) (by omega) fun ad hl1 re => ⟨_, _, _, re.cells, fun _ => ⟨_, _, _, b9.fld 4 rfl, fun _ => ⟨_, _, _, b9.fld 4 rfl, by omega, by omega, rb.getn (i := 0) (by omega) fun ad1 hl2 hc => ⟨_, hc, fun _ => ⟨_, _, _, b9.fld 5 rfl, fun _ => ⟨rfl, e09⟩, fun e => ?_⟩, fun e => ?_⟩⟩, fun e => ?_⟩, fun e => ?_⟩⟩, fun e => ?_⟩, fun e => ?_⟩, fun e => ?_⟩
  · exact absurd (by omega) e
  · exact absurd rfl e
  · exact absurd (by omega) e
  · exact absurd rfl e
  · exact absurd (by omega) e
  · exact absurd hmx e
  · exact absurd rfl e
theorem zsm : CSm Circ.zero := ⟨by simp [Circ.zero], fun r hr => (by cases hr)⟩
/-- What comes of a fold holds in memory. -/
theorem foldBads_sm (good : Int) : ∀ (l : List Int) (i : Nat) (C : Circ), (foldBads good l i C).ands.length = C.ands.length + l.length ∧ (foldBads good l i C).bads.length = C.bads.length ∧ (foldBads good l i C).ins = C.ins ∧ (foldBads good l i C).outs = C.outs ∧ (foldBads good l i C).just = C.just ∧ (foldBads good l i C).coms = C.coms
  | [], i, C => ⟨rfl, rfl, rfl, rfl, rfl, rfl⟩
  | x :: l, i, C => by
    obtain ⟨h1, h2, h3, h4, h5, h6⟩ := foldBads_sm good l (i + 1) { gate1 C x good with bads := C.bads.set i (2 * (C.mx + 1)) }
    rw [foldBads]
    refine ⟨by rw [h1]; simp [gate1]; omega, by rw [h2]; simp, h3, h4, h5, h6⟩
theorem le_sum {r : List Int} : ∀ {L : List (List Int)}, r ∈ L → r.length ≤ (L.map List.length).sum
  | [], h => (by cases h)
  | x :: L, h => by
    rw [List.map_cons, List.sum_cons]
    rcases List.mem_cons.1 h with rfl | h
    · omega
    · have := le_sum h; omega
theorem foldR_sm (C : Circ) : CSm (foldR C).1 := by
  unfold foldR
  split
  · exact zsm
  rename_i hc
  split
  · exact zsm
  obtain ⟨⟨b0, b1⟩, b2, b3, b4, b5, b6, b7, b8, b9, b10, b11, b12⟩ := chk_bounds (Decidable.not_not.1 hc)
  obtain ⟨G, hG, hGl⟩ := foldCons_shape C.cons { C with mx := C.mx + 1 } (2 * (C.mx + 1))
  obtain ⟨h1, h2, h3, h4, h5, h6⟩ := foldBads_sm (foldCons C.cons { C with mx := C.mx + 1 } (2 * (C.mx + 1))).2 C.bads 0 (foldCons C.cons { C with mx := C.mx + 1 } (2 * (C.mx + 1))).1
  have hfs : (C.syms.filter fun s => decide (s.k ≠ 99)).length ≤ C.syms.length := List.length_filter_le _ _
  rw [hG] at h1 h2 h3 h4 h5 h6
  simp only at h1 h2 h3 h4 h5 h6 hGl
  have hj : ∀ r ∈ C.just, r.length ≤ (C.just.map List.length).sum := fun r hr => le_sum hr
  obtain ⟨F, hF⟩ : ∃ F, F = foldC C := ⟨_, rfl⟩
  have l1 : F.ins.length = C.ins.length := by rw [hF]; unfold foldC; simp only [hG, h3]
  have l2 : F.lats.length = C.lats.length + 1 := by rw [hF]; unfold foldC; simp
  have l3 : F.outs.length = C.outs.length := by rw [hF]; unfold foldC; simp only [hG, h4]
  have l4 : F.bads.length = C.bads.length := by rw [hF]; unfold foldC; simp only [hG, h2]
  have l5 : F.cons.length = 0 := by rw [hF]; unfold foldC; rfl
  have l6 : F.just = C.just := by rw [hF]; unfold foldC; simp only [hG, h5]
  have l7 : F.fair.length = C.fair.length + 1 := by rw [hF]; unfold foldC; simp
  have l8 : F.ands.length = C.ands.length + C.cons.length + C.bads.length := by rw [hF]; unfold foldC; simp only [hG, h1]; omega
  have l9 : F.syms.length ≤ C.syms.length := by rw [hF]; unfold foldC; exact hfs
  have l10 : F.coms.length = C.coms.length := by rw [hF]; unfold foldC; simp only [hG, h6]
  show CSm (foldC C)
  rw [← hF]
  refine ⟨⟨?_, ?_, ?_, ?_, ?_, ?_, ?_, ?_, ?_, ?_⟩, fun r hr => ?_⟩
  · omega
  · omega
  · omega
  · omega
  · omega
  · rw [l6]; omega
  · omega
  · omega
  · omega
  · omega
  · rw [l6] at hr
    have := hj r hr
    omega

theorem CNew.cis_upd {h0 h h' : Heap} {v : CV} {C : Circ} (c : CNew h0 h v C) {S : Nat → Prop} (u : Upd S h h') (hs : ∀ b, S b → b < h0.size) : CIs h' v C := by
  obtain ⟨rows, hj, m⟩ := c.ex
  have key : ∀ {k : Nat} {t : Itm}, (itemsC v C rows)[k]? = some t → Rd h' t.a (t.n * t.sz) t.vs := fun hk => (m.at' _ hk).own.rd.upd u fun ad ha hS => by
    have := (m.at' _ hk).new ad ha
    have := hs _ hS
    omega
  have hr : ∀ r ∈ rows, Rd h' r.a r.n (ints r.l) ∧ r.n ≤ r.c := fun r hr => by
    obtain ⟨i, hi, rfl⟩ := List.getElem_of_mem hr
    have := items_row (v := v) (C := C) hi
    exact ⟨Rd.one (key this), (m.at' _ this).own.cap⟩
  exact ⟨c.mx, Rd.one (key (k := 0) rfl), key (k := 1) rfl, Rd.one (key (k := 2) rfl), Rd.one (key (k := 3) rfl), Rd.one (key (k := 4) rfl), hj ▸ ⟨⟨rows, Rd.one (key (k := 5) rfl), hr, rfl⟩⟩, Rd.one (key (k := 6) rfl), key (k := 7) rfl, key (k := 8) rfl, Rd.one (key (k := 9) rfl)⟩
section
variable {h : Heap} {v : CV} {C : Circ}
set_option maxRecDepth 4000 in
theorem c7 (r : CIs h v C) (ok : C.Ok) : CallsH Try.prog 7 #[v.v] h (Xt (.bool true) h) := by
  have sm := foldR_sm C
  refine run7 v.mx v.i.a v.i.n v.i.c v.l.a v.l.n v.l.c v.o.a v.o.n v.o.c v.b.a v.b.n v.b.c v.c.a v.c.n v.c.c v.j.a v.j.n v.j.c v.f.a v.f.n v.f.c v.g.a v.g.n v.g.c v.s.a v.s.n v.s.c v.m.a v.m.n v.m.c _ h ?_
  unfold VC7
  intro h1
  have e1 : Ext h h1 := Ext.box h _
  have b1 : Rd h1 (some ⟨h.size, 0, none⟩) 11 v.cs := boxC v 29
  refine ldC b1 ((c13 (r.ext e1) ok).mono ?_)
  rintro _ h2 ⟨v2, rfl, li, e2⟩
  refine ⟨_, _, _, _, _, _, _, _, _, _, _, _, _, _, _, _, _, _, _, _, _, _, _, _, _, _, _, _, _, _, _, rfl, ?_⟩
  intro h3
  refine boxN (zs := CV.zero.cs) (ws := v2.cs) rfl (CV.one v2) fun h4 e4 b4 => ?_
  refine ldC b4 ((c31 (li.cis.ext e4) ok).mono ?_)
  rintro _ h5 ⟨vx, rfl, cx⟩
  refine ⟨_, _, _, _, _, _, _, _, _, _, _, _, _, _, _, _, _, _, _, _, _, _, _, _, _, _, _, _, _, _, _, _, rfl, ?_⟩
  intro h6
  refine boxN (zs := CV.zero.cs) (ws := vx.cs) rfl (CV.one vx) fun h7 e7 b7 => ?_
  have e47 : Ext h4 h7 := cx.heap.trans e7
  refine ldC (b4.ext e47) ((c31 (li.cis.ext (e4.trans e47)) ok).mono ?_)
  rintro _ h8 ⟨va, rfl, ca⟩
  refine ⟨_, _, _, _, _, _, _, _, _, _, _, _, _, _, _, _, _, _, _, _, _, _, _, _, _, _, _, _, _, _, _, _, rfl, ?_⟩
  intro h9
  refine boxN (zs := CV.zero.cs) (ws := va.cs) rfl (CV.one va) fun h10 e10 b10 => ?_
  have e4_10 : Ext h4 h10 := (e47.trans ca.heap).trans e10
  have e1_10 : Ext h1 h10 := (e2.trans e4).trans e4_10
  have r10 : CIs h10 v C := r.ext (e1.trans e1_10)
  refine ldC (b1.ext e1_10) ((c32 r10 ok).mono ?_)
  rintro _ h11 ⟨vy, rfl, cy⟩
  refine ⟨_, _, _, _, _, _, _, _, _, _, _, _, _, _, _, _, _, _, _, _, _, _, _, _, _, _, _, _, _, _, _, _, rfl, ?_⟩
  intro h12
  refine boxN (zs := CV.zero.cs) (ws := vy.cs) rfl (CV.one vy) fun h13 e13 b13 => ?_
  have e7_13 : Ext h7 h13 := ((ca.heap.trans e10).trans cy.heap).trans e13
  have cx13 := (cx.ext e7).ext e7_13
  have cy13 := cy.ext e13
  refine ldC (b7.ext e7_13) (ldC b13 (useX (c33 cx13.cis cy13.cis sm) fun h14 e14 => ⟨true, rfl, BIf.f ⟨fun _ => ?_, fun e => absurd rfl e⟩⟩))
  -- spoilt
  refine ldC ((b7.ext e7_13).ext e14) ((c34 cx ((e7.trans e7_13).trans e14) sm (-7)).mono ?_)
  rintro _ h15 ⟨rfl, u15⟩
  -- what is older or newer than the spoilt one stays
  have e8_14 : Ext h8 h14 := ((e10.trans cy.heap).trans e13).trans e14
  have h57 : h5.size ≤ h7.size := e7.1
  have e11_14 : Ext h11 h14 := e13.trans e14
  have e4_14 : Ext h4 h14 := (e47.trans (e7_13.trans e14))
  have e4_15 : Ext h4 h15 := e4_14.newer u15 fun i hi hS => by have := hS.1; omega
  have ca15 : CIs h15 va (foldR C).1 := (ca.ext e8_14).cis_upd u15 fun b hb => by have := hb.2; omega
  have hsz : h7.size ≤ h10.size := Nat.le_trans ca.heap.1 e10.1
  have cy15 : CIs h15 vy (foldR C).1 := (cy.ext e11_14).cis_upd u15 fun b hb => by have := hb.2; omega
  have hs8 : h7.size ≤ h8.size := ca.heap.1
  have hs11 : h10.size ≤ h11.size := cy.heap.1
  have b10_14 : Rd h14 (some ⟨h8.size, 0, none⟩) va.cs.length va.cs := b10.ext ((cy.heap.trans e13).trans e14)
  have b10_15 : Rd h15 (some ⟨h8.size, 0, none⟩) 11 va.cs := b10_14.upd u15 fun ad ha hS => by cases ha; have := hS.2; simp only at this; omega
  have b13_15 : Rd h15 (some ⟨h11.size, 0, none⟩) 11 vy.cs := (b13.ext e14).upd u15 fun ad ha hS => by cases ha; have := hS.2; simp only at this; omega
  refine ⟨rfl, ldC b10_15 (ldC b13_15 (useX (c33 ca15 cy15 sm) fun h16 e16 => ⟨true, rfl, BIf.t ?_⟩))⟩
  have e4_16 := e4_15.trans e16
  have e1_16 : Ext h1 h16 := (e2.trans e4).trans e4_16
  refine ldC (b4.ext e4_16) (ldC (b1.ext e1_16) (useX (c21 (li.ext (e4.trans e4_16)) (r.ext (e1.trans e1_16)) (Circ.Ok.sm ok)) fun h17 e17 => ⟨true, rfl, BIf.t ?_⟩))
  exact useX (c35 h17) fun h18 e18 => ⟨true, rfl, rfl, ((e1.trans e1_16).trans e17).trans e18⟩
end
end Go.Proofs.Ytpmpacdjcfijbaa
