/- Words and facts that the claim's proof leans on. No condition. -/
import Derived.Test.YtpmpacdjcfijbaaCN
import Derived.Test.YtpmpacdjcfijbaaCAc
/- The document's definitions and uses. No condition. -/
set_option linter.unusedVariables false
set_option linter.unusedSimpArgs false
namespace Go.Proofs.Ytpmpacdjcfijbaa
open Go.Hx
def kB (B : List Mk) : List Bool := B.map fun p => decide (p.1 ≠ 0)
theorem kB_len (B : List Mk) : (kB B).length = B.length := by simp [kB]
theorem kB_at {B : List Mk} {i : Nat} (h : i < B.length) : (kB B)[i]? = some (decide (B[i].1 ≠ 0)) := by simp [kB, h]
theorem kB_put {B : List Mk} {l k i : Int} (hk : k ≠ 0) : kB (put1 B l k i) = (kB B).set (l / 2).toNat true := by
  unfold kB put1
  rw [List.map_set]
  simp [hk]
theorem tdiv2 {l : Int} (h : 0 ≤ l) (hl : l ≤ 9223372036854775807) : IntKind.wrap .i64 (Int.tdiv l 2) = l / 2 := by
  rw [Int.tdiv_eq_ediv_of_nonneg h, w64 (by omega) (by omega)]
theorem c124 {h0 h : Heap} {v : CV} {ad : Addr} {n : Nat} {B : List Mk} (f : Fr h0 1 h (some ad) n n (bools (kB B))) (h1 : 0 ≤ v.mx) (h2 : v.mx ≤ 16384) (hB : B.length = (v.mx + 1).toNat) {l : Int} (hl : W64 l) {k : Int} (hk : k ≠ 0) (i : Int) :
    CallsH Try.prog 124 #[v.v, .slice (some ad) n n, .int .i64 l] h fun w h' => w = .int .i64 (mk1 v.mx B l) ∧ Fr h0 1 h' (some ad) n n (bools (kB (if mk1 v.mx B l = 0 then put1 B l k i else B))) ∧ Upd (fun b => b = ad.block) h h' := by
  refine run124 v.mx v.i.a v.i.n v.i.c v.l.a v.l.n v.l.c v.o.a v.o.n v.o.c v.b.a v.b.n v.b.c v.c.a v.c.n v.c.c v.j.a v.j.n v.j.c v.f.a v.f.n v.f.c v.g.a v.g.n v.g.c v.s.a v.s.n v.s.c v.m.a v.m.n v.m.c (some ad) n n l _ h ?_
  have hb := boxC (h := h) v 29
  have hu := Ext.box h (.cells (Value.cells v.v) 29)
  unfold VC124
  intro h3
  have f3 : Fr h0 1 h3 (some ad) n n (bools (kB B)) := f.upd hu
  have hn : n = B.length := by have := f.rd.ilen; rw [kB_len] at this; exact this.symm
  have e30 : (l < 2 ∨ l % 2 = 1 ∨ 2 * v.mx < l) → mk1 v.mx B l = 30 := fun hh => by rw [mk1, if_pos hh]
  have fin30 : mk1 v.mx B l = 30 → (Value.int .i64 30 = .int .i64 (mk1 v.mx B l) ∧ Fr h0 1 h3 (some ad) n n (bools (kB (if mk1 v.mx B l = 0 then put1 B l k i else B))) ∧ Upd (fun b => b = ad.block) h h3) := fun e => by
    rw [e, if_neg (by omega)]; exact ⟨rfl, f3, Upd.wide hu⟩
  refine ⟨fun h4 => fin30 (e30 (.inl h4)), fun h4 => ⟨fun h5 => fin30 (e30 (.inr (.inl (by rwa [Int.tmod_eq_emod_of_nonneg (by omega)] at h5)))), fun h5 => ⟨v.mx, hb.fld 0 rfl, fun h6 => ?_, fun h6 => ?_⟩⟩⟩
  · rw [w64 (by omega) (by omega)] at h6
    exact fin30 (e30 (.inr (.inr h6)))
  rw [w64 (by omega) (by omega)] at h6
  rw [Int.tmod_eq_emod_of_nonneg (by omega)] at h5
  have hno : ¬ (l < 2 ∨ l % 2 = 1 ∨ 2 * v.mx < l) := by omega
  have hi : (l / 2).toNat < B.length := by omega
  have hmk : mk1 v.mx B l = if (B[(l / 2).toNat]).1 = 0 then 0 else 31 := by rw [mk1, if_neg hno, getD_at hi]
  unfold J124_0
  rw [tdiv2 (by omega) hl.2]
  refine ⟨by omega, by omega, _, f3.rd.getN (kB_at hi), ?_⟩
  by_cases hz : (B[(l / 2).toNat]).1 = 0
  · rw [if_pos hz] at hmk
    rw [decide_eq_false (by simpa using hz)]
    refine BIf.f ⟨by omega, by omega, ?_⟩
    refine f3.at1 (by omega) (by omega) rfl fun h7 u7 f7 => ⟨by rw [hmk], ?_, (Upd.wide hu).trans (u7.mono fun b _ ⟨x, hx, e⟩ => by cases hx; exact e)⟩
    rw [hmk, if_pos rfl, kB_put hk]
    rw [bools, List.map_set]
    exact f7
  · rw [if_neg hz] at hmk
    rw [decide_eq_true (by simpa using hz)]
    exact BIf.t ⟨by rw [hmk], by rw [hmk, if_neg (by omega)]; exact f3, Upd.wide hu⟩
/-- What comes of the definitions. -/
def RPost (C : Circ) (h : Heap) (D : DR) (w : Value) (h' : Heap) : Prop :=
  if D.2.1 = 0 then ∃ ad n, w = .tuple #[.slice (some ad) n n, .int .i64 0, .int .i64 0] ∧ Fr h 1 h' (some ad) n n (bools ((kB D.2.2).set 0 true)) ∧ D.2.2.length = n ∧ n = (C.mx + 1).toNat
  else w = .tuple #[.slice none 0 0, .int .i64 D.1, .int .i64 D.2.1] ∧ Ext h h'
section
variable {h : Heap} {v : CV} {C : Circ}
theorem r3 {h_ h1 h3 hb : Heap} {D : DR} {B : List Mk} (hxb : Rd hb (some ⟨h.size, 0, none⟩) 11 v.cs) (eb : Ext h hb) (hbs : hb.size = h.size + 1) (hh_ : h_.size = h.size + 1) (f : Fr hb 1 h3 (some ⟨h_.size, 0, none⟩) (v.mx + 1).toNat (v.mx + 1).toNat (bools (kB B))) (hB : B.length = (v.mx + 1).toNat) (hm1 : 0 ≤ v.mx) (hm2 : v.mx ≤ 16384) (r : CIs h v C) (ok : C.Ok)
    (hD : defG C.mx 3 L3.a (fun _ => 0) C.ands 0 B (fun B => (0, 0, B)) = D) : J89_2 Try.prog (RPost C h D) h h_ v.mx h3 := by
  have hl := r.len
  have hmx := r.mx
  have hw : IntKind.wrap .i64 (v.mx + 1) = v.mx + 1 := w64 (by omega) (by omega)
  refine LoopT.to (n := v.g.n) (by have := ok.n; have := hl.g; omega) (fun i h' => ∃ B', Fr hb 1 h' (some ⟨h_.size, 0, none⟩) (v.mx + 1).toNat (v.mx + 1).toNat (bools (kB B')) ∧ B'.length = (v.mx + 1).toNat ∧ defG C.mx 3 L3.a (fun _ => 0) (C.ands.drop i) i B' (fun B => (0, 0, B)) = D) ⟨B, f, hB, hD⟩ ?_
  rintro i h' K hi ⟨B', f', hB', hD'⟩ hK
  have u' := f'.ext
  refine ⟨_, _, _, (hxb.ext u').fld 8 rfl, fun hlt => ?_, fun hlt => ?_⟩
  · refine ldC (hxb.ext u') ⟨_, _, _, (hxb.ext u').fld 8 rfl, by omega, hlt, (r.g.ext (eb.trans u')).elem L3.csl (by omega) (i := i) (by omega) fun ad hl1 re => ⟨_, re.fld 0 rfl, ?_⟩⟩
    rw [defG_cons hl1] at hD'
    rw [hw]
    refine (c124 (v := v) f' hm1 hm2 hB' (ok.ands _ (List.getElem_mem hl1)).1 (k := 3) (by omega) i).mono ?_
    rintro _ h5 ⟨rfl, f5, _⟩
    rw [hmx] at f5 ⊢
    refine ⟨_, rfl, fun he => ?_, fun he => ?_⟩
    · rw [if_pos he] at hD' f5
      rw [if_pos rfl] at hD'
      exact hK _ (by omega) ⟨_, by rw [← hmx] at f5; exact f5, by rw [put1_len]; exact hB', hD'⟩
    · rw [if_neg he] at hD'
      subst hD'
      show RPost C h _ _ _
      unfold RPost
      rw [if_neg he]
      exact ⟨rfl, eb.trans f5.ext⟩
  · have : v.g.n ≤ i := by omega
    rw [defG_end (by rw [hl.g]; exact this)] at hD'
    subst hD'
    unfold J89_5
    rw [hw]
    refine ⟨by omega, by omega, ?_⟩
    refine f'.at1 (j := 0) (by omega) (by omega) rfl fun h5 u5 f5 => ?_
    show RPost C h _ _ _
    unfold RPost
    rw [if_pos rfl]
    refine ⟨_, _, rfl, ?_, hB', by rw [hmx]⟩
    have : (bools (kB B')).set (Int.toNat 0) (.bool true) = bools ((kB B').set 0 true) := by rw [bools, bools, List.map_set]; rfl
    rw [this] at f5
    exact f5.base eb
theorem r2 {h_ h1 h3 hb : Heap} {D : DR} {B : List Mk} (hxb : Rd hb (some ⟨h.size, 0, none⟩) 11 v.cs) (eb : Ext h hb) (hbs : hb.size = h.size + 1) (hh_ : h_.size = h.size + 1) (f : Fr hb 1 h3 (some ⟨h_.size, 0, none⟩) (v.mx + 1).toNat (v.mx + 1).toNat (bools (kB B))) (hB : B.length = (v.mx + 1).toNat) (hm1 : 0 ≤ v.mx) (hm2 : v.mx ≤ 16384) (r : CIs h v C) (ok : C.Ok)
    (hD : defG C.mx 2 L3.a rst C.lats 0 B (fun B => defG C.mx 3 L3.a (fun _ => 0) C.ands 0 B (fun B => (0, 0, B))) = D) : J89_0 Try.prog (RPost C h D) h h_ v.mx h3 := by
  have hl := r.len
  have hmx := r.mx
  have hw : IntKind.wrap .i64 (v.mx + 1) = v.mx + 1 := w64 (by omega) (by omega)
  refine LoopT.to (n := v.l.n) (by have := ok.n; have := hl.l; omega) (fun i h' => ∃ B', Fr hb 1 h' (some ⟨h_.size, 0, none⟩) (v.mx + 1).toNat (v.mx + 1).toNat (bools (kB B')) ∧ B'.length = (v.mx + 1).toNat ∧ defG C.mx 2 L3.a rst (C.lats.drop i) i B' (fun B => defG C.mx 3 L3.a (fun _ => 0) C.ands 0 B (fun B => (0, 0, B))) = D) ⟨B, f, hB, hD⟩ ?_
  rintro i h' K hi ⟨B', f', hB', hD'⟩ hK
  have u' := f'.ext
  refine ⟨_, _, _, (hxb.ext u').fld 2 rfl, fun hlt => ?_, fun hlt => ?_⟩
  · refine ⟨_, _, _, (hxb.ext u').fld 2 rfl, by omega, hlt, (r.l.ext (eb.trans u')).elem L3.csl (by omega) (i := i) (by omega) fun ad hl1 re => ⟨_, _, _, re.cells, box3 C.lats[i] fun h4 e4 b4 => ?_⟩⟩
    refine ldC (hxb.ext (u'.trans e4)) ⟨_, b4.fld 0 rfl, ?_⟩
    rw [defG_cons hl1] at hD'
    rw [hw]
    have f4 := f'.upd e4
    refine (c124 (v := v) f4 hm1 hm2 hB' (ok.lats _ (List.getElem_mem hl1)).1 (k := 2) (by omega) i).mono ?_
    rintro _ h5 ⟨rfl, f5, u5⟩
    rw [hmx] at f5 ⊢
    refine ⟨_, rfl, fun he => ?_, fun he => ?_⟩
    · rw [if_pos he] at hD' f5
      have hbk : h'.size ≠ h_.size := by have := f'.own.lt; simp only at this; omega
      have b5 := b4.upd u5 fun ad e => by cases e; exact hbk
      have next : rst C.lats[i] = 0 → K (IntKind.wrap .i64 ((i : Int) + 1)) h5 := fun hr => by
        rw [if_pos hr] at hD'
        exact hK _ (by omega) ⟨_, by rw [← hmx] at f5; exact f5, by rw [put1_len]; exact hB', hD'⟩
      refine ⟨_, b5.fld 2 rfl, fun h7 => next (by rw [rst, if_pos (.inl h7)]), fun h7 => ⟨_, b5.fld 2 rfl, fun h8 => next (by rw [rst, if_pos (.inr (.inl h8))]), fun h8 => ⟨_, b5.fld 2 rfl, _, b5.fld 0 rfl, fun h9 => next (by rw [rst, if_pos (.inr (.inr h9))]), fun h9 => ?_⟩⟩⟩
      have hr : rst C.lats[i] = 33 := by rw [rst, if_neg (fun hh => hh.elim h7 fun hh => hh.elim h8 h9)]
      rw [hr, if_neg (by omega)] at hD'
      subst hD'
      show RPost C h _ _ _
      unfold RPost
      rw [if_neg (by simp)]
      exact ⟨rfl, eb.trans f5.ext⟩
    · rw [if_neg he] at hD'
      subst hD'
      show RPost C h _ _ _
      unfold RPost
      rw [if_neg he]
      exact ⟨rfl, eb.trans f5.ext⟩
  · have : v.l.n ≤ i := by omega
    rw [defG_end (by rw [hl.l]; exact this)] at hD'
    exact r3 (h1 := h1) hxb eb hbs hh_ f' hB' hm1 hm2 r ok hD'
end
end Go.Proofs.Ytpmpacdjcfijbaa
/- The document's uses. No condition. -/
set_option linter.unusedVariables false
set_option linter.unusedSimpArgs false
namespace Go.Proofs.Ytpmpacdjcfijbaa
open Go.Hx
def dB (B : List Mk) : List Bool := (kB B).set 0 true
/-- What is defined, in a row. -/
structure DRow (h : Heap) (C : Circ) (B : List Mk) (da : Option Addr) (n : Nat) : Prop where
  rd : Rd h da n (bools (dB B))
  len : B.length = n
  n : n = (C.mx + 1).toNat
theorem DRow.ext {h h' : Heap} {C : Circ} {B : List Mk} {da : Option Addr} {n : Nat} (d : DRow h C B da n) (u : Ext h h') : DRow h' C B da n := ⟨d.rd.ext u, d.len, d.n⟩
section
variable {h : Heap} {v : CV} {C : Circ} {B : List Mk} {da : Option Addr} {n c : Nat}
end
end Go.Proofs.Ytpmpacdjcfijbaa
/- The document's gates. No condition. -/
set_option linter.unusedVariables false
set_option linter.unusedSimpArgs false
namespace Go.Proofs.Ytpmpacdjcfijbaa
open Go.Hx
def pos (x : L3) : Nat := (x.a / 2).toNat
section
variable {h : Heap} {v : CV} {C : Circ}
end
end Go.Proofs.Ytpmpacdjcfijbaa
/- The document's order of gates. No condition. -/
set_option linter.unusedVariables false
set_option linter.unusedSimpArgs false
namespace Go.Proofs.Ytpmpacdjcfijbaa
open Go.Hx
structure TO (n : Nat) (bl : Nat → List Nat) (out : List Nat) : Prop where
  nd : out.Nodup
  lt : ∀ i ∈ out, i < n
  topo : ∀ k (hk : k < out.length), ∀ y ∈ bl out[k], y ∈ out.take k
theorem TO.add {n : Nat} {bl : Nat → List Nat} {out : List Nat} (t : TO n bl out) {i : Nat} (hi : i < n) (hn : i ∉ out) (hb : ∀ y ∈ bl i, y ∈ out) : TO n bl (out ++ [i]) := by
  refine ⟨?_, fun j hj => ?_, fun k hk y hy => ?_⟩
  · rw [List.nodup_append]
    exact ⟨t.nd, by simp, fun a ha b hb e => by simp at hb; subst hb; subst e; exact hn ha⟩
  · rcases List.mem_append.1 hj with h | h
    · exact t.lt j h
    · simp at h; omega
  · rcases Nat.lt_or_ge k out.length with h | h
    · rw [List.getElem_append_left h] at hy
      rw [List.take_append_of_le_length (by omega)]
      exact t.topo k h y hy
    · have hk2 : k = out.length := by simp at hk; omega
      subst hk2
      rw [List.take_left]
      rw [List.getElem_append_right (by omega)] at hy
      simp at hy
      exact hb y hy
theorem TO.len {n : Nat} {bl : Nat → List Nat} {out : List Nat} (t : TO n bl out) : out.length ≤ n := nodup_len n out t.nd t.lt
section
variable {h : Heap} {v : CV} {C : Circ} {B : List Mk}
end
end Go.Proofs.Ytpmpacdjcfijbaa
/- The document's search for a gate that comes round. No condition. -/
set_option linter.unusedVariables false
set_option linter.unusedSimpArgs false
namespace Go.Proofs.Ytpmpacdjcfijbaa
open Go.Hx
/-- A search from 'at' on: the places that were met, in order. -/
structure BF (n : Nat) (bl : Nat → List Nat) (s : Nat) (T : List Nat) (seen : List Bool) : Prop where
  lt : ∀ x ∈ T, x < n
  nd : T.Nodup
  len : seen.length = n
  seen : ∀ y, y < n → seen[y]? = some (decide (y ∈ T))
  reach : ∀ x ∈ T, Relation.TransGen (fun a b => b ∈ bl a) s x
theorem BF.le {n : Nat} {bl : Nat → List Nat} {s : Nat} {T : List Nat} {seen : List Bool} (b : BF n bl s T seen) : T.length ≤ n := nodup_len n T b.nd b.lt
theorem BF.start (n : Nat) (bl : Nat → List Nat) (s : Nat) : BF n bl s [] (List.replicate n false) := ⟨fun x hx => (by cases hx), by simp, by simp, fun y hy => by simp [hy], fun x hx => (by cases hx)⟩
theorem BF.add {n : Nat} {bl : Nat → List Nat} {s : Nat} {T : List Nat} {seen : List Bool} (b : BF n bl s T seen) {y : Nat} (hy : y < n) (hn : y ∉ T) {x : Nat} (hx : x = s ∨ x ∈ T) (hxy : y ∈ bl x) : BF n bl s (T ++ [y]) (seen.set y true) := by
  refine ⟨fun z hz => ?_, ?_, by rw [List.length_set]; exact b.len, fun z hz => ?_, fun z hz => ?_⟩
  · rcases List.mem_append.1 hz with h | h
    · exact b.lt z h
    · simp at h; omega
  · rw [List.nodup_append]
    exact ⟨b.nd, by simp, fun a ha c hc e => by simp at hc; subst hc; subst e; exact hn ha⟩
  · rw [getElem?_set_eq, b.len]
    split
    · rename_i hh; rw [← hh.1]; simp
    · rename_i hh
      rw [b.seen z hz]
      have : z ≠ y := fun e => hh ⟨e.symm, hy⟩
      simp [this]
  · rcases List.mem_append.1 hz with h | h
    · exact b.reach z h
    · simp at h
      subst h
      rcases hx with rfl | hx
      · exact .single hxy
      · exact .tail (b.reach x hx) hxy
/-- All that was met was looked at, and nothing leads back. -/
theorem BF.done {n : Nat} {bl : Nat → List Nat} {s : Nat} {T : List Nat} {seen : List Bool} (b : BF n bl s T seen) (hp : ∀ x ∈ s :: T, ∀ y ∈ bl x, y ≠ s ∧ y ∈ T) : ¬ Relation.TransGen (fun a b => b ∈ bl a) s s := by
  have key : ∀ y, Relation.TransGen (fun a b => b ∈ bl a) s y → y ≠ s ∧ y ∈ T := by
    intro y hy
    induction hy with
    | single h => exact hp s (List.mem_cons_self ..) _ h
    | tail _ h ih => exact hp _ (List.mem_cons_of_mem _ ih.2) _ h
  exact fun h => (key s h).1 rfl
section
variable {h : Heap} {v : CV} {C : Circ} {B : List Mk}
end
end Go.Proofs.Ytpmpacdjcfijbaa
