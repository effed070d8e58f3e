/- Words and facts that the claim's proof leans on. No condition. -/
import Derived.Test.YtbfejkmnkkpkhaaHxK
import Derived.DataElems
set_option linter.unusedVariables false
set_option linter.unusedSimpArgs false
namespace Go.Hx

theorem w64 {x : Int} (h1 : -9223372036854775808 ≤ x) (h2 : x ≤ 9223372036854775807) : IntKind.wrap .i64 x = x := by rw [IntKind.wrap_i64]; omega

/-- It returns v, and the heap stays. -/
def Ret (v : Value) (h : Heap) : Value → Heap → Prop := fun u h' => u = v ∧ h' = h
theorem use {P : Program} {f : FuncId} {args : Array Value} {h : Heap} {v : Value} {R : Value → Heap → Prop} (c : CallsH P f args h (Ret v h)) (hk : R v h) : CallsH P f args h R :=
  c.mono fun _ _ ⟨h1, h2⟩ => h1 ▸ h2 ▸ hk

theorem BIf.t {A B : Prop} (h : A) : BIf true A B := h
theorem BIf.f {A B : Prop} (h : B) : BIf false A B := h

/-! ### What stays -/
def Upd (S : Nat → Prop) (h h' : Heap) : Prop := h.size ≤ h'.size ∧ ∀ b, b < h.size → ¬ S b → h'[b]? = h[b]?
def nob : Nat → Prop := fun _ => False
abbrev Ext (h h' : Heap) : Prop := Upd nob h h'
def atb (a : Option Addr) : Nat → Prop := fun b => ∃ ad, a = some ad ∧ b = ad.block

theorem Upd.refl {S : Nat → Prop} (h : Heap) : Upd S h h := ⟨Nat.le_refl _, fun _ _ _ => rfl⟩
theorem Upd.trans {S : Nat → Prop} {a b c : Heap} (h : Upd S a b) (k : Upd S b c) : Upd S a c :=
  ⟨Nat.le_trans h.1 k.1, fun i hi hs => (k.2 i (Nat.lt_of_lt_of_le hi h.1) hs).trans (h.2 i hi hs)⟩
theorem Upd.mono {S T : Nat → Prop} {a b : Heap} (h : Upd S a b) (hs : ∀ i, i < a.size → S i → T i) : Upd T a b := ⟨h.1, fun i hi ht => h.2 i hi fun s => ht (hs i hi s)⟩
theorem Upd.wide {S : Nat → Prop} {a b : Heap} (h : Ext a b) : Upd S a b := h.mono fun _ _ h => h.elim
/-- What is written later stands in blocks that weren't there. -/
theorem Upd.newer {S T : Nat → Prop} {a b c : Heap} (h : Upd S a b) (k : Upd T b c) (hn : ∀ i, i < a.size → T i → S i) : Upd S a c :=
  ⟨Nat.le_trans h.1 k.1, fun i hi hs => (k.2 i (Nat.lt_of_lt_of_le hi h.1) fun t => hs (hn i hi t)).trans (h.2 i hi hs)⟩
theorem Ext.push (h : Heap) (o : Obj) : Ext h (h.push o) := ⟨by simp, fun b hb _ => by simp [Array.getElem?_push, Nat.ne_of_lt hb]⟩

theorem cellH_lt {h : Heap} {a : Addr} {v : Value} (hc : cellH h a = some v) : a.block < h.size := by
  unfold cellH at hc
  cases hb : h[a.block]? with
  | none => simp [hb] at hc
  | some o => exact (Array.getElem?_eq_some_iff.1 hb).1
theorem cellH_congr {h h' : Heap} {a : Addr} (hb : h'[a.block]? = h[a.block]?) : cellH h' a = cellH h a := by unfold cellH; rw [hb]
theorem Upd.cell {S : Nat → Prop} {h h' : Heap} {a : Addr} {v : Value} (u : Upd S h h') (hs : ¬ S a.block) (hc : cellH h a = some v) : cellH h' a = some v := by
  rw [cellH_congr (u.2 _ (cellH_lt hc) hs)]; exact hc
theorem Ext.cell {h h' : Heap} {a : Addr} {v : Value} (u : Ext h h') (hc : cellH h a = some v) : cellH h' a = some v := Upd.cell u (fun h => h) hc

@[simp] theorem add_block (a : Addr) (n : Nat) : (a.add n).block = a.block := by unfold Addr.add; split <;> rfl
theorem Upd.readL {S : Nat → Prop} {h h' : Heap} {a : Option Addr} {vs : List Value} (u : Upd S h h') (hs : ∀ ad, a = some ad → ¬ S ad.block) (hr : ReadL h a vs) : ReadL h' a vs := by
  cases a with
  | none => exact hr
  | some ad => exact fun i v hv => u.cell (by rw [add_block]; exact hs ad rfl) (hr i v hv)
theorem Ext.readL {h h' : Heap} {a : Option Addr} {vs : List Value} (u : Ext h h') (hr : ReadL h a vs) : ReadL h' a vs := Upd.readL u (fun _ _ h => h) hr

/-! ### Rows that are read -/
/-- 'n' cells from 'a' on. -/
structure Rd (h : Heap) (a : Option Addr) (n : Nat) (vs : List Value) : Prop where
  read : ReadL h a vs
  len : vs.length = n
theorem Rd.upd {S : Nat → Prop} {h h' : Heap} {a : Option Addr} {n : Nat} {vs : List Value} (r : Rd h a n vs) (u : Upd S h h') (hs : ∀ ad, a = some ad → ¬ S ad.block) : Rd h' a n vs := ⟨u.readL hs r.read, r.len⟩
theorem Rd.ext {h h' : Heap} {a : Option Addr} {n : Nat} {vs : List Value} (r : Rd h a n vs) (u : Ext h h') : Rd h' a n vs := ⟨Ext.readL u r.read, r.len⟩
theorem Rd.nil {h : Heap} {a : Option Addr} : Rd h a 0 [] := ⟨by cases a; exact rfl; intro i v hv; simp at hv, rfl⟩
theorem Rd.some {h : Heap} {a : Option Addr} {n : Nat} {vs : List Value} (r : Rd h a n vs) (hn : 0 < n) : ∃ ad, a = .some ad := by
  cases a with
  | some ad => exact ⟨ad, rfl⟩
  | none => have := r.len; rw [show vs = [] from r.read] at this; simp at this; omega
theorem Rd.at {h : Heap} {a : Option Addr} {n : Nat} {vs : List Value} (r : Rd h a n vs) {i : Nat} {v : Value} (hv : vs[i]? = .some v) : AtP a fun ad => cellH h (ad.add i) = .some v := by
  cases a with
  | none => rw [show vs = [] from r.read] at hv; simp at hv
  | some ad => exact r.read i v hv
theorem Rd.cut {h : Heap} {ad : Addr} {n : Nat} {vs : List Value} (r : Rd h (.some ad) n vs) (l m : Nat) (hm : l + m ≤ n) : Rd h (.some (ad.add l)) m ((vs.drop l).take m) := by
  have hlen := r.len
  refine ⟨fun i v hv => ?_, by simp; omega⟩
  have hi : i < m := by
    have := (List.getElem?_eq_some_iff.1 hv).1
    simp at this; omega
  rw [Addr.add_add]
  refine r.read (l + i) v ?_
  simpa [List.getElem?_take, hi, List.getElem?_drop] using hv
theorem Rd.take {h : Heap} {a : Option Addr} {n : Nat} {vs : List Value} (r : Rd h a n vs) (m : Nat) (hm : m ≤ n) : Rd h a m (vs.take m) := by
  have hlen := r.len
  refine ⟨?_, by simp; omega⟩
  cases a with
  | none => have := r.read; simp only [ReadL] at this ⊢; rw [this]; simp
  | some ad =>
    intro i v hv
    refine r.read i v ?_
    have hi := (List.getElem?_eq_some_iff.1 hv).1
    simp at hi
    rw [List.getElem?_take_of_lt (by omega)] at hv
    exact hv
theorem Rd.cutA {h : Heap} {a : Option Addr} {n c sz : Nat} {vs : List Value} (r : Rd h a n vs) (l m : Nat) (hm : l * sz + m ≤ n) (hc : n ≤ c * sz) : Rd h (cutA sz a c l) m ((vs.drop (l * sz)).take m) := by
  unfold Hx.cutA
  split
  · rename_i hcl
    have : m = 0 := by rw [hcl] at hc; omega
    subst this
    rw [List.take_zero]; exact .nil
  · cases a with
    | none =>
      have hv : vs = [] := r.read
      have := r.len
      subst hv
      simp at this
      have : m = 0 := by omega
      subst this
      simp only [List.drop_nil, List.take_nil]
      exact .nil
    | some ad => exact r.cut _ _ hm

/-! ### Rows of one's own -/
def MemOk (sz : Nat) (h : Heap) (a : Option Addr) (c : Nat) : Prop :=
  match a with
  | none => c = 0
  | some ad => ad.spot = none ∧ ∃ (cs : Array Value) (e : TypeId), h[ad.block]? = some (.cells cs e (0, 0)) ∧ ad.off + c * sz ≤ cs.size
/-- A slice of 'n' elements of 'sz' cells, with room for 'c', in memory that may be written. -/
structure Own (sz : Nat) (h : Heap) (a : Option Addr) (n c : Nat) (vs : List Value) : Prop where
  rd : Rd h a (n * sz) vs
  cap : n ≤ c
  mem : MemOk sz h a c

theorem Own.upd {S : Nat → Prop} {sz : Nat} {h h' : Heap} {a : Option Addr} {n c : Nat} {vs : List Value} (o : Own sz h a n c vs) (u : Upd S h h') (hs : ∀ ad, a = some ad → ¬ S ad.block) : Own sz h' a n c vs := by
  refine ⟨o.rd.upd u hs, o.cap, ?_⟩
  cases a with
  | none => exact o.mem
  | some ad =>
    obtain ⟨hsp, cs, e, hb, hle⟩ := o.mem
    exact ⟨hsp, cs, e, by rw [u.2 _ (Array.getElem?_eq_some_iff.1 hb).1 (hs ad rfl)]; exact hb, hle⟩
theorem Own.ext {sz : Nat} {h h' : Heap} {a : Option Addr} {n c : Nat} {vs : List Value} (o : Own sz h a n c vs) (u : Ext h h') : Own sz h' a n c vs := o.upd u fun _ _ h => h
theorem Own.clip {sz : Nat} {h : Heap} {a : Option Addr} {n c c' : Nat} {vs : List Value} (o : Own sz h a n c vs) (h1 : n ≤ c') (h2 : c' ≤ c) : Own sz h a n c' vs := by
  refine ⟨o.rd, h1, ?_⟩
  cases a with
  | none => have : c = 0 := o.mem; show c' = 0; omega
  | some ad =>
    obtain ⟨hsp, cs, e, hb, hle⟩ := o.mem
    exact ⟨hsp, cs, e, hb, Nat.le_trans (Nat.add_le_add_left (Nat.mul_le_mul_right _ h2) _) hle⟩
theorem Own.take {sz : Nat} {h : Heap} {a : Option Addr} {n c : Nat} {vs : List Value} (o : Own sz h a n c vs) {m : Nat} (hm : m ≤ n) : Own sz h a m c (vs.take (m * sz)) :=
  ⟨o.rd.take _ (Nat.mul_le_mul_right _ hm), Nat.le_trans hm o.cap, o.mem⟩
theorem Own.nil {sz : Nat} {h : Heap} : Own sz h none 0 0 [] := ⟨by rw [Nat.zero_mul]; exact .nil, Nat.le_refl _, rfl⟩
theorem Own.lt {sz : Nat} {h : Heap} {ad : Addr} {n c : Nat} {vs : List Value} (o : Own sz h (some ad) n c vs) : ad.block < h.size := by
  obtain ⟨_, cs, e, hb, _⟩ := o.mem
  exact (Array.getElem?_eq_some_iff.1 hb).1
theorem push_at (h : Heap) (o : Obj) : (h.push o)[h.size]? = some o := by simp
theorem cellH_row {h : Heap} {ad : Addr} {cs : Array Value} {e : TypeId} {fr : Nat × Nat} (hb : h[ad.block]? = some (.cells cs e fr)) (hs : ad.spot = none) (i : Nat) : cellH h (ad.add i) = cs[ad.off + i]? := by
  unfold cellH
  rw [add_block, hb]
  by_cases h0 : i = 0
  · subst h0; simp [Addr.add, hs]
  · simp [Addr.add, h0]

/-- A row just laid. -/
theorem Own.push {sz : Nat} (h : Heap) (l : List Value) (e : TypeId) (n c : Nat) (hn : n ≤ c) (hc : c * sz ≤ l.length) : Own sz (h.push (.cells l.toArray e)) (some ⟨h.size, 0, none⟩) n c (l.take (n * sz)) := by
  have hle : n * sz ≤ c * sz := Nat.mul_le_mul_right _ hn
  refine ⟨⟨fun i v hv => ?_, by simp; omega⟩, hn, rfl, l.toArray, e, push_at _ _, by simpa using hc⟩
  rw [cellH_row (push_at h _) rfl]
  have hi := (List.getElem?_eq_some_iff.1 hv).1
  simp at hi
  rw [List.getElem?_take_of_lt (by omega)] at hv
  simpa using hv

theorem getElem?_writeL {c vs : List Value} {off : Nat} (hl : off + vs.length ≤ c.length) (i : Nat) :
    (writeL c off vs)[i]? = if off ≤ i ∧ i < off + vs.length then vs[i - off]? else c[i]? := by
  unfold writeL
  rcases Nat.lt_or_ge i off with h1 | h1
  · rw [List.getElem?_append_left (by simp; omega), List.getElem?_take_of_lt h1, if_neg (by omega)]
  · rw [List.getElem?_append_right (by simp; omega)]
    have e1 : (c.take off).length = off := by simp; omega
    rw [e1]
    rcases Nat.lt_or_ge i (off + vs.length) with h2 | h2
    · rw [List.getElem?_append_left (by omega), if_pos ⟨h1, h2⟩]
    · rw [List.getElem?_append_right (by omega), if_neg (by omega), List.getElem?_drop]
      congr 1
      omega
theorem set_at {h : Heap} {b : Nat} (hb : b < h.size) (o : Obj) : (h.setIfInBounds b o)[b]? = some o := by simp [hb]
theorem set_upd (h : Heap) (b : Nat) (o : Obj) : Upd (fun i => i = b) h (h.setIfInBounds b o) :=
  ⟨by simp, fun i _ hi => by rw [Array.getElem?_setIfInBounds_ne (fun e => hi e.symm)]⟩

/-- Cells are written: at 'off' cells behind the slice's begin. -/
theorem Own.write {sz : Nat} {h : Heap} {ad : Addr} {n c : Nat} {vs : List Value} (o : Own sz h (some ad) n c vs) (off : Nat) (ws : List Value) (hl : off + ws.length ≤ c * sz) (h1 : ∀ w ∈ ws, w.oneCell' = true)
    {K : Heap → Prop} (hK : ∀ h', Upd (fun i => i = ad.block) h h' → (∀ m us, us.length = m * sz → m ≤ c → (∀ i, i < m * sz → us[i]? = if off ≤ i ∧ i < off + ws.length then ws[i - off]? else vs[i]?) → Own sz h' (some ad) m c us) → K h') :
    StoreH h (ad.add off) ws K := by
  obtain ⟨hsp, cs, e, hb, hle⟩ := o.mem
  have hblt := (Array.getElem?_eq_some_iff.1 hb).1
  cases ws with
  | nil =>
    refine hK h (.refl _) fun m us hus hm hval => ?_
    refine ⟨⟨fun i v hv => ?_, hus⟩, hm, hsp, cs, e, hb, hle⟩
    have hi := (List.getElem?_eq_some_iff.1 hv).1
    have := hval i (by omega)
    rw [if_neg (by simp only [List.length_nil]; omega), hv] at this
    exact o.rd.read i v this.symm
  | cons w0 ws0 =>
    have hadoff : (ad.add off).off = ad.off + off := by unfold Addr.add; split <;> simp_all
    have hadsp : (ad.add off).spot = none := by unfold Addr.add; split <;> simp_all
    have hlen : (ad.off + off) + (w0 :: ws0).length ≤ cs.toList.length := by have : cs.toList.length = cs.size := Array.length_toList; omega
    show (w0 :: ws0).all Value.oneCell' = true ∧ _
    refine ⟨by simpa [List.all_eq_true] using h1, cs, e, (0, 0), by rw [add_block]; exact hb, hadsp, by rw [hadoff]; simpa using hlen, fun i _ _ hi => by simp at hi, ?_⟩
    rw [add_block, hadoff]
    refine hK _ (set_upd _ _ _) fun m us hus hm hval => ?_
    have hsz : ad.off + c * sz ≤ (writeL cs.toList (ad.off + off) (w0 :: ws0)).toArray.size := by
      rw [List.size_toArray, writeL_length _ _ _ hlen, Array.length_toList]; exact hle
    refine ⟨⟨fun i v hv => ?_, hus⟩, hm, hsp, _, e, set_at hblt _, hsz⟩
    have hi := (List.getElem?_eq_some_iff.1 hv).1
    have hms : m * sz ≤ c * sz := Nat.mul_le_mul_right _ hm
    have h2 := hval i (by omega)
    rw [cellH_row (set_at hblt _) hsp, List.getElem?_toArray, getElem?_writeL hlen]
    rw [hv] at h2
    by_cases hin : off ≤ i ∧ i < off + (w0 :: ws0).length
    · rw [if_pos hin] at h2
      rw [if_pos (by omega), show ad.off + i - (ad.off + off) = i - off by omega]
      exact h2.symm
    · rw [if_neg hin] at h2
      rw [if_neg (by omega)]
      have h3 := o.rd.read i v h2.symm
      rw [cellH_row hb hsp] at h3
      simpa using h3

/-- An element of one cell is written. -/
theorem Own.set1 {h : Heap} {a : Option Addr} {n c : Nat} {vs : List Value} (o : Own 1 h a n c vs) {j : Int} (h0 : 0 ≤ j) (hj : j < (n : Nat)) {v : Value} (h1 : v.oneCell' = true)
    {K : Heap → Prop} (hK : ∀ h', Upd (atb a) h h' → Own 1 h' a n c (vs.set j.toNat v) → K h') : AtP a fun ad => StoreH h (ad.add (j.toNat * 1)) [v] K := by
  cases a with
  | none => have : c = 0 := o.mem; have := o.cap; omega
  | some ad =>
    have hcap := o.cap
    have hlen := o.rd.len
    refine o.write (j.toNat * 1) [v] (by simp; omega) (by simpa using h1) fun h' u hw => hK h' (u.mono fun i _ hi => ⟨ad, rfl, hi⟩) (hw n _ (by simpa using hlen) hcap fun i hi => ?_)
    simp only [Nat.mul_one, List.length_cons, List.length_nil, Nat.zero_add] at *
    by_cases hij : j.toNat = i
    · subst hij
      rw [if_pos (by omega), List.getElem?_set_self (by omega), Nat.sub_self]; rfl
    · rw [if_neg (by omega), List.getElem?_set_ne hij]

/-- More elements. -/
theorem AppS.own {sz : Nat} {h : Heap} {a : Option Addr} {n c : Nat} {vs : List Value} (o : Own sz h a n c vs) {e : TypeId} {bytes : Nat} {z : Array Value} {ys : List Value} {m : Nat}
    (hy : ys.length = m * sz) (h1 : ∀ y ∈ ys, y.oneCell' = true) (hb : (n + m) * bytes ≤ 140737488355328) {K : Option Addr → Nat → Nat → Heap → Prop}
    (hK : ∀ a' c' h', Own sz h' a' (n + m) c' (vs ++ ys) → Upd (atb a) h h' → (a' = a ∨ ∃ ad, a' = some ad ∧ h.size ≤ ad.block) → K a' (n + m) c' h') : AppS h a n c e bytes sz z ys m K := by
  have hlen := o.rd.len
  refine ⟨fun hle => ?_, fun hgt => ⟨hb, vs, o.rd.read, hlen, fun cap hcap => ?_⟩⟩
  · cases a with
    | none =>
      have hc : c = 0 := o.mem
      have hm : m = 0 := by omega
      have hn : n = 0 := by omega
      subst hm hn
      rw [Nat.zero_mul] at hy hlen
      rw [List.length_eq_zero_iff] at hy hlen
      subst hy hlen
      exact hK none c h (by subst hc; exact .nil) (.refl _) (.inl rfl)
    | some ad =>
      refine o.write (n * sz) ys (by rw [hy, ← Nat.add_mul]; exact Nat.mul_le_mul_right _ hle) h1 fun h' u hw => ?_
      refine hK (some ad) c h' (hw (n + m) _ (by rw [List.length_append, hlen, hy, Nat.add_mul]) hle fun i hi => ?_) (u.mono fun i _ hi => ⟨ad, rfl, hi⟩) (.inl rfl)
      rw [Nat.add_mul] at hi
      by_cases hin : n * sz ≤ i
      · rw [if_pos ⟨hin, by omega⟩, List.getElem?_append_right (by omega), hlen]
      · rw [if_neg (by omega), List.getElem?_append_left (by omega)]
  · refine hK _ cap _ ?_ (Upd.wide (Ext.push _ _)) (.inr ⟨_, rfl, Nat.le_refl _⟩)
    have hzl : (zeroRow z ((cap - (n + m)) * sz)).length = (cap - (n + m)) * sz := zeroRow_len _ _
    have hlt : (vs ++ ys ++ zeroRow z ((cap - (n + m)) * sz)).length = cap * sz := by
      rw [List.length_append, List.length_append, hlen, hy, hzl, ← Nat.add_mul, ← Nat.add_mul]
      congr 1
      omega
    have := Own.push (sz := sz) h (vs ++ ys ++ zeroRow z ((cap - (n + m)) * sz)) e (n + m) cap hcap (by omega)
    rw [List.take_append_of_le_length (by rw [List.length_append, hlen, hy, Nat.add_mul]; omega), List.take_of_length_le (by rw [List.length_append, hlen, hy, Nat.add_mul]; omega)] at this
    exact this

/-! ### New memory -/
/-- A slice that wasn't there in 'h0', whose blocks are as they were. -/
structure Fr (h0 : Heap) (sz : Nat) (h : Heap) (a : Option Addr) (n c : Nat) (vs : List Value) : Prop where
  own : Own sz h a n c vs
  new : ∀ ad, a = some ad → h0.size ≤ ad.block
  ext : Ext h0 h
theorem Fr.upd {h0 : Heap} {sz : Nat} {h h' : Heap} {a : Option Addr} {n c : Nat} {vs : List Value} (f : Fr h0 sz h a n c vs) (u : Ext h h') : Fr h0 sz h' a n c vs := ⟨f.own.ext u, f.new, f.ext.trans u⟩
theorem Fr.nil {h0 h : Heap} {sz : Nat} (u : Ext h0 h) : Fr h0 sz h none 0 0 [] := ⟨.nil, (fun _ h => by cases h), u⟩
theorem Fr.push {h0 : Heap} {sz : Nat} {h : Heap} (u : Ext h0 h) (l : List Value) (e : TypeId) (n c : Nat) (hn : n ≤ c) (hc : c * sz ≤ l.length) :
    Fr h0 sz (h.push (.cells l.toArray e)) (some ⟨h.size, 0, none⟩) n c (l.take (n * sz)) :=
  ⟨Own.push h l e n c hn hc, (fun ad ha => by cases ha; exact u.1), u.trans (Ext.push _ _)⟩
theorem Fr.ext_of {h0 h h' : Heap} {a : Option Addr} (u : Ext h0 h) (hn : ∀ ad, a = some ad → h0.size ≤ ad.block) (k : Upd (atb a) h h') : Ext h0 h' :=
  u.newer k fun i hi ⟨ad, ha, hb⟩ => by have := hn ad ha; omega
theorem Fr.app {h0 : Heap} {sz : Nat} {h : Heap} {a : Option Addr} {n c : Nat} {vs : List Value} (f : Fr h0 sz h a n c vs) {e : TypeId} {bytes : Nat} {z : Array Value} {ys : List Value} {m : Nat}
    (hy : ys.length = m * sz) (h1 : ∀ y ∈ ys, y.oneCell' = true) (hb : (n + m) * bytes ≤ 140737488355328) {K : Option Addr → Nat → Nat → Heap → Prop}
    (hK : ∀ a' c' h', Fr h0 sz h' a' (n + m) c' (vs ++ ys) → Upd (atb a) h h' → (a' = a ∨ ∃ ad, a' = some ad ∧ h.size ≤ ad.block) → K a' (n + m) c' h') : AppS h a n c e bytes sz z ys m K :=
  AppS.own f.own hy h1 hb fun a' c' h' o u hor => hK a' c' h' ⟨o, (fun ad ha => by
    rcases hor with rfl | ⟨ad', h2, h3⟩
    · exact f.new ad ha
    · rw [h2] at ha; cases ha; exact Nat.le_trans f.ext.1 h3), Fr.ext_of f.ext f.new u⟩ u hor
theorem Fr.set1 {h0 h : Heap} {a : Option Addr} {n c : Nat} {vs : List Value} (f : Fr h0 1 h a n c vs) {j : Int} (hj0 : 0 ≤ j) (hj : j < (n : Nat)) {v : Value} (h1 : v.oneCell' = true)
    {K : Heap → Prop} (hK : ∀ h', Upd (atb a) h h' → Fr h0 1 h' a n c (vs.set j.toNat v) → K h') : AtP a fun ad => StoreH h (ad.add (j.toNat * 1)) [v] K :=
  f.own.set1 hj0 hj h1 fun h' u o => hK h' u ⟨o, f.new, Fr.ext_of f.ext f.new u⟩

/-! ### Lists of numbers, of truths -/
abbrev ints (l : List Int) : List Value := l.map (Value.int .i64)
abbrev bools (l : List Bool) : List Value := l.map Value.bool
theorem ints_one {l : List Int} : ∀ y ∈ ints l, y.oneCell' = true := by intro y hy; obtain ⟨x, _, rfl⟩ := List.mem_map.1 hy; rfl
theorem bools_one {l : List Bool} : ∀ y ∈ bools l, y.oneCell' = true := by intro y hy; obtain ⟨x, _, rfl⟩ := List.mem_map.1 hy; rfl
theorem map_at {α : Type} {f : α → Value} {l : List α} {i : Nat} (hi : i < l.length) : (l.map f)[i]? = some (f l[i]) := by simp [hi]
/-- An element is read. -/
theorem Rd.geti {α : Type} {f : α → Value} {h : Heap} {a : Option Addr} {n : Nat} {l : List α} (r : Rd h a n (l.map f)) {j : Int} (h0 : 0 ≤ j) (hj : j < (n : Nat)) {K : Addr → Prop}
    (hK : ∀ ad (hl : j.toNat < l.length), cellH h (ad.add (j.toNat * 1)) = .some (f l[j.toNat]) → K ad) : AtP a K := by
  have hlen := r.len
  rw [List.length_map] at hlen
  have hl : j.toNat < l.length := by omega
  have := r.at (map_at (f := f) hl)
  cases a with
  | none => exact this.elim
  | some ad => exact hK ad hl (by rw [Nat.mul_one]; exact this)

theorem CallV.func {P : Program} {g : FuncId} {vs : List Value} {h : Heap} {K : Value → Heap → Prop} (hg : callOk P g = true) (hc : CallsH P g vs.toArray h K) : CallV P (.func (.func g) #[] #[]) vs h K :=
  ⟨hg, by rw [Array.empty_append, Array.append_empty]; exact hc⟩
theorem n1 (n : Nat) : n = n * 1 := (Nat.mul_one n).symm
theorem Fr.rd {h0 : Heap} {h : Heap} {a : Option Addr} {n c : Nat} {vs : List Value} (f : Fr h0 1 h a n c vs) : Rd h a n vs := by
  have := f.own.rd; rwa [Nat.mul_one] at this
/-- A row of numbers just laid. -/
theorem Fr.lit {h0 h : Heap} (u : Ext h0 h) (l : List Value) (e : TypeId) (n : Nat) (hn : l.length = n) : Fr h0 1 (h.push (.cells l.toArray e)) (some ⟨h.size, 0, none⟩) n n l := by
  have := Fr.push (sz := 1) u l e n n (Nat.le_refl _) (by omega)
  rwa [List.take_of_length_le (by omega)] at this
end Go.Hx
