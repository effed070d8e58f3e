/- More of the heap library: small structs in memory of one's own, texts. No condition. -/
import Derived.Test.YtbfejkmnkkpkhaaHxM
set_option linter.unusedVariables false
set_option linter.unusedSimpArgs false
namespace Go.Hx

theorem wr_u8 (x : Int) : IntKind.wrap .u8 x = x % 256 := by simp [IntKind.wrap, IntKind.bits, IntKind.signed]
theorem wr_u32 (x : Int) : IntKind.wrap .u32 x = x % 4294967296 := by simp [IntKind.wrap, IntKind.bits, IntKind.signed]
theorem wr_u64 (x : Int) : IntKind.wrap .u64 x = x % 18446744073709551616 := by simp [IntKind.wrap, IntKind.bits, IntKind.signed]

/-- It returns v; the heap grows alone. -/
def Xt (v : Value) (h : Heap) : Value → Heap → Prop := fun u h' => u = v ∧ Ext h h'
theorem useX {P : Program} {f : FuncId} {args : Array Value} {h : Heap} {v : Value} {R : Value → Heap → Prop} (c : CallsH P f args h (Xt v h)) (hk : ∀ h', Ext h h' → R v h') : CallsH P f args h R :=
  c.mono fun _ h' ⟨h1, h2⟩ => h1 ▸ hk h' h2
theorem CallsH.xt {P : Program} {f : FuncId} {args : Array Value} {h : Heap} {v : Value} (c : CallsH P f args h (Ret v h)) : CallsH P f args h (Xt v h) := c.mono fun _ _ ⟨h1, h2⟩ => ⟨h1, h2 ▸ .refl _⟩

theorem addr_add0 (ad : Addr) : ad.add 0 = ad := by unfold Addr.add; split <;> simp_all
theorem cellsH_of {h : Heap} {a : Addr} : ∀ {vs : List Value} {i : Nat}, (∀ j v, vs[j]? = some v → cellH h (a.add (i + j)) = some v) → cellsH h a i vs
  | [], _, _ => trivial
  | v :: vs, i, hc => ⟨by simpa using hc 0 v rfl, cellsH_of fun j u hu => by have := hc (j + 1) u (by simpa using hu); rwa [show i + (j + 1) = i + 1 + j by omega] at this⟩
theorem Rd.cells {h : Heap} {ad : Addr} {n : Nat} {vs : List Value} (r : Rd h (.some ad) n vs) : cellsH h ad 0 vs := cellsH_of fun j v hv => by rw [Nat.zero_add]; exact r.read j v hv
/-- A whole row is written over. -/
theorem Fr.put {h0 h : Heap} {ad : Addr} {n : Nat} {vs ws : List Value} (f : Fr h0 1 h (.some ad) n n vs) (hl : ws.length = n) (h1 : ∀ w ∈ ws, w.oneCell' = true)
    {K : Heap → Prop} (hK : ∀ h', Fr h0 1 h' (.some ad) n n ws → Upd (atb (.some ad)) h h' → K h') : StoreH h ad ws K := by
  have := f.own.write 0 ws (by omega) h1 (K := K) fun h' u w => hK h' ⟨w n ws (by omega) (Nat.le_refl _) fun i hi => by rw [if_pos (by omega), Nat.sub_zero], f.new, Fr.ext_of f.ext f.new (u.mono fun i _ hi => ⟨ad, rfl, hi⟩)⟩ (u.mono fun i _ hi => ⟨ad, rfl, hi⟩)
  rwa [addr_add0] at this
theorem Fr.other {h0 h h' : Heap} {a b : Option Addr} {n c : Nat} {vs : List Value} (f : Fr h0 1 h a n c vs) (u : Upd (atb b) h h') (hn : ∀ x y, a = some x → b = some y → x.block ≠ y.block) (hb : ∀ y, b = some y → h0.size ≤ y.block) : Fr h0 1 h' a n c vs :=
  ⟨f.own.upd u fun ad ha ⟨y, hy, e⟩ => hn ad y ha hy e, f.new, Fr.ext_of f.ext hb u⟩

theorem Fr.at1 {h0 h : Heap} {ad : Addr} {n c : Nat} {vs : List Value} (f : Fr h0 1 h (.some ad) n c vs) {j : Int} (hj0 : 0 ≤ j) (hj : j < (n : Nat)) {v : Value} (h1 : v.oneCell' = true)
    {K : Heap → Prop} (hK : ∀ h', Upd (atb (.some ad)) h h' → Fr h0 1 h' (.some ad) n c (vs.set j.toNat v) → K h') : StoreH h (ad.add (j.toNat * 1)) [v] K := f.set1 hj0 hj h1 hK

theorem ofInt8 (a : Nat) (ha : a < 256) : (BitVec.ofInt 8 (a : Int)).toNat = a := by rw [BitVec.toNat_ofInt]; omega
theorem ofInt64 (a : Nat) (ha : a < 18446744073709551616) : (BitVec.ofInt 64 (a : Int)).toNat = a := by rw [BitVec.toNat_ofInt]; omega
theorem or8 (a b : Nat) (ha : a < 256) (hb : b < 256) : bop .or .u8 a b = ((a ||| b : Nat) : Int) := by
  show IntKind.u8.wrap ((BitVec.ofInt 8 (a : Int) ||| BitVec.ofInt 8 (b : Int)).toNat : Int) = _
  rw [BitVec.toNat_or, ofInt8 a ha, ofInt8 b hb, wr_u8]
  have := Nat.or_lt_two_pow (n := 8) ha hb
  omega
theorem and8 (a b : Nat) (ha : a < 256) (hb : b < 256) : bop .and .u8 a b = ((a &&& b : Nat) : Int) := by
  show IntKind.u8.wrap ((BitVec.ofInt 8 (a : Int) &&& BitVec.ofInt 8 (b : Int)).toNat : Int) = _
  rw [BitVec.toNat_and, ofInt8 a ha, ofInt8 b hb, wr_u8]
  have := Nat.and_le_left (n := a) (m := b)
  omega
theorem or64 (a b : Nat) (ha : a < 18446744073709551616) (hb : b < 18446744073709551616) : bop .or .u64 a b = ((a ||| b : Nat) : Int) := by
  show IntKind.u64.wrap ((BitVec.ofInt 64 (a : Int) ||| BitVec.ofInt 64 (b : Int)).toNat : Int) = _
  rw [BitVec.toNat_or, ofInt64 a ha, ofInt64 b hb, wr_u64]
  have := Nat.or_lt_two_pow (n := 64) ha hb
  omega
theorem and64 (a b : Nat) (ha : a < 18446744073709551616) (hb : b < 18446744073709551616) : bop .and .u64 a b = ((a &&& b : Nat) : Int) := by
  show IntKind.u64.wrap ((BitVec.ofInt 64 (a : Int) &&& BitVec.ofInt 64 (b : Int)).toNat : Int) = _
  rw [BitVec.toNat_and, ofInt64 a ha, ofInt64 b hb, wr_u64]
  have := Nat.and_le_left (n := a) (m := b)
  omega
theorem xor64 (a b : Nat) (ha : a < 18446744073709551616) (hb : b < 18446744073709551616) : bop .xor .u64 a b = ((a ^^^ b : Nat) : Int) := by
  show IntKind.u64.wrap ((BitVec.ofInt 64 (a : Int) ^^^ BitVec.ofInt 64 (b : Int)).toNat : Int) = _
  rw [BitVec.toNat_xor, ofInt64 a ha, ofInt64 b hb, wr_u64]
  have := Nat.xor_lt_two_pow (n := 64) ha hb
  omega

/-- A fault: a place and a code. -/
abbrev flt (a b : Int) : Value := .agg #[.int .i64 a, .int .i64 b]
theorem fl {h0 h : Heap} {ad : Addr} {vs : List Value} (f : Fr h0 1 h (.some ad) 2 2 vs) (a b : Int) {Q : Int → Int → Heap → Prop}
    (hK : ∀ h', Fr h0 1 h' (.some ad) 2 2 [.int .i64 a, .int .i64 b] → Upd (atb (.some ad)) h h' → Q a b h') :
    StoreH h ad [.int .i64 a, .int .i64 b] fun h1 => ∃ (t : Int), ∃ (t1 : Int), cellsH h1 ad 0 [.int .i64 t, .int .i64 t1] ∧ Q t t1 h1 :=
  f.put rfl (by simp [Value.oneCell']) fun h' f' u => ⟨a, b, f'.rd.cells, hK h' f' u⟩
theorem Fr.two (h : Heap) (a b : Int) (e : TypeId) : Fr h 1 (h.push (.cells #[.int .i64 a, .int .i64 b] e)) (some ⟨h.size, 0, none⟩) 2 2 [.int .i64 a, .int .i64 b] := Fr.lit (.refl h) [_, _] e 2 rfl
theorem Fr.two' {h0 : Heap} {h : Heap} (u : Ext h0 h) (a b : Int) (e : TypeId) : Fr h0 1 (h.push (.cells #[.int .i64 a, .int .i64 b] e)) (some ⟨h.size, 0, none⟩) 2 2 [.int .i64 a, .int .i64 b] := Fr.lit u [_, _] e 2 rfl
theorem flt_eq {a b c d : Int} : ((#[.int .i64 a, .int .i64 b] : Array Value) = #[.int .i64 c, .int .i64 d]) ↔ a = c ∧ b = d := by simp

theorem cutR0 {sz c : Nat} {ad : Addr} : cutR sz ad c 0 = ad := by unfold cutR; split; rfl; rw [Nat.zero_mul, addr_add0]
/-- One element more. -/
theorem app1 {h0 h : Heap} {a : Option Addr} {n c : Nat} {vs : List Value} (f : Fr h0 1 h a n c vs) {v : Value} (hv : v.oneCell' = true) {e e' : TypeId} {bytes : Nat} {z : Array Value} (hb : (n + 1) * bytes ≤ 140737488355328)
    {K : Option Addr → Nat → Nat → Heap → Prop} (hK : ∀ a' c' h', Fr h0 1 h' a' (n + 1) c' (vs ++ [v]) → K a' (n + 1) c' h') :
    ∃ ys : List Value, ReadL (h.push (.cells #[v] e)) (some (Addr.mk h.size 0 none)) ys ∧ ys.length = 1 * 1 ∧ AppS (h.push (.cells #[v] e)) a n c e' bytes 1 z ys 1 K := by
  have r := (Fr.lit (.refl h) [v] e 1 rfl).rd
  exact ⟨[v], r.read, rfl, (f.upd (Ext.push h (.cells #[v] e))).app rfl (by simpa using hv) hb fun a' c' h' f' _ _ => hK a' c' h' f'⟩

theorem zeroRow_one (v : Value) (n : Nat) : zeroRow #[v] n = List.replicate n v := by
  apply List.ext_getElem?
  intro i
  unfold zeroRow
  rw [List.getElem?_map, List.getElem?_replicate]
  by_cases hi : i < n
  · rw [List.getElem?_range hi, if_pos hi]; simp [Nat.mod_one]
  · rw [List.getElem?_eq_none (by simp; omega), if_neg hi]; rfl
theorem Rd.getN {α : Type} {f : α → Value} {h : Heap} {ad : Addr} {n : Nat} {l : List α} (r : Rd h (.some ad) n (l.map f)) {i : Nat} {x : α} (hi : l[i]? = .some x) : cellH h (ad.add (i * 1)) = .some (f x) := by
  rw [Nat.mul_one]; exact r.read i _ (by rw [List.getElem?_map, hi]; rfl)
/-- A row of zeros just laid. -/
theorem Fr.zeros {h : Heap} (v : Value) (e : TypeId) (n : Nat) : Fr h 1 (h.push (.cells (zeroRow #[v] (n * 1)).toArray e)) (some ⟨h.size, 0, none⟩) n n (List.replicate n v) := by
  rw [zeroRow_one, Nat.mul_one]
  exact Fr.lit (.refl h) (List.replicate n v) e n (by simp)


theorem Fr.base {h0 h1 h2 : Heap} {sz : Nat} {a : Option Addr} {n c : Nat} {vs : List Value} (f : Fr h1 sz h2 a n c vs) (x : Ext h0 h1) : Fr h0 sz h2 a n c vs := ⟨f.own, (fun ad ha => Nat.le_trans x.1 (f.new ad ha)), x.trans f.ext⟩
/-- Some cells of a row in new memory are written. -/
theorem Fr.write {h0 h : Heap} {ad : Addr} {n : Nat} {vs : List Value} (f : Fr h0 1 h (.some ad) n n vs) (off : Nat) (ws us : List Value) (hl : off + ws.length ≤ n) (h1 : ∀ w ∈ ws, w.oneCell' = true) (hus : us.length = n)
    (hval : ∀ i, i < n → us[i]? = if off ≤ i ∧ i < off + ws.length then ws[i - off]? else vs[i]?) {K : Heap → Prop} (hK : ∀ h', Fr h0 1 h' (.some ad) n n us → K h') : StoreH h (ad.add off) ws K :=
  f.own.write off ws (by omega) h1 fun h' u w => hK h' ⟨w n us (by omega) (Nat.le_refl _) fun i hi => hval i (by omega), f.new, Fr.ext_of f.ext f.new (u.mono fun i _ hi => ⟨ad, rfl, hi⟩)⟩


/-! ### Texts -/
abbrev u8v (b : UInt8) : Value := .int .u8 (b.toNat : Int)
abbrev mk (l : List UInt8) : ByteArray := ⟨l.toArray⟩
abbrev B (s : ByteArray) : List UInt8 := s.data.toList
theorem bytesV_mk (l : List UInt8) : bytesV (mk l) = l.map u8v := rfl
theorem mk_size (l : List UInt8) : (mk l).size = l.length := rfl
theorem B_len (s : ByteArray) : (B s).length = s.size := rfl
theorem mk_B (s : ByteArray) : mk (B s) = s := by
  show ByteArray.mk s.data.toList.toArray = s
  rw [Array.toArray_toList]
theorem B_mk (l : List UInt8) : B (mk l) = l := rfl
theorem B_inj {s t : ByteArray} (h : B s = B t) : s = t := by rw [← mk_B s, ← mk_B t, h]
theorem mk_inj {l m : List UInt8} : mk l = mk m ↔ l = m := ⟨fun h => by rw [← B_mk l, ← B_mk m, h], fun h => h ▸ rfl⟩
theorem B_append (s t : ByteArray) : B (s ++ t) = B s ++ B t := by simp [B, ByteArray.data_append]
theorem B_extract (s : ByteArray) (i j : Nat) : B (s.extract i j) = ((B s).drop i).take (j - i) := by
  simp [B, ByteArray.data_extract, List.extract_eq_take_drop]
theorem byteAt_eq (s : ByteArray) (i : Int) (h0 : 0 ≤ i) (h : i.toNat < (B s).length) : byteAt s i = ((B s)[i.toNat].toNat : Int) := by
  unfold byteAt
  have : s.data[i.toNat]? = some ((B s)[i.toNat]) := by rw [← Array.getElem?_toList, List.getElem?_eq_getElem h]
  rw [this]; rfl
theorem u8v_one {l : List UInt8} : ∀ y ∈ l.map u8v, y.oneCell' = true := by intro y hy; obtain ⟨x, _, rfl⟩ := List.mem_map.1 hy; rfl
end Go.Hx
