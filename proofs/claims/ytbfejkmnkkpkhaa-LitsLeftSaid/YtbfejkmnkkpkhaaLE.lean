/- Words and facts that the claim's proof leans on. No condition. -/
import Derived.Test.YtbfejkmnkkpkhaaLD
import Derived.Test.YtbfejkmnkkpkhaaHxS
import Derived.Test.YtbfejkmnkkpkhaaTSh
set_option linter.unusedVariables false
set_option linter.unusedSimpArgs false
namespace Go.Proofs.Ytbfejkmnkkpkhaa
open Go.Hx

theorem callsH_of_calls {P : Program} {f : FuncId} {args : Array Value} {h : Heap} {v : Value} (hc : ∀ w : World, w.heap = h → Calls P f args w fun e w' => e = .returned v ∧ w' = w) : CallsH P f args h (Ret v h) :=
  fun w hw => (hc w hw).mono fun e w' ⟨he, hw'⟩ => by subst hw'; exact ⟨v, he, .refl _, rfl, hw⟩
theorem c68 (n : Nat) (hn : n < 4611686018427387904) (h : Heap) : CallsH Try.prog 68 #[.int .u64 (IntKind.wrap .u64 (n : Int))] h (Ret (.int .i64 (Lib.bitLen n : Nat)) h) := by
  have e : IntKind.wrap .u64 (n : Int) = n := by simp [IntKind.wrap, IntKind.bits, IntKind.signed]; omega
  rw [e]
  refine callsH_of_calls fun w _ => ?_
  have := Try.bits_Len (n : Int) w (by omega) (by omega)
  rwa [Int.toNat_natCast] at this

abbrev FL := { x : Int // isF x = true }
instance : Inhabited FL := ⟨⟨1, by decide⟩⟩
def encF (x : FL) : Value := .int .i64 x.1
def ordF (x y : FL) : Int := ord x.1 y.1
open Go.Sort in
theorem ltF (x y : FL) : ltOf ordF x y = decide (key x.1 < key y.1) := by
  unfold ltOf ordF
  congr 1
  exact propext ord_key
open Go.Sort in
theorem swoF : SWO (ltOf ordF) where
  irrefl x := by rw [ltF]; simp
  trans x y z h1 h2 := by rw [ltF] at *; simp only [decide_eq_true_eq] at *; omega
  ntrans x y z h1 h2 := by rw [ltF] at *; simp only [decide_eq_false_iff_not] at *; omega
open Go.Sort in
theorem totF (x y : FL) (h1 : ltOf ordF x y = false) (h2 : ltOf ordF y x = false) : x = y := by
  rw [ltF] at *
  simp only [decide_eq_false_iff_not] at *
  exact Subtype.ext (key_inj (by omega))

/-- The sort of a clause. -/
theorem c59 {ad : Addr} {n c : Nat} {l : List Int} {h : Heap} (o : Own 1 h (some ad) n c (ints l)) (hf : l.all isF = true) (hn2 : n < 4611686018427387904) :
    CallsH Try.prog 59 #[.slice (some ad) n c, .func (.func 60) #[] #[]] h fun v h' => v = .tuple #[] ∧ Upd (atb (some ad)) h h' ∧ ∃ r : List Int, r.Perm l ∧ (∀ i j (hi : i < r.length) (hj : j < r.length), i < j → key r[i] ≤ key r[j]) ∧ Own 1 h' (some ad) n c (ints r) := by
  obtain ⟨l', rfl⟩ : ∃ l' : List FL, l = l'.map Subtype.val := ⟨l.attach.map fun x => ⟨x.1, List.all_eq_true.1 hf _ x.2⟩, by simp [List.map_map, Function.comp_def]⟩
  have e : ints (l'.map Subtype.val) = l'.map encF := by simp [ints, List.map_map, Function.comp_def, encF]
  rw [e] at o
  refine run59 (some ad) n c _ _ h (use (c68 n hn2 h) ⟨_, rfl, ?_⟩)
  have hlim : Lib.bitLen n < 4611686018427387904 := Nat.lt_of_le_of_lt (Lib.bitLen_le n 62 (by omega) (by omega)) (by omega)
  refine (pdqH Try.pdqL (enc := encF) (fun _ => rfl) swoF totF (g := 60) (by kernel_rfl) (fun x y h => c60 x.1 y.1 h x.2 y.2) o hn2 hlim).mono ?_
  rintro _ h' ⟨rfl, hu, ho⟩
  have hp := List.pairwise_mergeSort (le := fun x y => !ltOf ordF y x) (fun a b c h1 h2 => by simp only [ltF, Bool.not_eq_true', decide_eq_false_iff_not] at *; omega)
    (fun a b => by simp only [ltF, Bool.or_eq_true, Bool.not_eq_true', decide_eq_false_iff_not]; omega) l'
  have hq := List.mergeSort_perm l' (fun x y => !ltOf ordF y x)
  generalize l'.mergeSort (fun x y => !ltOf ordF y x) = s at hp hq ho
  refine ⟨rfl, rfl, hu, s.map Subtype.val, hq.map _, fun i j hi hj hij => ?_, ?_⟩
  · have := List.pairwise_iff_getElem.1 hp i j (by simpa using hi) (by simpa using hj) hij
    simp only [ltF, Bool.not_eq_true', decide_eq_false_iff_not] at this
    simp only [List.getElem_map]
    omega
  · simpa [ints, List.map_map, Function.comp_def, encF] using ho

/-- What a normal form's search hands back. -/
def NormRes (h : Heap) (l : List Int) (v : Value) (h' : Heap) : Prop :=
  Ext h h' ∧ ((Taut l ∧ v = .tuple #[.slice none 0 0, .bool false]) ∨ (∃ q a c, NF l q ∧ Fr h 1 h' a q.length c (ints q) ∧ v = .tuple #[.slice a q.length c, .bool true]))

theorem c44 {cA : Option Addr} {cN cC : Nat} {l : List Int} {h : Heap} (rd : Rd h cA cN (ints l)) (hf : l.all isF = true) (hn : cN ≤ 1073741824) :
    CallsH Try.prog 44 #[.slice cA cN cC] h (NormRes h l) := by
  have hlen : l.length = cN := by have := rd.len; simpa using this
  refine run44 cA cN cC _ h ⟨by omega, by omega, by omega, ?_⟩
  have e1 : Int.toNat ((cN : Nat) : Int) = cN := Int.toNat_natCast _
  rw [e1]
  intro h1
  have f1 : Fr h 1 h1 (some ⟨h.size, 0, none⟩) cN cN ((zeroRow #[.int .i64 0] (cN * 1)).take (cN * 1)) := Fr.push (.refl h) _ 3 cN cN (Nat.le_refl _) (by rw [zr_len]; omega)
  have r1 : Rd h1 cA cN (ints l) := rd.ext f1.ext
  refine ⟨ints l, r1.read, by rw [List.length_map, hlen, Nat.min_self, Nat.mul_one], ?_⟩
  refine f1.own.write 0 (ints l) (by rw [List.length_map]; omega) ints_one fun h2 u2 w2 => ?_
  have o2 : Own 1 h2 (some ⟨h.size, 0, none⟩) cN cN (ints l) := w2 cN (ints l) (by rw [List.length_map]; omega) (Nat.le_refl _) fun i hi => by rw [if_pos (by rw [List.length_map]; omega), Nat.sub_zero]
  have x2 : Ext h h2 := f1.ext.newer u2 fun i hi he => by simp only at he; omega
  refine (c59 o2 hf (by omega)).mono ?_
  rintro _ h3 ⟨rfl, u3, r, hperm, hsort, o3⟩
  have x3 : Ext h h3 := x2.newer u3 fun i hi ⟨ad, he, hb⟩ => by cases he; simp only at hb; omega
  refine ⟨rfl, (c61 o3 (by omega)).mono ?_⟩
  rintro _ h4 ⟨rfl, u4, o4⟩
  have x4 : Ext h h4 := x3.newer u4 fun i hi ⟨ad, he, hb⟩ => by cases he; simp only at hb; omega
  have hrlen : r.length = cN := by rw [hperm.length_eq]; exact hlen
  obtain ⟨hp, hm⟩ := ddn_spec hsort cN (by omega)
  have hmem : ∀ x, x ∈ ddn r cN ↔ x ∈ l := fun x => (hm x).trans ⟨fun ⟨i, hi, _, hx⟩ => hperm.mem_iff.1 (hx ▸ List.getElem_mem _), fun hx => by
    obtain ⟨i, hi, hxi⟩ := List.getElem_of_mem (hperm.mem_iff.2 hx)
    exact ⟨i, hi, by omega, hxi⟩⟩
  have hple := ddn_len r cN
  generalize ddn r cN = p at hp hmem o4 hple
  have hpf : ∀ x ∈ p, isF x = true := fun x hx => List.all_eq_true.1 hf x ((hmem x).1 hx)
  refine ⟨_, _, _, rfl, ?_⟩
  have e5 : IntKind.wrap .i64 (((p.length : Nat) : Int) - 1) = (p.length : Int) - 1 := w64 (by omega) (by omega)
  refine ⟨fun t h' m => h' = h4 ∧ 0 ≤ t ∧ t ≤ p.length ∧ m = (p.length - t).toNat ∧ ∀ i (hi : i + 1 < p.length), (i : Int) < t → p[i] ≠ -p[i + 1], ⟨_, rfl, Int.le_refl _, by omega, rfl, fun i hi h0 => by omega⟩, ?_⟩
  rintro t _ _ ⟨rfl, h0, ht, rfl, hadj⟩
  rename_i h4
  unfold B44_3
  rw [e5]
  refine ⟨fun hlt => ?_, fun hge => ?_⟩
  · unfold J44_1
    have e6 : IntKind.wrap .i64 (t + 1) = t + 1 := w64 (by omega) (by omega)
    rw [e6]

    refine ⟨h0, by omega, o4.rd.geti h0 (by omega) fun ad hl1 hc1 => ⟨_, hc1, by omega, by omega, o4.rd.geti (by omega) (by omega) fun ad1 hl2 hc2 => ⟨_, hc2, ?_⟩⟩⟩
    have hb := isF_t.1 (hpf _ (List.getElem_mem hl2))
    rw [w64 (by omega) (by omega)]
    have e7 : (t + 1).toNat = t.toNat + 1 := by omega
    simp only [e7]
    refine ⟨fun he => ⟨x4, .inl ⟨taut_of_adj hmem (i := t.toNat) (by omega) (by rw [he]; omega), rfl⟩⟩, fun hne => ⟨_, ?_, trivial, by omega, by omega, rfl, fun i hi hit => ?_⟩⟩
    · omega
    · by_cases hi2 : i = t.toNat
      · subst hi2; intro hh; exact hne (by rw [hh]; omega)
      · exact hadj i hi (by omega)
  · refine use (c62 o4.cap h4) ⟨_, _, _, rfl, x4, .inr ⟨p, _, _, nf_of_sorted hp hmem fun i hi => hadj i hi (by omega), ⟨o4.clip (Nat.le_refl _) o4.cap, ?_, x4⟩, rfl⟩⟩
    intro ad he; cases he; exact Nat.le_refl _
end Go.Proofs.Ytbfejkmnkkpkhaa
