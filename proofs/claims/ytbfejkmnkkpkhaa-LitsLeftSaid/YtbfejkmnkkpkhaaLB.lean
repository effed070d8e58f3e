/- Words and facts that the claim's proof leans on. No condition. -/
import Derived.Test.YtbfejkmnkkpkhaaTAa
import Derived.Test.YtbfejkmnkkpkhaaTAb
import Derived.Test.YtbfejkmnkkpkhaaHxM
set_option linter.unusedVariables false
set_option linter.unusedSimpArgs false
namespace Go.Proofs.Ytbfejkmnkkpkhaa
open Go.Hx

def isC (l : Int) : Bool := decide (0 ≤ l ∧ l ≤ 32769)
def isF (x : Int) : Bool := decide (x ≠ 0 ∧ -262144 ≤ x ∧ x ≤ 262144)
def ab (x : Int) : Int := if x < 0 then -x else x
theorem isC_t {l : Int} : isC l = true ↔ 0 ≤ l ∧ l ≤ 32769 := by simp [isC]
theorem isC_f {l : Int} : isC l = false ↔ ¬ (0 ≤ l ∧ l ≤ 32769) := by simp [isC]
theorem isF_t {x : Int} : isF x = true ↔ x ≠ 0 ∧ -262144 ≤ x ∧ x ≤ 262144 := by simp [isF]
theorem isF_f {x : Int} : isF x = false ↔ ¬ (x ≠ 0 ∧ -262144 ≤ x ∧ x ≤ 262144) := by simp [isF]

theorem c35 (l : Int) (h : Heap) : CallsH Try.prog 35 #[.int .i64 l] h (Ret (.bool (isC l)) h) := by
  refine run35 l _ h ⟨fun h1 => ⟨fun h2 => ?_, fun h2 => ?_⟩, fun h1 => ?_⟩
  · rw [isC_t.2 ⟨h1, h2⟩]; exact ⟨rfl, rfl⟩
  · rw [isC_f.2 (by omega)]; exact ⟨rfl, rfl⟩
  · rw [isC_f.2 (by omega)]; exact ⟨rfl, rfl⟩
theorem c36 (l : Int) (h : Heap) : CallsH Try.prog 36 #[.int .i64 l] h (Ret (.bool (isC l)) h) := by
  refine run36 l _ h ⟨fun h1 => ⟨fun h2 => ?_, fun h2 => ?_⟩, fun h1 => ?_⟩
  · rw [isC_t.2 ⟨h1, h2⟩]; exact ⟨rfl, rfl⟩
  · rw [isC_f.2 (by omega)]; exact ⟨rfl, rfl⟩
  · rw [isC_f.2 (by omega)]; exact ⟨rfl, rfl⟩
theorem c38 (x : Int) (h : Heap) : CallsH Try.prog 38 #[.int .i64 x] h (Ret (.bool (isF x)) h) := by
  refine run38 x _ h ⟨fun h1 => ?_, fun h1 => ⟨fun h2 => ⟨fun h3 => ?_, fun h3 => ?_⟩, fun h2 => ?_⟩⟩
  · rw [isF_f.2 (by omega)]; exact ⟨rfl, rfl⟩
  · rw [isF_t.2 ⟨h1, h2, h3⟩]; exact ⟨rfl, rfl⟩
  · rw [isF_f.2 (by omega)]; exact ⟨rfl, rfl⟩
  · rw [isF_f.2 (by omega)]; exact ⟨rfl, rfl⟩
theorem c40 (x : Int) (h : Heap) : CallsH Try.prog 40 #[.int .i64 x] h (Ret (.bool (isF x)) h) := by
  refine run40 x _ h ⟨fun h1 => ?_, fun h1 => ⟨fun h2 => ⟨fun h3 => ?_, fun h3 => ?_⟩, fun h2 => ?_⟩⟩
  · rw [isF_f.2 (by omega)]; exact ⟨rfl, rfl⟩
  · rw [isF_t.2 ⟨h1, h2, h3⟩]; exact ⟨rfl, rfl⟩
  · rw [isF_f.2 (by omega)]; exact ⟨rfl, rfl⟩
  · rw [isF_f.2 (by omega)]; exact ⟨rfl, rfl⟩
theorem c39 (x : Int) (h : Heap) (h1 : -9223372036854775808 < x) (h2 : x ≤ 9223372036854775807) : CallsH Try.prog 39 #[.int .i64 x] h (Ret (.int .i64 (ab x)) h) := by
  refine run39 x _ h ?_
  show Ret _ _ _ _
  rw [w64 (by omega) (by omega), show max x (0 - x) = ab x by unfold ab; split <;> omega]
  exact ⟨rfl, rfl⟩
theorem c41 (x : Int) (h : Heap) (h1 : -9223372036854775808 < x) (h2 : x ≤ 9223372036854775807) : CallsH Try.prog 41 #[.int .i64 x] h (Ret (.int .i64 (ab x)) h) := by
  refine run41 x _ h ⟨fun hx => ?_, fun hx => ?_⟩
  · rw [w64 (by omega) (by omega), show 0 - x = ab x by unfold ab; rw [if_pos hx]; omega]
    exact ⟨rfl, rfl⟩
  · rw [show Value.int .i64 x = .int .i64 (ab x) by unfold ab; rw [if_neg hx]]
    exact ⟨rfl, rfl⟩

/-- The formula's literal. -/
def form (l : Int) : Int := if l % 2 = 1 then -(l / 2 + 1) else l / 2 + 1
theorem c37 (l : Int) (h : Heap) (hl : isC l = true) : CallsH Try.prog 37 #[.int .i64 l] h (Ret (.int .i64 (form l)) h) := by
  have ⟨h0, h1⟩ := isC_t.1 hl
  have e1 : Int.tdiv l 2 = l / 2 := Int.tdiv_eq_ediv_of_nonneg h0
  have e2 : Int.tmod l 2 = l % 2 := Int.tmod_eq_emod_of_nonneg h0
  refine run37 l _ h ⟨fun hx => ?_, fun hx => ?_⟩
  · rw [e2] at hx
    rw [e1, w64 (x := l / 2) (by omega) (by omega), w64 (x := l / 2 + 1) (by omega) (by omega), w64 (by omega) (by omega)]
    refine ⟨?_, rfl⟩
    unfold form; rw [if_pos hx]; congr 1; omega
  · rw [e2] at hx
    rw [e1, w64 (x := l / 2) (by omega) (by omega), w64 (x := l / 2 + 1) (by omega) (by omega)]
    refine ⟨?_, rfl⟩
    unfold form; rw [if_neg hx]


theorem c9 (l : Int) (h : Heap) (h1 : -9223372036854775808 ≤ l) (h2 : l ≤ 9223372036854775807) : CallsH Try.prog 9 #[.int .i64 l] h
    (Ret (if isC l then .tuple #[.int .i64 (if l % 2 = 0 then l + 1 else l - 1), .int .i64 0] else .tuple #[.int .i64 0, .int .i64 1]) h) := by
  refine run9 l _ h (use (c35 l h) ⟨_, rfl, ?_⟩)
  cases hl : isC l
  · exact ⟨rfl, rfl⟩
  · have ⟨h0, h1⟩ := isC_t.1 hl
    show Ret _ _ _ _
    rw [xor_one h0 (by omega)]
    exact ⟨rfl, rfl⟩
theorem c10 (l : Int) (h : Heap) (h1 : -9223372036854775808 ≤ l) (h2 : l ≤ 9223372036854775807) : CallsH Try.prog 10 #[.int .i64 l] h
    (Ret (if isC l then .tuple #[.int .i64 (if l % 2 = 0 then l + 1 else l - 1), .int .i64 0] else .tuple #[.int .i64 0, .int .i64 1]) h) := by
  refine run10 l _ h (use (c36 l h) ⟨_, rfl, ?_⟩)
  cases hl : isC l
  · exact ⟨rfl, rfl⟩
  · have ⟨h0, h1⟩ := isC_t.1 hl
    have e2 : Int.tmod l 2 = l % 2 := Int.tmod_eq_emod_of_nonneg h0
    refine ⟨fun hx => ?_, fun hx => ?_⟩
    · rw [e2] at hx
      rw [w64 (by omega) (by omega), if_pos hx]; exact ⟨rfl, rfl⟩
    · rw [e2] at hx
      rw [w64 (by omega) (by omega), if_neg hx]; exact ⟨rfl, rfl⟩
theorem c11 (l : Int) (h : Heap) : CallsH Try.prog 11 #[.int .i64 l] h
    (Ret (if isC l then .tuple #[.int .i64 (form l), .int .i64 0] else .tuple #[.int .i64 0, .int .i64 1]) h) := by
  refine run11 l _ h (use (c35 l h) ⟨_, rfl, ?_⟩)
  cases hl : isC l
  · exact ⟨rfl, rfl⟩
  · have ⟨h0, h1⟩ := isC_t.1 hl
    show PIf _ _ _
    rw [and_one h0 (by omega), show ((2 ^ 1 : Nat) : Int) = 2 from rfl, w64 (x := l / 2 + 1) (by omega) (by omega)]
    refine ⟨fun hx => ?_, fun hx => ?_⟩
    · rw [w64 (by omega) (by omega), show 0 - (l / 2 + 1) = form l by unfold form; rw [if_pos hx]; omega]; exact ⟨rfl, rfl⟩
    · rw [show l / 2 + 1 = form l by unfold form; rw [if_neg hx]]; exact ⟨rfl, rfl⟩
theorem c12 (l : Int) (h : Heap) : CallsH Try.prog 12 #[.int .i64 l] h
    (Ret (if isC l then .tuple #[.int .i64 (form l), .int .i64 0] else .tuple #[.int .i64 0, .int .i64 1]) h) := by
  refine run12 l _ h (use (c36 l h) ⟨_, rfl, ?_⟩)
  cases hl : isC l
  · exact ⟨rfl, rfl⟩
  · exact BIf.f (use (c37 l h hl) ⟨_, rfl, rfl, rfl⟩)
/-- The circuit's literal. -/
def circ (x : Int) : Int := if x < 0 then 2 * (-x - 1) + 1 else 2 * (x - 1)
def isX (x : Int) : Bool := isF x && decide (ab x ≤ 16385)
theorem c13 (x : Int) (h : Heap) : CallsH Try.prog 13 #[.int .i64 x] h
    (Ret (if isX x then .tuple #[.int .i64 (circ x), .int .i64 0] else .tuple #[.int .i64 0, .int .i64 1]) h) := by
  refine run13 x _ h (use (c38 x h) ⟨_, rfl, ?_⟩)
  unfold isX
  cases hl : isF x
  · exact ⟨rfl, rfl⟩
  · have ⟨hx0, hx1, hx2⟩ := isF_t.1 hl
    refine BIf.f (use (c39 x h (by omega) (by omega)) ?_)
    refine ⟨_, rfl, fun hx => ?_, fun hx => ?_⟩
    · rw [Bool.true_and, show decide (ab x ≤ 16385) = false by simp; omega]; exact ⟨rfl, rfl⟩
    · refine use (c39 x h (by omega) (by omega)) ⟨_, rfl, ?_⟩
      have ha : 1 ≤ ab x := by unfold ab; split <;> omega
      rw [Bool.true_and, show decide (ab x ≤ 16385) = true by simp; omega, show ((2 ^ 1 : Nat) : Int) = 2 from rfl, w64 (x := ab x - 1) (by omega) (by omega), w64 (by omega) (by omega)]
      refine ⟨fun hn => ?_, fun hn => ?_⟩
      · rw [or_one (by omega) (by omega), if_pos (show (ab x - 1) * 2 % 2 = 0 by omega), show (ab x - 1) * 2 + 1 = circ x by unfold ab circ; rw [if_pos hn, if_pos hn]; omega]; exact ⟨rfl, rfl⟩
      · rw [show (ab x - 1) * 2 = circ x by unfold ab circ; rw [if_neg hn, if_neg hn]; omega]; exact ⟨rfl, rfl⟩
theorem c14 (x : Int) (h : Heap) : CallsH Try.prog 14 #[.int .i64 x] h
    (Ret (if isX x then .tuple #[.int .i64 (circ x), .int .i64 0] else .tuple #[.int .i64 0, .int .i64 1]) h) := by
  refine run14 x _ h (use (c40 x h) ⟨_, rfl, ?_⟩)
  unfold isX
  cases hl : isF x
  · exact ⟨rfl, rfl⟩
  · have ⟨hx0, hx1, hx2⟩ := isF_t.1 hl
    refine BIf.f (use (c41 x h (by omega) (by omega)) ?_)
    refine ⟨_, rfl, fun hx => ?_, fun hx => ?_⟩
    · rw [Bool.true_and, show decide (ab x ≤ 16385) = false by simp; omega]; exact ⟨rfl, rfl⟩
    · rw [Bool.true_and, show decide (ab x ≤ 16385) = true by simp; omega]
      refine ⟨fun hn => ?_, fun hn => ?_⟩
      · rw [w64 (x := 0 - x) (by omega) (by omega), w64 (x := 0 - x - 1) (by omega) (by omega), w64 (x := 2 * (0 - x - 1)) (by omega) (by omega), w64 (by omega) (by omega),
          show 2 * (0 - x - 1) + 1 = circ x by unfold circ; rw [if_pos hn]; omega]; exact ⟨rfl, rfl⟩
      · rw [w64 (x := x - 1) (by omega) (by omega), w64 (by omega) (by omega), show 2 * (x - 1) = circ x by unfold circ; rw [if_neg hn]]; exact ⟨rfl, rfl⟩

/-- The order of literals. -/
def ord (x y : Int) : Int := if ab x = ab y then x - y else ab x - ab y
theorem c60 (x y : Int) (h : Heap) (hx : isF x = true) (hy : isF y = true) : CallsH Try.prog 60 #[.int .i64 x, .int .i64 y] h (Ret (.int .i64 (ord x y)) h) := by
  have ⟨hx0, hx1, hx2⟩ := isF_t.1 hx
  have ⟨hy0, hy1, hy2⟩ := isF_t.1 hy
  have ax : 1 ≤ ab x ∧ ab x ≤ 262144 := by unfold ab; split <;> omega
  have ay : 1 ≤ ab y ∧ ab y ≤ 262144 := by unfold ab; split <;> omega
  refine run60 x y _ h (use (c39 x h (by omega) (by omega)) ⟨_, rfl, use (c39 y h (by omega) (by omega)) ?_⟩)
  refine ⟨_, rfl, fun he => ?_, fun he => ?_⟩
  · rw [w64 (by omega) (by omega), show x - y = ord x y by unfold ord; rw [if_pos he]]; exact ⟨rfl, rfl⟩
  · refine use (c39 x h (by omega) (by omega)) ⟨_, rfl, use (c39 y h (by omega) (by omega)) ⟨_, rfl, ?_⟩⟩
    rw [w64 (by omega) (by omega), show ab x - ab y = ord x y by unfold ord; rw [if_neg he]]; exact ⟨rfl, rfl⟩

/-- What is wrong with a clause. -/
def chk (l : List Int) : Int := if 16384 < l.length then 2 else if l.all isF then 0 else 1

theorem chk_loop {f : FuncId} {cA : Option Addr} {cN : Nat} {l : List Int} {h : Heap} (r : Rd h cA cN (ints l)) (hn : cN ≤ 16384) {R : Value → Heap → Prop} (hR : R (.int .i64 (chk l)) h)
    (c : ∀ x, CallsH Try.prog f #[.int .i64 x] h (Ret (.bool (isF x)) h)) :
    LoopT (σ := Int) (fun t h next => PIf (t < ((cN : Nat) : Int))
      (0 ≤ t ∧ t < (cN : Nat) ∧ AtP cA fun ad => ∃ (t1 : Int), cellH h (Addr.add ad (Int.toNat t * 1)) = some (.int .i64 t1) ∧ CallsH Try.prog f #[(.int .i64 t1)] h fun v h_3 =>
        ∃ (t2 : Bool), v = (.bool t2) ∧ BIf (!t2) (R (.int .i64 1) h_3) (next ((IntKind.wrap .i64 (t + 1))) h_3))
      (R (.int .i64 0) h)) 0 h := by
  have hlen : l.length = cN := by have := r.len; rwa [List.length_map] at this
  refine ⟨fun t h' m => h' = h ∧ 0 ≤ t ∧ t ≤ cN ∧ m = (cN - t).toNat ∧ (l.take t.toNat).all isF = true, ⟨_, rfl, Int.le_refl _, by omega, rfl, by simp⟩, ?_⟩
  rintro t _ _ ⟨rfl, h0, h1, rfl, hall⟩
  refine ⟨fun hlt => ⟨h0, hlt, r.geti h0 hlt fun ad hl hc => ⟨_, hc, use (c _) ⟨_, rfl, ?_⟩⟩⟩, fun hge => ?_⟩
  · cases hf : isF l[t.toNat] with
    | false =>
      show R _ _
      have : chk l = 1 := by
        unfold chk
        rw [if_neg (by omega), if_neg]
        rw [List.all_eq_true]
        intro hh
        have := hh _ (List.getElem_mem hl)
        rw [hf] at this
        cases this
      rw [← this]; exact hR
    | true =>
      refine ⟨_, ?_, rfl, ?_, ?_, rfl, ?_⟩
      · rw [w64 (by omega) (by omega)]; omega
      · rw [w64 (by omega) (by omega)]; omega
      · rw [w64 (by omega) (by omega)]; omega
      · rw [w64 (by omega) (by omega), show (t + 1).toNat = t.toNat + 1 by omega, List.take_succ_eq_append_getElem hl, List.all_append, hall]
        simp [hf]
  · have : chk l = 0 := by
      unfold chk
      rw [List.take_of_length_le (by omega)] at hall
      rw [if_neg (by omega), if_pos hall]
    rw [← this]; exact hR
theorem c43 {cA : Option Addr} {cN cC : Nat} {l : List Int} {h : Heap} (r : Rd h cA cN (ints l)) : CallsH Try.prog 43 #[.slice cA cN cC] h (Ret (.int .i64 (chk l)) h) := by
  have hlen : l.length = cN := by have := r.len; rwa [List.length_map] at this
  refine run43 cA cN cC _ h ⟨fun hn => ?_, fun hn => chk_loop r (by omega) ⟨rfl, rfl⟩ fun x => c38 x h⟩
  unfold chk; rw [if_pos (by omega)]; exact ⟨rfl, rfl⟩
theorem c45 {cA : Option Addr} {cN cC : Nat} {l : List Int} {h : Heap} (r : Rd h cA cN (ints l)) : CallsH Try.prog 45 #[.slice cA cN cC] h (Ret (.int .i64 (chk l)) h) := by
  have hlen : l.length = cN := by have := r.len; rwa [List.length_map] at this
  refine run45 cA cN cC _ h ⟨fun hn => ?_, fun hn => chk_loop r (by omega) ⟨rfl, rfl⟩ fun x => c40 x h⟩
  unfold chk; rw [if_pos (by omega)]; exact ⟨rfl, rfl⟩
end Go.Proofs.Ytbfejkmnkkpkhaa
