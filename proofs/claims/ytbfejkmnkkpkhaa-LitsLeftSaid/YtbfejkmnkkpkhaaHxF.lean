/- Words and facts that the claim's proof leans on. No condition. -/
import Derived.Test.YtbfejkmnkkpkhaaHxE
set_option linter.unusedVariables false
set_option linter.unusedSimpArgs false
namespace Go.Hx

section
variable {P : Program} {N : Nat} {a : Act} {s : SF}

theorem PureS.value {e : Sem Value} {v : Value} (h : PureS P e v) : PureS P (do pure (.value (← e)) : Sem Next) (.value v) := fun w => by simp [h w]

theorem toList_beq {x y : ByteArray} : (x.toList == y.toList) = decide (x = y) := by
  rw [← beq_toListBytes, Bool.eq_iff_iff, decide_eq_true_iff]
  constructor
  · intro h
    obtain ⟨⟨x⟩⟩ := x
    obtain ⟨⟨y⟩⟩ := y
    have h' : ((⟨x⟩ : Array UInt8) == ⟨y⟩) = true := h
    have : x = y := by simpa using h'
    rw [this]
  · rintro rfl
    obtain ⟨⟨x⟩⟩ := x
    show ((⟨x⟩ : Array UInt8) == ⟨x⟩) = true
    simp

theorem fdiv_two (x : Int) (n : Nat) : x.fdiv (2 ^ n) = x / 2 ^ n := Int.fdiv_eq_ediv_of_nonneg _ (Int.le_of_lt (Int.pow_pos (by decide)))

def NilSays (P : Program) (t : TypeId) (x y : Operand) (v u : Value) (p : Prop) : Prop :=
  ∃ b : Bool, (b = true ↔ p) ∧ PureS P (do eqGuard .eql t x y v u; binOp .eql t v u) (.bool b) ∧
      PureS P (do eqGuard .neq t x y v u; binOp .neq t v u) (.bool !b)

theorem eq_says {t : TypeId} {x y : Operand} {v u : Value} {b : Bool} {p : Prop} (hp : b = true ↔ p) (hg : ∀ op, PureS P (eqGuard op t x y v u) ())
    (he : binOp .eql t v u = (do pure (.bool (← Op.equal t v u)))) (hn : binOp .neq t v u = (do pure (.bool (!(← Op.equal t v u)))))
    (h : PureS P (Op.equalIn (9999 + 1) t v u) b) : NilSays P t x y v u p := by
  have h' : PureS P (Op.equal t v u) b := h
  exact ⟨b, hp, (hg _).bind (by rw [he]; exact h'.bind (.ret _)), (hg _).bind (by rw [hn]; exact h'.bind (.ret _))⟩
theorem eqGuard_plain {t : TypeId} {x y : Operand} {v u : Value} (hv : match v with | .nilIface | .agg _ => False | _ => True) (op : BinOp) : PureS P (eqGuard op t x y v u) () := fun w => by
  cases op <;> cases v <;> first | exact hv.elim | (simp [eqGuard])
theorem in_ptr (d : Nat) {t e : TypeId} (hu : P.underlying t = some (.pointer e)) (p : Option Addr) : PureS P (Op.equalIn (d + 1) t (.pointer p) (.pointer none)) p.isNone := fun w => by cases p <;> simp [Op.equalIn, run_underlying hu]
theorem in_sl (d : Nat) {t e : TypeId} (hu : P.underlying t = some (.slice e)) (p : Option Addr) (n c n' c' : Nat) : PureS P (Op.equalIn (d + 1) t (.slice p n c) (.slice none n' c')) p.isNone := fun w => by cases p <;> simp [Op.equalIn, run_underlying hu]
theorem in_map (d : Nat) {t k e : TypeId} (hu : P.underlying t = some (.map k e)) (p : Option Nat) : PureS P (Op.equalIn (d + 1) t (.map p) (.map none)) p.isNone := fun w => by cases p <;> simp [Op.equalIn, run_underlying hu]
theorem in_nil (d : Nat) {t : TypeId} {ms : Array (String × TypeId)} (hu : P.underlying t = some (.interface ms)) : PureS P (Op.equalIn (d + 1) t .nilIface .nilIface) true := fun w => by simp [Op.equalIn, run_underlying hu]
theorem in_held (d : Nat) {t : TypeId} {ms : Array (String × TypeId)} (hu : P.underlying t = some (.interface ms)) (u : TypeId) (v : Value) : PureS P (Op.equalIn (d + 1) t (.iface u v) .nilIface) false := fun w => by simp [Op.equalIn, run_underlying hu]
theorem in_nilf (d : Nat) {t : TypeId} {ps rs : Array TypeId} {vr : Bool} (hu : P.underlying t = some (.func ps rs vr)) : PureS P (Op.equalIn (d + 1) t .nilFunc .nilFunc) true := fun w => by simp [Op.equalIn, run_underlying hu]
theorem in_func (d : Nat) {t : TypeId} {ps rs : Array TypeId} {vr : Bool} (hu : P.underlying t = some (.func ps rs vr)) (f : Fn) (u v : Array Value) : PureS P (Op.equalIn (d + 1) t (.func f u v) .nilFunc) false := fun w => by simp [Op.equalIn, run_underlying hu]
theorem nil_ptr {t e : TypeId} {x y : Operand} (hu : P.underlying t = some (.pointer e)) (p : Option Addr) : NilSays P t x y (.pointer p) (.pointer none) (p = none) :=
  eq_says (b := p.isNone) (by simp) (eqGuard_plain trivial) (by simp only [binOp]) (by simp only [binOp]) (in_ptr 9999 hu p)
theorem nil_sl {t e : TypeId} {x y : Operand} (hu : P.underlying t = some (.slice e)) (p : Option Addr) (n c n' c' : Nat) : NilSays P t x y (.slice p n c) (.slice none n' c') (p = none) :=
  eq_says (b := p.isNone) (by simp) (eqGuard_plain trivial) (by simp only [binOp]) (by simp only [binOp]) (in_sl 9999 hu p n c n' c')
theorem nil_map {t k e : TypeId} {x y : Operand} (hu : P.underlying t = some (.map k e)) (p : Option Nat) : NilSays P t x y (.map p) (.map none) (p = none) :=
  eq_says (b := p.isNone) (by simp) (eqGuard_plain trivial) (by simp only [binOp]) (by simp only [binOp]) (in_map 9999 hu p)
theorem nil_ifc {t : TypeId} {ms : Array (String × TypeId)} {x : Operand} {c : Value} (hu : P.underlying t = some (.interface ms)) : NilSays P t x (.const c) .nilIface .nilIface True :=
  eq_says (b := true) (by simp) (fun op w => by rw [eqGuard_nil_constR]; rfl) (by simp only [binOp]) (by simp only [binOp]) (in_nil 9999 hu)
theorem held_ifc {t : TypeId} {ms : Array (String × TypeId)} {x y : Operand} (hu : P.underlying t = some (.interface ms)) (u : TypeId) (v : Value) : NilSays P t x y (.iface u v) .nilIface False :=
  eq_says (b := false) (by simp) (eqGuard_plain trivial) (by simp only [binOp]) (by simp only [binOp]) (in_held 9999 hu u v)
theorem nil_fn {t : TypeId} {ps rs : Array TypeId} {vr : Bool} {x y : Operand} (hu : P.underlying t = some (.func ps rs vr)) : NilSays P t x y .nilFunc .nilFunc True :=
  eq_says (b := true) (by simp) (eqGuard_plain trivial) (by simp only [binOp]) (by simp only [binOp]) (in_nilf 9999 hu)
theorem held_fn {t : TypeId} {ps rs : Array TypeId} {vr : Bool} {x y : Operand} (hu : P.underlying t = some (.func ps rs vr)) (f : Fn) (u v : Array Value) : NilSays P t x y (.func f u v) .nilFunc False :=
  eq_says (b := false) (by simp) (eqGuard_plain trivial) (by simp only [binOp]) (by simp only [binOp]) (in_func 9999 hu f u v)

theorem isNil_sound {kd : NilK} {t : TypeId} {x y : Operand} (hy : nilK P t y = some kd) {v : Value} {K : Prop → Prop} (h : isNilP kd v K) :
    ∃ p : Prop, K p ∧ NilSays P t x y v (a.eval y) p := by
  unfold nilK at hy
  split at hy
  all_goals (first | (cases hy; done) | skip)
  all_goals (obtain rfl := Option.some.inj hy)
  all_goals (unfold isNilP at h; split at h)
  all_goals (first | exact h.elim | skip)
  all_goals (first | (exfalso; simp at *; done) | skip)
  all_goals refine ⟨_, h, ?_⟩
  all_goals simp only [Act.eval]
  · exact nil_ptr ‹_› _
  · exact nil_sl ‹_› _ _ _ _ _
  · exact nil_map ‹_› _
  · exact nil_ifc ‹_›
  · exact held_ifc ‹_› _ _
  · exact nil_fn ‹_›
  · exact held_fn ‹_› _ _ _


theorem fit_cons {sh : Shp} {l : List Shp} {vs : List Value} (h : fitB (sh :: l) vs = true) : ∃ u r, vs = u :: r ∧ fitB [sh] [u] = true ∧ fitB l r = true := by
  cases vs with
  | nil => cases sh <;> simp [fitB] at h
  | cons u r =>
    refine ⟨u, r, rfl, ?_⟩
    cases sh <;> cases u <;> simp_all [fitB]
theorem scalar_eq (d : Nat) {t : TypeId} {sh : Shp} (hs : scalarS P t = some sh) {u v : Value} (hu : fitB [sh] [u] = true) (hv : fitB [sh] [v] = true) :
    ∃ b : Bool, (b = true ↔ u = v) ∧ PureS P (Op.equalIn (d + 1) t u v) b := by
  unfold scalarS at hs
  split at hs
  all_goals (first | (cases hs; done) | skip)
  all_goals (obtain rfl := Option.some.inj hs)
  · rename_i hty
    cases u <;> simp [fitB] at hu
    cases v <;> simp [fitB] at hv
    rename_i x y
    exact ⟨x == y, by simp, fun w => by simp [Op.equalIn, run_underlying hty]⟩
  · rename_i k hty
    cases u <;> simp [fitB] at hu
    cases v <;> simp [fitB] at hv
    subst hu; subst hv
    rename_i x _ y
    exact ⟨x == y, by simp, fun w => by simp [Op.equalIn, run_underlying hty]⟩
  · rename_i hty
    cases u <;> simp [fitB] at hu
    cases v <;> simp [fitB] at hv
    rename_i x y
    refine ⟨decide (x = y), by simp, fun w => ?_⟩
    rw [run_equalIn_string w d t x y hty, toList_beq]
theorem part_scalar {t : TypeId} {sh : Shp} (hs : scalarS P t = some sh) {xs : Array Value} {i : Nat} {u : Value} (hx : xs[i]? = some u) : PureS P (part t xs i) u := by
  intro w
  unfold scalarS at hs
  split at hs
  all_goals (first | (cases hs; done) | skip)
  all_goals (rename_i hty; simp [part, isAgg, run_underlying hty, hx])
theorem eqFields_flat (d : Nat) {xs ys : Array Value} : ∀ {fs : List Field} {i : Nat} {l : List Shp}, flatL P fs i = some l → fitB l (xs.toList.drop i) = true → fitB l (ys.toList.drop i) = true →
    ∃ b : Bool, (b = true ↔ xs.toList.drop i = ys.toList.drop i) ∧ PureS P (Op.eqFields (d + 1) xs ys fs) b
  | [], i, l, hl, hx, hy => by
    obtain rfl : l = [] := by simpa [flatL] using hl.symm
    have e : ∀ {zs : List Value}, fitB [] zs = true → zs = [] := by intro zs h; cases zs; rfl; simp [fitB] at h
    exact ⟨true, by simp [e hx, e hy], fun w => by simp [Op.eqFields]⟩
  | f :: fs, i, l, hl, hx, hy => by
    simp only [flatL] at hl
    split at hl
    · rename_i sh l' hn hsc hr
      obtain rfl := Option.some.inj hl
      simp only [Bool.and_eq_true, bne_iff_ne, ne_eq, beq_iff_eq] at hn
      obtain ⟨u, rx, ex, hu, hx⟩ := fit_cons hx
      obtain ⟨v, ry, ey, hv, hy⟩ := fit_cons hy
      have hxi : xs[i]? = some u := by
        have := congrArg (·[0]?) ex
        simpa using this
      have hyi : ys[i]? = some v := by
        have := congrArg (·[0]?) ey
        simpa using this
      have dx : xs.toList.drop (i + 1) = rx := by rw [← List.drop_drop, ex]; rfl
      have dy : ys.toList.drop (i + 1) = ry := by rw [← List.drop_drop, ey]; rfl
      obtain ⟨b1, h1, p1⟩ := scalar_eq d hsc hu hv
      obtain ⟨b2, h2, p2⟩ := eqFields_flat d hr (by rw [dx]; exact hx) (by rw [dy]; exact hy)
      rw [dx, dy] at h2
      have q1 := part_scalar hsc hxi
      have q2 := part_scalar hsc hyi
      refine ⟨b1 && b2, ?_, fun w => ?_⟩
      · rw [ex, ey, Bool.and_eq_true, h1, h2, List.cons.injEq]
      · simp only [Op.eqFields, hn.1, ne_eq, not_false_eq_true, if_true, hn.2, Sem.run_bind, q1 w, q2 w, p1 w, Result.andThen_ok]
        cases b1
        · simp
        · simp [p2 w]
    · cases hl

theorem bin_sound {op : BinOp} {t : TypeId} {x y : Operand} {sop : SOp} (hc : copBin P op t x y = some sop) (hk : Knows N a s) {K : Value → Prop} (h : pureC sop s K) :
    ∃ v, PureS P (do eqGuard op t x y (a.eval x) (a.eval y); binOp op t (a.eval x) (a.eval y)) v ∧ K v := by
  unfold copBin at hc
  split at hc
  · -- int
    rename_i k hu
    cases op <;> simp only at hc
    case add | sub | mul =>
      obtain rfl := Option.some.inj hc
      obtain ⟨m, hx, h⟩ := getI_out hk h
      obtain ⟨n, hy, h⟩ := getI_out hk h
      exact ⟨_, fun w => by simp [hx, hy, eqGuard, binOp, Op.intArith, aop], h⟩
    case quo =>
      split at hc
      · rename_i k' c
        cases hcc : (k' == k && c != 0) with
        | false => simp [hcc] at hc
        | true =>
          simp only [hcc] at hc
          obtain rfl := Option.some.inj hc
          simp only [Bool.and_eq_true, beq_iff_eq, bne_iff_ne, ne_eq] at hcc
          obtain ⟨m, hx, h⟩ := getI_out hk h
          have hy : a.eval (.const (.int k' c)) = .int k c := by rw [hcc.1]; rfl
          exact ⟨_, fun w => by simp [hx, hy, eqGuard, binOp, Op.intDiv, hcc.2], h⟩
      · obtain rfl := Option.some.inj hc
        obtain ⟨m, hx, h⟩ := getI_out hk h
        obtain ⟨n, hy, h0, h⟩ := getI_out hk h
        exact ⟨_, fun w => by simp [hx, hy, eqGuard, binOp, Op.intDiv, h0], h⟩
    case rem =>
      split at hc
      · rename_i k' c
        cases hcc : (k' == k && c != 0) with
        | false => simp [hcc] at hc
        | true =>
          simp only [hcc] at hc
          obtain rfl := Option.some.inj hc
          simp only [Bool.and_eq_true, beq_iff_eq, bne_iff_ne, ne_eq] at hcc
          obtain ⟨m, hx, h⟩ := getI_out hk h
          have hy : a.eval (.const (.int k' c)) = .int k c := by rw [hcc.1]; rfl
          exact ⟨_, fun w => by simp [hx, hy, eqGuard, binOp, Op.intDiv, hcc.2], h⟩
      · obtain rfl := Option.some.inj hc
        obtain ⟨m, hx, h⟩ := getI_out hk h
        obtain ⟨n, hy, h0, h⟩ := getI_out hk h
        exact ⟨_, fun w => by simp [hx, hy, eqGuard, binOp, Op.intDiv, h0], h⟩
    case and | or | xor | andNot =>
      obtain rfl := Option.some.inj hc
      obtain ⟨m, hx, h⟩ := getI_out hk h
      obtain ⟨n, hy, h⟩ := getI_out hk h
      exact ⟨_, fun w => by simp [hx, hy, eqGuard, binOp, Op.intBits, bop], h⟩
    case shl | shr =>
      split at hc
      · rename_i k' c
        cases hcc : (decide (0 ≤ c) && decide (c ≤ k.bits)) with
        | false => simp [hcc] at hc
        | true =>
          simp only [hcc] at hc
          obtain rfl := Option.some.inj hc
          simp only [Bool.and_eq_true, decide_eq_true_eq] at hcc
          obtain ⟨m, hx, h⟩ := getI_out hk h
          have hmin : min c.toNat k.bits = c.toNat := by omega
          have hy : a.eval (.const (.int k' c)) = .int k' c := rfl
          exact ⟨_, fun w => by simp [hx, hy, eqGuard, binOp, Op.shift, hmin, fdiv_two, show ¬ c < 0 by omega], h⟩
      · obtain rfl := Option.some.inj hc
        obtain ⟨m, hx, h⟩ := getI_out hk h
        obtain ⟨k', n, hy, h0, h⟩ := getZ_out hk h
        exact ⟨_, fun w => by simp [hx, hy, eqGuard, binOp, Op.shift, fdiv_two, show ¬ n < 0 by omega], h⟩
    case neq =>
      obtain rfl := Option.some.inj hc
      obtain ⟨m, hx, h⟩ := getI_out hk h
      obtain ⟨n, hy, h⟩ := getI_out hk h
      rcases PIf_out h with ⟨hp, h⟩ | ⟨hp, h⟩
      · exact ⟨_, fun w => by simp [hx, hy, eqGuard, binOp, Op.intCmp, hp], h⟩
      · exact ⟨_, fun w => by simp [hx, hy, eqGuard, binOp, Op.intCmp, hp], h⟩
    all_goals
      obtain rfl := Option.some.inj hc
      obtain ⟨m, hx, h⟩ := getI_out hk h
      obtain ⟨n, hy, h⟩ := getI_out hk h
      rcases PIf_out h with ⟨hp, h⟩ | ⟨hp, h⟩
      · simp only [cmpP] at hp
        exact ⟨_, fun w => by simp [hx, hy, eqGuard, binOp, Op.intCmp, hp] <;> omega, h⟩
      · simp only [cmpP] at hp
        exact ⟨_, fun w => by simp [hx, hy, eqGuard, binOp, Op.intCmp, hp] <;> omega, h⟩
  · -- string
    rename_i hu
    cases op <;> simp only at hc <;> first | (cases hc; done) | (obtain rfl := Option.some.inj hc)
    · obtain ⟨m, hx, h⟩ := getS_out hk h
      obtain ⟨n, hy, h0, h⟩ := getS_out hk h
      refine ⟨_, fun w => ?_, h⟩
      simp [hx, hy, eqGuard, binOp, Op.stringOp]
      omega
    all_goals
      obtain ⟨m, hx, h⟩ := getS_out hk h
      obtain ⟨n, hy, h⟩ := getS_out hk h
      rcases PIf_out h with ⟨hp, h⟩ | ⟨hp, h⟩
      · exact ⟨_, fun w => by simp [hx, hy, eqGuard, binOp, Op.stringOp, toList_beq, hp], h⟩
      · exact ⟨_, fun w => by simp [hx, hy, eqGuard, binOp, Op.stringOp, toList_beq, hp], h⟩
  · -- bool
    rename_i hu
    cases op <;> simp only at hc <;> first | (cases hc; done) | (obtain rfl := Option.some.inj hc)
    all_goals
      obtain ⟨m, hx, h⟩ := getB_out hk h
      obtain ⟨n, hy, h⟩ := getB_out hk h
      rcases PIf_out h with ⟨hp, h⟩ | ⟨hp, h⟩
      · exact ⟨_, fun w => by simp only [hx, hy, Sem.run_bind, eqGuard_at_bool, Sem.run_pure, Result.andThen_ok]; (first | rw [run_eql_bool _ _ _ _ hu] | rw [run_neq_bool _ _ _ _ hu]); simp [hp], h⟩
      · exact ⟨_, fun w => by simp only [hx, hy, Sem.run_bind, eqGuard_at_bool, Sem.run_pure, Result.andThen_ok]; (first | rw [run_eql_bool _ _ _ _ hu] | rw [run_neq_bool _ _ _ _ hu]); simp [hp], h⟩
  · -- struct
    rename_i fs hu
    have hfo : P.underlying t = some (.struct (P.fieldsOf t)) := by simp [Program.fieldsOf, hu]
    have key : ∀ {l : List Shp}, flatS P t = some l → ∀ {xs ys : Array Value}, (fitB l xs.toList && fitB l ys.toList) = true →
        ∃ b : Bool, (b = true ↔ xs = ys) ∧ PureS P (Op.equalIn (9999 + 1) t (.agg xs) (.agg ys)) b ∧ ∀ op, PureS P (eqGuard op t x y (.agg xs) (.agg ys)) () := by
      intro l hl xs ys hf
      unfold flatS at hl
      rw [hu] at hl
      simp only at hl
      split at hl
      · rename_i h1 h2
        simp only [Bool.and_eq_true] at hf
        obtain ⟨b, hb, hp⟩ := eqFields_flat 9998 (xs := xs) (ys := ys) hl (by simpa using hf.1) (by simpa using hf.2)
        refine ⟨b, ?_, fun w => ?_, fun op w => run_eqGuard_agg w op t x y xs ys h2⟩
        · rw [hb]; simp [Array.toList_inj]
        · have := run_equalIn_struct w 9999 t xs ys hfo h1
          rw [this, Program.fieldsOf, hu]
          exact hp w
      · cases hl
    split at hc
    all_goals (first | (cases hc; done) | skip)
    all_goals
      rename_i l hl
      obtain rfl := Option.some.inj hc
      obtain ⟨xs, hx, h⟩ := getA_out hk h
      obtain ⟨ys, hy, h⟩ := getA_out hk h
      split at h
      case h_2 => exact h.elim
      rename_i hf
      obtain ⟨b, hb, he, hg⟩ := key hl hf
      simp only at h
      have he' : PureS P (Op.equal t (.agg xs) (.agg ys)) b := he
      rw [hx, hy]
      simp only [binOp]
      rcases PIf_out h with ⟨hp, h⟩ | ⟨hp, h⟩
      · refine ⟨_, (hg _).bind (he'.bind (.ret _)), ?_⟩
        rw [hb.2 hp]; exact h
      · refine ⟨_, (hg _).bind (he'.bind (.ret _)), ?_⟩
        have : b = false := by cases b; rfl; exact absurd (hb.1 rfl) hp
        rw [this]; exact h
  · -- nil
    split at hc
    all_goals (first | (cases hc; done) | skip)
    all_goals
      rename_i kd hkd
      obtain rfl := Option.some.inj hc
      obtain ⟨v, hx, h⟩ := get_out hk h
      obtain ⟨p, h, b, hb, h1, h2⟩ := isNil_sound (P := P) (a := a) (x := x) hkd h
      simp only at h
      rw [hx]
      rcases PIf_out h with ⟨hp, h⟩ | ⟨hp, h⟩
      · have hbt := hb.2 hp
        subst hbt
        first | exact ⟨_, h1, h⟩ | exact ⟨_, h2, h⟩
      · have hbt : b = false := by cases b; rfl; exact absurd (hb.1 rfl) hp
        subst hbt
        first | exact ⟨_, h1, h⟩ | exact ⟨_, h2, h⟩

end
end Go.Hx
