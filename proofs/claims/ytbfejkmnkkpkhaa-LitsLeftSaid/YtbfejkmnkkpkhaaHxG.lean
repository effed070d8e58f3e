/- Words and facts that the claim's proof leans on. No condition. -/
import Derived.Test.YtbfejkmnkkpkhaaHxF
set_option linter.unusedVariables false
set_option linter.unusedSimpArgs false
namespace Go.Hx

section
variable {P : Program} {N : Nat} {a : Act} {s : SF}

theorem isAgg_true {t : TypeId} (h : isAggB P t = some true) : PureS P (isAgg t) true := by
  unfold isAggB at h
  split at h <;> first | (cases h; done) | (rename_i hu; exact fun w => by simp [isAgg, run_underlying hu])
theorem isAgg_false {t : TypeId} (h : isAggB P t = some false) : PureS P (isAgg t) false := by
  unfold isAggB at h
  split at h
  all_goals first | (cases h; done) | skip
  rename_i d h1 h2 hu
  intro w
  cases d <;> simp_all [isAgg, run_underlying hu]

theorem sliceBound_pure (k : IntKind) (i : Int) (y : Nat) (code : BoundsCode) (h0 : 0 ≤ i) (h1 : i ≤ y) : PureS P (Instr.sliceBound (.int k i) y code) i.toNat :=
  fun w => run_sliceBound (P := P) w k i y code h0 h1

theorem cut_zero (a : Option Addr) (sz c : Nat) : cutA sz a c 0 = a := by
  unfold cutA
  split
  · rfl
  · cases a <;> simp [Addr.add]

theorem slc_sound {t e : TypeId} {j : TypeInfo} {x : Operand} {lo hi : Option Operand} (hu : P.underlying t = some (.slice e)) (hj : P.info? e = some j) (hk : Knows N a s) {K : Value → Prop}
    (h : pureC (.slc j.size x lo hi) s K) : ∃ v, PureS P (Instr.sliceAt t (a.eval x) (lo.map a.eval) (hi.map a.eval) none) v ∧ K v := by
  obtain ⟨p, n, c, hx, h⟩ := getSl_out hk h
  have key : ∀ (l m : Int), 0 ≤ l → l ≤ m → m ≤ c → PureS P (Instr.sliceBounds true n c (lo.map a.eval) (hi.map a.eval) none) (l.toNat, m.toNat, c) →
      PureS P (Instr.sliceAt t (a.eval x) (lo.map a.eval) (hi.map a.eval) none) (.slice (cutA j.size p c l.toNat) (m.toNat - l.toNat) (c - l.toNat)) := by
    intro l m h0 h1 h2 hb w
    have hsz := PureS.sizeOf (P := P) hj w
    simp [Instr.sliceAt, run_underlying hu, Instr.slice, hx, hb w, hsz, cutA]
  rcases loc_out hk h with ⟨el, g⟩ | ⟨xl, kl, l, el, hl, g⟩ <;> subst el
  · rcases hic_out hk g with ⟨eh, r⟩ | ⟨xh, kh, m, eh, hm, r⟩ <;> subst eh
    · obtain ⟨h0, h1, h2, r⟩ := r
      exact ⟨_, key 0 n h0 h1 h2 (fun w => by simp [Instr.sliceBounds]), r⟩
    · obtain ⟨h0, h1, h2, r⟩ := r
      exact ⟨_, key 0 m h0 h1 h2 (fun w => by simp [Instr.sliceBounds, hm, sliceBound_pure (P := P) kh m c _ h1 h2 w]), r⟩
  · rcases hic_out hk g with ⟨eh, r⟩ | ⟨xh, kh, m, eh, hm, r⟩ <;> subst eh
    · obtain ⟨h0, h1, h2, r⟩ := r
      exact ⟨_, key l n h0 h1 h2 (fun w => by simp [Instr.sliceBounds, hl, sliceBound_pure (P := P) kl l n _ h0 h1 w]), r⟩
    · obtain ⟨h0, h1, h2, r⟩ := r
      exact ⟨_, key l m h0 h1 h2 (fun w => by simp [Instr.sliceBounds, hl, hm, sliceBound_pure (P := P) kh m c _ (by omega) h2 w, sliceBound_pure (P := P) kl l m.toNat _ h0 (by omega) w]), r⟩

theorem slc3_sound {t e : TypeId} {j : TypeInfo} {x hi mx : Operand} {lo : Option Operand} (hu : P.underlying t = some (.slice e)) (hj : P.info? e = some j) (hk : Knows N a s) {K : Value → Prop}
    (h : pureC (.slc3 j.size x lo hi mx) s K) : ∃ v, PureS P (Instr.sliceAt t (a.eval x) (lo.map a.eval) (some (a.eval hi)) (some (a.eval mx))) v ∧ K v := by
  obtain ⟨p, n, c, hx, h⟩ := getSl_out hk h
  obtain ⟨km, m, hm, h⟩ := getZ_out hk h
  obtain ⟨kh, u, hh, h⟩ := getZ_out hk h
  have key : ∀ (l : Int), 0 ≤ l → l ≤ u → u ≤ m → m ≤ c → PureS P (Instr.sliceBounds true n c (lo.map a.eval) (some (a.eval hi)) (some (a.eval mx))) (l.toNat, u.toNat, m.toNat) →
      PureS P (Instr.sliceAt t (a.eval x) (lo.map a.eval) (some (a.eval hi)) (some (a.eval mx))) (.slice (cutA j.size p m.toNat l.toNat) (u.toNat - l.toNat) (m.toNat - l.toNat)) := by
    intro l h0 h1 h2 h3 hb w
    have hsz := PureS.sizeOf (P := P) hj w
    simp [Instr.sliceAt, run_underlying hu, Instr.slice, hx, hb w, hsz, cutA]
  rcases loc_out hk h with ⟨el, g⟩ | ⟨xl, kl, l, el, hl, g⟩ <;> subst el
  · obtain ⟨h0, h1, h2, h3, r⟩ := g
    exact ⟨_, key 0 h0 h1 h2 h3 (fun w => by
      simp [Instr.sliceBounds, hh, hm, sliceBound_pure (P := P) km m c _ (by omega) h3 w, sliceBound_pure (P := P) kh u m.toNat _ h1 (by omega) w]), r⟩
  · obtain ⟨h0, h1, h2, h3, r⟩ := g
    exact ⟨_, key l h0 h1 h2 h3 (fun w => by
      simp [Instr.sliceBounds, hl, hh, hm, sliceBound_pure (P := P) km m c _ (by omega) h3 w, sliceBound_pure (P := P) kh u m.toNat _ (by omega) (by omega) w, sliceBound_pure (P := P) kl l u.toNat _ h0 (by omega) w]), r⟩

theorem slcS_sound {t : TypeId} {x : Operand} {lo hi : Option Operand} (hu : P.underlying t = some .string) (hk : Knows N a s) {K : Value → Prop}
    (h : pureC (.slcS x lo hi) s K) : ∃ v, PureS P (Instr.sliceAt t (a.eval x) (lo.map a.eval) (hi.map a.eval) none) v ∧ K v := by
  obtain ⟨b, hx, h⟩ := getS_out hk h
  have key : ∀ (l m : Int), 0 ≤ l → l ≤ m → m ≤ b.size → PureS P (Instr.sliceBounds false b.size b.size (lo.map a.eval) (hi.map a.eval) none) (l.toNat, m.toNat, b.size) →
      PureS P (Instr.sliceAt t (a.eval x) (lo.map a.eval) (hi.map a.eval) none) (.string (b.extract l.toNat m.toNat)) := by
    intro l m h0 h1 h2 hb w
    simp [Instr.sliceAt, run_underlying hu, Instr.slice, hx, hb w]
  rcases loc_out hk h with ⟨el, g⟩ | ⟨xl, kl, l, el, hl, g⟩ <;> subst el
  · rcases hic_out hk g with ⟨eh, r⟩ | ⟨xh, kh, m, eh, hm, r⟩ <;> subst eh
    · obtain ⟨h0, h1, h2, r⟩ := r
      exact ⟨_, key 0 b.size h0 h1 h2 (fun w => by simp [Instr.sliceBounds]), r⟩
    · obtain ⟨h0, h1, h2, r⟩ := r
      exact ⟨_, key 0 m h0 h1 h2 (fun w => by simp [Instr.sliceBounds, hm, sliceBound_pure (P := P) kh m b.size _ h1 h2 w]), r⟩
  · rcases hic_out hk g with ⟨eh, r⟩ | ⟨xh, kh, m, eh, hm, r⟩ <;> subst eh
    · obtain ⟨h0, h1, h2, r⟩ := r
      exact ⟨_, key l b.size h0 h1 h2 (fun w => by simp [Instr.sliceBounds, hl, sliceBound_pure (P := P) kl l b.size _ h0 h1 w]), r⟩
    · obtain ⟨h0, h1, h2, r⟩ := r
      exact ⟨_, key l m h0 h1 h2 (fun w => by simp [Instr.sliceBounds, hl, hm, sliceBound_pure (P := P) kh m b.size _ (by omega) h2 w, sliceBound_pure (P := P) kl l m.toNat _ h0 (by omega) w]), r⟩

theorem slcA_sound {t e : TypeId} {n : Nat} {j : TypeInfo} {x : Operand} {lo hi : Option Operand} (hu : P.underlying t = some (.array n e)) (hj : P.info? e = some j) (hk : Knows N a s) {K : Value → Prop}
    (h : pureC (.slcA n j.size x lo hi) s K) : ∃ v, PureS P (Instr.sliceAt t (a.eval x) (lo.map a.eval) (hi.map a.eval) none) v ∧ K v := by
  obtain ⟨p, hx, h⟩ := getP_out hk h
  have key : ∀ (l m : Int) (ad : Addr), p = some ad → 0 ≤ l → l ≤ m → m ≤ n → PureS P (Instr.sliceBounds false n n (lo.map a.eval) (hi.map a.eval) none) (l.toNat, m.toNat, n) →
      PureS P (Instr.sliceAt t (a.eval x) (lo.map a.eval) (hi.map a.eval) none) (.slice (some (cutR j.size ad n l.toNat)) (m.toNat - l.toNat) (n - l.toNat)) := by
    intro l m ad hp h0 h1 h2 hb w
    have hsz := PureS.sizeOf (P := P) hj w
    simp [Instr.sliceAt, run_underlying hu, hx, hp, Instr.sureAddr, hb w, hsz, cutR]
  rcases loc_out hk h with ⟨el, g⟩ | ⟨xl, kl, l, el, hl, g⟩ <;> subst el
  · rcases hic_out hk g with ⟨eh, r⟩ | ⟨xh, kh, m, eh, hm, r⟩ <;> subst eh
    · obtain ⟨h0, h1, h2, r⟩ := r
      obtain ⟨ad, hp, r⟩ := AtP_out r
      exact ⟨_, key 0 n ad hp h0 h1 h2 (fun w => by simp [Instr.sliceBounds]), r⟩
    · obtain ⟨h0, h1, h2, r⟩ := r
      obtain ⟨ad, hp, r⟩ := AtP_out r
      exact ⟨_, key 0 m ad hp h0 h1 h2 (fun w => by simp [Instr.sliceBounds, hm, sliceBound_pure (P := P) kh m n _ h1 h2 w]), r⟩
  · rcases hic_out hk g with ⟨eh, r⟩ | ⟨xh, kh, m, eh, hm, r⟩ <;> subst eh
    · obtain ⟨h0, h1, h2, r⟩ := r
      obtain ⟨ad, hp, r⟩ := AtP_out r
      exact ⟨_, key l n ad hp h0 h1 h2 (fun w => by simp [Instr.sliceBounds, hl, sliceBound_pure (P := P) kl l n _ h0 h1 w]), r⟩
    · obtain ⟨h0, h1, h2, r⟩ := r
      obtain ⟨ad, hp, r⟩ := AtP_out r
      exact ⟨_, key l m ad hp h0 h1 h2 (fun w => by simp [Instr.sliceBounds, hl, hm, sliceBound_pure (P := P) kh m n _ (by omega) h2 w, sliceBound_pure (P := P) kl l m.toNat _ h0 (by omega) w]), r⟩

theorem mnx_sound (isMax : Bool) {k : IntKind} (hk : Knows N a s) : ∀ {xs : List Operand} {m : Int} {K : Int → Prop}, mnxC isMax k s m xs K →
    ∃ r, K r ∧ PureS P ((xs.map a.eval).foldlM (match isMax with | true => Builtin.max2 | false => Builtin.min2) (.int k m)) (.int k r)
  | [], m, K, h => ⟨m, h, fun w => by simp⟩
  | x :: xs, m, K, h => by
    obtain ⟨n, hx, h⟩ := getI_out hk (show getI k s x _ from h)
    obtain ⟨r, hK, hp⟩ := mnx_sound isMax hk h
    refine ⟨r, hK, fun w => ?_⟩
    have hp' := hp w
    cases isMax
    · simp only [List.map_cons, hx, List.foldlM_cons, Builtin.min2, Sem.run_bind, Sem.run_pure, Result.andThen_ok]
      have : (if n < m then n else m) = min m n := by rw [Int.min_def]; split <;> split <;> omega
      rw [this]
      exact hp'
    · simp only [List.map_cons, hx, List.foldlM_cons, Builtin.max2, Sem.run_bind, Sem.run_pure, Result.andThen_ok]
      have : (if n > m then n else m) = max m n := by rw [Int.max_def]; split <;> split <;> omega
      rw [this]
      exact hp'


theorem build_sound {ps : Array (Nat × Operand)} {l : List (Nat × Nat × Operand)} {place : Nat → Option (Nat × Nat)} {zero : Array Value} (hl : partsOf P place ps.toList = some l) (hk : Knows N a s)
    {K : List Value → Prop} (h : fillC s zero l K) : ∃ c, K c ∧ Instr.fill place zero (ps.map fun (i, x) => (i, a.eval x)).toList = some c.toArray := by
  have h2 := partsC_out hk h
  split at h2
  · rename_i c hc
    refine ⟨c, h2, ?_⟩
    have := fill_of (ev := a.eval) hl hc
    simpa using this
  · exact h2.elim

theorem mapM_places (fs : Array Field) (g : Field → Option Nat) (hg : ∀ f ∈ fs.toList, ∃ n, g f = some n ∧ PureS P (sizeOf f.type) n) :
    PureS P (fs.mapM fun f => do pure (f.offset, ← sizeOf f.type)) (fs.map fun f => (f.offset, (g f).getD 0)) := by
  have key : ∀ l : List Field, (∀ f ∈ l, ∃ n, g f = some n ∧ PureS P (sizeOf f.type) n) → PureS P (l.mapM fun f => do pure (f.offset, ← sizeOf f.type)) (l.map fun f => (f.offset, (g f).getD 0)) := by
    intro l
    induction l with
    | nil => intro _ w; simp
    | cons f l ih =>
      intro hl w
      obtain ⟨n, h1, h2⟩ := hl f (List.mem_cons_self ..)
      have h3 := ih (fun g hg => hl g (List.mem_cons_of_mem _ hg)) w
      simp only [List.mapM_cons, Sem.run_bind, h2 w, Result.andThen_ok, Sem.run_pure, h3, List.map_cons, h1, Option.getD_some]
  intro w
  have h := key fs.toList hg w
  rw [Array.mapM_eq_mapM_toList]
  simp only [Sem.run_map, h, Result.andThen_ok]
  congr 1
  apply Array.toList_inj.1
  simp

theorem pure_sound {o : Oper} {op : SOp} {x : Bool} (hc : cop P o = some op) (hcl : op.cls x = .pure) (hk : Knows N a s) {K : Value → Prop} (h : pureC op s K) :
    ∃ v, PureS P (execOp a.eval o) (.value v) ∧ K v := by
  obtain ⟨dst, o, ty, pos, after, guard⟩ := o
  cases o <;> simp only [cop] at hc <;> simp only [execOp] <;> first | (cases hc; done) | skip
  case move x =>
    obtain rfl := Option.some.inj hc
    obtain ⟨v, hx, h⟩ := get_out hk h
    exact ⟨v, by rw [hx]; exact .ret _, h⟩
  case assign x =>
    obtain rfl := Option.some.inj hc
    obtain ⟨v, hx, h⟩ := get_out hk h
    exact ⟨v, by rw [hx]; exact .ret _, h⟩
  case pick c y z =>
    obtain rfl := Option.some.inj hc
    obtain ⟨t, ht, h⟩ := getB_out hk h
    cases t
    · obtain ⟨v, hx, h⟩ := get_out hk h
      exact ⟨v, fun w => by simp [ht, hx, asBool], h⟩
    · obtain ⟨v, hx, h⟩ := get_out hk h
      exact ⟨v, fun w => by simp [ht, hx, asBool], h⟩
  case alloc e =>
    cases hz : zeroOf P e <;> simp [hz] at hc
    subst hc; cases x <;> simp [SOp.cls] at hcl
  case box e y => obtain rfl := Option.some.inj hc; cases x <;> simp [SOp.cls] at hcl
  case build t parts =>
    split at hc
    · cases hc
    · rename_i z hz
      split at hc
      · rename_i fs hu
        split at hc
        · rename_i hall
          cases hl : partsOf P (fun i => (fs[i]?).bind fun (f : Field) => (P.info? f.type).map fun j => (f.offset, j.size)) parts.toList with
          | none => simp [hl] at hc
          | some l =>
            simp only [hl, Option.map_some, Option.some.injEq] at hc
            subst hc
            obtain ⟨c, h, hf⟩ := build_sound hl hk h
            have hz' : ∃ i, P.info? t = some i ∧ i.zero = some z := by
              unfold zeroOf at hz
              cases hi : P.info? t with
              | none => simp [hi] at hz
              | some i => simp only [hi, Option.bind_some] at hz; exact ⟨i, rfl, hz⟩
            obtain ⟨ti, hi, hzz⟩ := hz'
            have hm := mapM_places (P := P) fs (fun f => (P.info? f.type).map (·.size)) (fun f hf => by
              have := List.all_eq_true.1 hall f hf
              obtain ⟨j, hj⟩ := Option.isSome_iff_exists.1 this
              exact ⟨j.size, by simp [hj], PureS.sizeOf hj⟩)
            refine ⟨.agg c.toArray, fun w => ?_, h⟩
            have hpl : (fun (i : Nat) => (fs.map fun (f : Field) => (f.offset, ((P.info? f.type).map (·.size)).getD 0))[i]?) = (fun (i : Nat) => (fs[i]?).bind fun (f : Field) => (P.info? f.type).map fun j => (f.offset, j.size)) := by
              funext i
              simp only [Array.getElem?_map]
              cases hfi : fs[i]? with
              | none => simp
              | some f =>
                have := List.all_eq_true.1 hall f (Array.mem_toList_iff.2 (Array.mem_of_getElem? hfi))
                obtain ⟨j, hj⟩ := Option.isSome_iff_exists.1 this
                simp [hj]
            have hz3 := PureS.zeroValue (P := P) hi hzz w
            unfold Instr.build
            simp only [Sem.run_bind, hz3, Result.andThen_ok, run_underlying hu, hm w]
            rw [show (fun (x : Nat) => (fs.map fun (f : Field) => (f.offset, ((P.info? f.type).map (·.size)).getD 0))[x]?) = _ from hpl]
            rw [hf]
            simp
        · cases hc
      · rename_i n e hu
        split at hc
        · rename_i j hj
          cases hl : partsOf P (fun i => some (i * j.size, j.size)) parts.toList with
          | none => simp [hl] at hc
          | some l =>
            simp only [hl, Option.map_some, Option.some.injEq] at hc
            subst hc
            obtain ⟨c, h, hf⟩ := build_sound hl hk h
            have hz' : ∃ i, P.info? t = some i ∧ i.zero = some z := by
              unfold zeroOf at hz
              cases hi : P.info? t with
              | none => simp [hi] at hz
              | some i => simp only [hi, Option.bind_some] at hz; exact ⟨i, rfl, hz⟩
            obtain ⟨ti, hi, hzz⟩ := hz'
            refine ⟨.agg c.toArray, fun w => ?_, h⟩
            have hz3 := PureS.zeroValue (P := P) hi hzz w
            have hsz := PureS.sizeOf (P := P) hj w
            unfold Instr.build
            simp only [Sem.run_bind, hz3, Result.andThen_ok, run_underlying hu, hsz]
            rw [hf]
            simp
        · cases hc
      · cases hc
  case buildSlice t len parts =>
    exfalso
    repeat' (first | (cases hc; done) | (split at hc))
    all_goals first | (cases hc; done) | skip
    rename_i z _ _ hz
    cases hl : partsOf P (fun i => some (i * _, _)) parts.toList with
    | none => rw [hl] at hc; cases hc
    | some l => rw [hl] at hc; obtain rfl := Option.some.inj hc; cases x <;> simp [SOp.cls] at hcl
  case load t y =>
    exfalso
    repeat' (first | (cases hc; done) | (split at hc))
    all_goals first | (cases hc; done) | (obtain rfl := Option.some.inj hc; cases x <;> simp [SOp.cls] at hcl)
  case store t y z =>
    exfalso
    repeat' (first | (cases hc; done) | (split at hc))
    all_goals first | (cases hc; done) | (obtain rfl := Option.some.inj hc; cases x <;> simp [SOp.cls] at hcl)
  case nilCheck y =>
    obtain rfl := Option.some.inj hc
    obtain ⟨v, hy, h⟩ := get_out hk h
    rw [hy]
    split at h
    · obtain ⟨ad, hp, h⟩ := AtP_out h
      subst hp
      exact ⟨_, .ret _, h⟩
    · exact ⟨_, .ret _, h⟩
    · exact ⟨_, .ret _, h⟩
    · exact h.elim
  case binOp op' t y z yt =>
    obtain ⟨v, hv, h⟩ := bin_sound hc hk h
    exact ⟨v, PureS.value hv, h⟩
  case unOp op' t y =>
    split at hc
    all_goals first | (cases hc; done) | (obtain rfl := Option.some.inj hc)
    · obtain ⟨m, hy, h⟩ := getI_out hk h
      exact ⟨.int _ (IntKind.wrap _ (0 - m)), PureS.value (fun w => by simp [hy, Op.unary, Op.intArith]), h⟩
    · obtain ⟨m, hy, h⟩ := getI_out hk h
      exact ⟨_, PureS.value (fun w => by simp [hy, Op.unary, Op.intBits, bop]), h⟩
    · obtain ⟨m, hy, h⟩ := getB_out hk h
      exact ⟨_, PureS.value (fun w => by simp [hy, Op.unary]), h⟩
  case convert src dst y =>
    split at hc
    · rename_i k k' h1 h2
      obtain rfl := Option.some.inj hc
      obtain ⟨k2, m, hy, h⟩ := getZ_out hk h
      exact ⟨_, PureS.value (fun w => by simp [hy, convert, run_underlying h1, run_underlying h2, Conv.intToInt]), h⟩
    · rename_i h1 h2
      obtain rfl := Option.some.inj hc
      obtain ⟨b, hy, h⟩ := getS_out hk h
      exact ⟨_, PureS.value (fun w => by simp [hy, convert, run_underlying h1, run_underlying h2]), h⟩
    · split at hc
      all_goals first | (cases hc; done) | (obtain rfl := Option.some.inj hc; cases x <;> simp [SOp.cls] at hcl)
    · split at hc
      all_goals first | (cases hc; done) | (obtain rfl := Option.some.inj hc; cases x <;> simp [SOp.cls] at hcl)
    · cases hc
  case makeInterface t y =>
    split at hc
    · cases hc
    · rename_i d hne hu
      obtain rfl := Option.some.inj hc
      obtain ⟨v, hy, h⟩ := get_out hk h
      refine ⟨_, PureS.value (fun w => ?_), h⟩
      unfold Instr.makeInterface
      simp only [Sem.run_bind, run_underlying hu, Result.andThen_ok, hy]
      cases d <;> first | rfl | (exact absurd rfl (hne _))
    · cases hc
  case makeFunc fn first cap =>
    obtain rfl := Option.some.inj hc
    obtain ⟨xs, hx, h⟩ := getAll_out hk h
    obtain ⟨ys, hy, h⟩ := getAll_out hk h
    refine ⟨_, PureS.value (fun w => ?_), h⟩
    subst hx; subst hy
    have e1 : first.map a.eval = (first.toList.map a.eval).toArray := by apply Array.toList_inj.1; simp
    have e2 : cap.map a.eval = (cap.toList.map a.eval).toArray := by apply Array.toList_inj.1; simp
    rw [e1, e2]
    rfl
  case makeMap t r =>
    cases r <;> simp only at hc
    · obtain rfl := Option.some.inj hc; cases x <;> simp [SOp.cls] at hcl
    · cases hc
  case makeSlice t l c =>
    exfalso
    repeat' (first | (cases hc; done) | (split at hc))
    all_goals first | (cases hc; done) | (obtain rfl := Option.some.inj hc; cases x <;> simp [SOp.cls] at hcl)
  case slice t y lo hi mx =>
    unfold copSlice at hc
    cases mx <;> simp only at hc
    rotate_left
    · cases hi <;> simp only at hc
      · cases hc
      · split at hc
        · rename_i e hu
          split at hc
          · rename_i j hj
            obtain rfl := Option.some.inj hc
            obtain ⟨v, hv, h⟩ := slc3_sound hu hj hk h
            exact ⟨v, PureS.value hv, h⟩
          · cases hc
        · cases hc
    · split at hc
      · rename_i e hu
        split at hc
        · rename_i j hj
          obtain rfl := Option.some.inj hc
          obtain ⟨v, hv, h⟩ := slc_sound hu hj hk h
          exact ⟨v, PureS.value hv, h⟩
        · cases hc
      · rename_i hu
        obtain rfl := Option.some.inj hc
        obtain ⟨v, hv, h⟩ := slcS_sound hu hk h
        exact ⟨v, PureS.value hv, h⟩
      · rename_i n e hu
        split at hc
        · rename_i j hj
          obtain rfl := Option.some.inj hc
          obtain ⟨v, hv, h⟩ := slcA_sound hu hj hk h
          exact ⟨v, PureS.value hv, h⟩
        · cases hc
      · cases hc
  case lookup t y i ok =>
    exfalso
    repeat' (first | (cases hc; done) | (split at hc))
    all_goals first | (cases hc; done) | (obtain rfl := Option.some.inj hc; cases x <;> simp [SOp.cls] at hcl)
  case entry it =>
    exfalso
    obtain rfl := Option.some.inj hc
    cases x <;> simp [SOp.cls] at hcl
  case next it b =>
    exfalso
    repeat' (first | (cases hc; done) | (split at hc))
    all_goals first | (cases hc; done) | (obtain rfl := Option.some.inj hc; cases x <;> simp [SOp.cls] at hcl)
  case range t y =>
    exfalso
    repeat' (first | (cases hc; done) | (split at hc))
    all_goals first | (cases hc; done) | (obtain rfl := Option.some.inj hc; cases x <;> simp [SOp.cls] at hcl)
  case mapUpdate t m k y =>
    exfalso
    repeat' (first | (cases hc; done) | (split at hc))
    all_goals first | (cases hc; done) | (obtain rfl := Option.some.inj hc; cases x <;> simp [SOp.cls] at hcl)
  case panic y => obtain rfl := Option.some.inj hc; cases x <;> simp [SOp.cls] at hcl
  case fieldAddr t y f =>
    split at hc
    · rename_i fs hu
      split at hc
      · rename_i fd hfd
        split at hc
        · rename_i j hj
          split at hc
          · cases hc
          · rename_i n hn
            obtain rfl := Option.some.inj hc
            obtain ⟨p, hy, h⟩ := getP_out hk h
            obtain ⟨ad, rfl, h⟩ := AtP_out h
            refine ⟨_, PureS.value (fun w => ?_), h⟩
            have hsz := PureS.sizeOf (P := P) hj w
            simp [Instr.fieldAt, run_underlying hu, hfd, hy, Instr.sureAddr, fieldPlace, hsz, hn]
        · cases hc
      · cases hc
    · cases hc
  case field t y f =>
    split at hc
    · rename_i fs hu
      split at hc
      · rename_i fd hfd
        split at hc
        · rename_i hag
          obtain rfl := Option.some.inj hc
          obtain ⟨cs, hy, h⟩ := getA_out hk h
          split at h
          · rename_i v hv
            have hv' : cs[fd.offset]? = some v := by simpa using hv
            refine ⟨v, PureS.value (fun w => ?_), h⟩
            simp [Instr.field, run_underlying hu, hfd, hy, asAgg, part, isAgg_false hag w, hv']
          · exact h.elim
        · rename_i j hag hj
          obtain rfl := Option.some.inj hc
          obtain ⟨cs, hy, h⟩ := getA_out hk h
          refine ⟨_, PureS.value (fun w => ?_), h⟩
          have hsz := PureS.sizeOf (P := P) hj w
          have he : cs.extract fd.offset (fd.offset + j.size) = ((cs.toList.drop fd.offset).take j.size).toArray := by
            apply Array.toList_inj.1
            simp [List.take_drop]
          simp [Instr.field, run_underlying hu, hfd, hy, asAgg, part, isAgg_true hag w, hsz, he]
        · cases hc
      · cases hc
    · cases hc
  case indexAddr t y ix =>
    split at hc
    · rename_i e hu
      split at hc
      · rename_i j hj
        obtain rfl := Option.some.inj hc
        obtain ⟨p, n, c, hy, h⟩ := getSl_out hk h
        obtain ⟨k, m, hi, h0, h1, h⟩ := getZ_out hk h
        obtain ⟨ad, rfl, h⟩ := AtP_out h
        refine ⟨_, PureS.value (fun w => ?_), h⟩
        have hsz := PureS.sizeOf (P := P) hj w
        simp [Instr.indexAt, hy, hi, asIntOf, run_underlying hu, h0, h1, hsz]
      · cases hc
    · rename_i n e hu
      split at hc
      · rename_i j hj h2
        simp only [decide_eq_true_eq] at h2
        obtain rfl := Option.some.inj hc
        obtain ⟨p, hy, h⟩ := getP_out hk h
        obtain ⟨k, m, hi, h0, h1, h⟩ := getZ_out hk h
        obtain ⟨ad, rfl, h⟩ := AtP_out h
        refine ⟨_, PureS.value (fun w => ?_), h⟩
        have hsz := PureS.sizeOf (P := P) hj w
        simp [Instr.indexAt, hy, hi, asIntOf, run_underlying hu, h0, h1, hsz, Instr.sureAddr]
      · cases hc
    · cases hc
  case index t y ix =>
    split at hc
    · rename_i hu
      obtain rfl := Option.some.inj hc
      obtain ⟨b, hy, h⟩ := getS_out hk h
      obtain ⟨k, m, hi, h0, h1, h⟩ := getZ_out hk h
      refine ⟨_, PureS.value (fun w => ?_), h⟩
      have hlt : m.toNat < b.size := by omega
      have hb : b[m.toNat]? = some (b[m.toNat]'hlt) := by simp [hlt]
      have hd : (b.data[m.toNat]?) = some (b[m.toNat]'hlt) := by
        have : m.toNat < b.data.size := hlt
        rw [Array.getElem?_eq_getElem this]; rfl
      simp [Instr.index, hy, hi, asIntOf, run_underlying hu, h0, hb, byteAt, hd]
    · rename_i n e hu
      split at hc
      · rename_i hag hsz
        obtain rfl := Option.some.inj hc
        obtain ⟨cs, hy, h⟩ := getA_out hk h
        obtain ⟨k, m, hi, h0, h1, v, hv, h⟩ := getZ_out hk h
        have hv' : cs[m.toNat]? = some v := by simpa using hv
        obtain ⟨j, hj, hj1⟩ : ∃ j, P.info? e = some j ∧ j.size = 1 := by
          cases hh : P.info? e with
          | none => simp [hh] at hsz
          | some j => simp only [hh, Option.map_some, Option.some.injEq] at hsz; exact ⟨j, rfl, hsz⟩
        refine ⟨v, PureS.value (fun w => ?_), h⟩
        have hsz := PureS.sizeOf (P := P) hj w
        simp [Instr.index, hy, hi, asIntOf, run_underlying hu, h0, h1, hsz, hj1, part, isAgg_false hag w, hv']
      · cases hc
    · cases hc
  case extract y i =>
    obtain rfl := Option.some.inj hc
    obtain ⟨vs, hy, h⟩ := getT_out hk h
    split at h
    · rename_i v hv
      have hv' : vs[i]? = some v := by simpa using hv
      exact ⟨v, PureS.value (fun w => by simp [Instr.extract, hy, hv']), h⟩
    · exact h.elim
  case call c =>
    unfold copCall at hc
    split at hc
    · exfalso
      split at hc
      · obtain rfl := Option.some.inj hc; cases x <;> simp [SOp.cls] at hcl
      · cases hc
    · exfalso
      split at hc
      · obtain rfl := Option.some.inj hc; cases x <;> simp [SOp.cls] at hcl
      · cases hc
    · rename_i b hb
      obtain ⟨callee, args, argTypes⟩ := c
      simp only at hb hc ⊢
      subst hb
      split at hc
      · -- len
        rename_i y t ha ht
        have ea : args = #[y] := by apply Array.toList_inj.1; simpa using ha
        have et : argTypes = #[t] := by apply Array.toList_inj.1; simpa using ht
        subst ea; subst et
        split at hc
        · rename_i e hu
          obtain rfl := Option.some.inj hc
          obtain ⟨p, n, c, hy, h⟩ := getSl_out hk h
          exact ⟨_, fun w => by simp [resolve, invoke, builtin, hy, Builtin.len_, run_underlying hu, goInt], h⟩
        · rename_i hu
          obtain rfl := Option.some.inj hc
          obtain ⟨b, hy, h⟩ := getS_out hk h
          exact ⟨_, fun w => by simp [resolve, invoke, builtin, hy, Builtin.len_, run_underlying hu, goInt], h⟩
        · rename_i n e hu
          obtain rfl := Option.some.inj hc
          exact ⟨_, fun w => by simp [resolve, invoke, builtin, Builtin.len_, run_underlying hu, goInt], h⟩
        · obtain rfl := Option.some.inj hc; cases x <;> simp [SOp.cls] at hcl
        · cases hc
      · -- cap
        rename_i y t ha ht
        have ea : args = #[y] := by apply Array.toList_inj.1; simpa using ha
        have et : argTypes = #[t] := by apply Array.toList_inj.1; simpa using ht
        subst ea; subst et
        split at hc
        · rename_i e hu
          obtain rfl := Option.some.inj hc
          obtain ⟨p, n, c, hy, h⟩ := getSl_out hk h
          exact ⟨_, fun w => by simp [resolve, invoke, builtin, hy, Builtin.cap_, run_underlying hu, goInt], h⟩
        · cases hc
      · -- max
        rename_i y ys t ts ha ht
        split at hc
        · rename_i k hu
          obtain rfl := Option.some.inj hc
          obtain ⟨m, hy, h⟩ := getI_out hk h
          obtain ⟨r, h, hp⟩ := mnx_sound (P := P) true hk h
          have ea : args.map a.eval = (Value.int k m :: ys.map a.eval).toArray := by apply Array.toList_inj.1; simp [ha, hy]
          refine ⟨.int k r, fun w => ?_, h⟩
          have hw := hp w
          simp only at hw
          simp [resolve, invoke, builtin, ea, Builtin.max_, hw]
        · cases hc
      · -- min
        rename_i y ys t ts ha ht
        split at hc
        · rename_i k hu
          obtain rfl := Option.some.inj hc
          obtain ⟨m, hy, h⟩ := getI_out hk h
          obtain ⟨r, h, hp⟩ := mnx_sound (P := P) false hk h
          have ea : args.map a.eval = (Value.int k m :: ys.map a.eval).toArray := by apply Array.toList_inj.1; simp [ha, hy]
          refine ⟨.int k r, fun w => ?_, h⟩
          have hw := hp w
          simp only at hw
          simp [resolve, invoke, builtin, ea, Builtin.min_, hw]
        · cases hc
      · exfalso
        repeat' (first | (cases hc; done) | (split at hc))
        all_goals first | (cases hc; done) | (obtain rfl := Option.some.inj hc; cases x <;> simp [SOp.cls] at hcl)
      · exfalso
        repeat' (first | (cases hc; done) | (split at hc))
        all_goals first | (cases hc; done) | (obtain rfl := Option.some.inj hc; cases x <;> simp [SOp.cls] at hcl)
      · exfalso
        repeat' (first | (cases hc; done) | (split at hc))
        all_goals first | (cases hc; done) | (obtain rfl := Option.some.inj hc; cases x <;> simp [SOp.cls] at hcl)
      · cases hc
    · cases hc

end
end Go.Hx
