/- Words and facts that the claim's proof leans on. No condition. -/
import Derived.Test.YtbfejkmnkkpkhaaHxH
import Derived.Laws.IdiomStrings
set_option linter.unusedVariables false
set_option linter.unusedSimpArgs false
namespace Go.Hx

section
variable {P : Program} {N : Nat} {a : Act} {s : SF} {h : Heap}

theorem same_push (w : World) (o : Obj) : Same w { w with heap := w.heap.push o } := ⟨rfl, rfl, rfl, Nat.le_refl _⟩
theorem newRow_sem {e : TypeId} {c : Array Value} {K : Addr → Heap → Prop} (hK : K ⟨h.size, 0, none⟩ (h.push (.cells c e))) : SemH P (newRow e c) h K := by
  intro w hw
  refine ⟨⟨w.heap.size, 0, none⟩, { w with heap := w.heap.push (.cells c e) }, by simp [newRow], same_push _ _, ?_⟩
  rw [hw]; exact hK
theorem newObj_sem {o : Obj} {K : Nat → Heap → Prop} (hK : K h.size (h.push o)) : SemH P (newObj o) h K := by
  intro w hw
  refine ⟨w.heap.size, { w with heap := w.heap.push o }, rfl, same_push _ _, ?_⟩
  show K w.heap.size (w.heap.push o)
  rw [hw]; exact hK

theorem loadCells_sem {ad : Addr} {vs : List Value} {K : Array Value → Heap → Prop} (hc : ∀ j v, vs[j]? = some v → cellH h (ad.add j) = some v) (hK : K vs.toArray h) : SemH P (loadCells ad vs.length) h K := by
  intro w hw
  subst hw
  exact ⟨_, w, run_loadCells_list' hc, .refl _, hK⟩

theorem firstCells_sem {ad : Option Addr} {m c n sz : Nat} {vs : List Value} {K : Array Value → Heap → Prop} (hr : ReadL h ad vs) (hl : vs.length = n * sz) (hK : K vs.toArray h) :
    SemH P (Builtin.firstCells sz n (.slice ad m c)) h K := by
  cases ad with
  | none =>
    obtain rfl : vs = [] := hr
    exact SemH.ret hK
  | some ad =>
    show SemH P (loadCells ad (n * sz)) h K
    rw [← hl]
    exact loadCells_sem hr hK

theorem choose_sem {q : Question} (hq : q.forced = false) {K : Nat → Heap → Prop} (hK : ∀ t, K (q.cut t) h) : SemH P (choose q) h K := by
  intro w hw
  refine ⟨q.cut (w.tape w.drawn q), { w with drawn := w.drawn + 1 }, by simp [hq], ⟨rfl, rfl, rfl, Nat.le_succ _⟩, ?_⟩
  subst hw
  exact hK _

theorem askRoom_sem {n : Nat} {K : Unit → Heap → Prop} (hK : K () h) : SemH P (askRoom n) h K := (show PureS P (askRoom n) () from fun w => by simp).semH hK

theorem zeroRow_eq {z : Array Value} {n : Nat} (hz : n = 0 ∨ 0 < z.size) : ((Array.range n).map fun i => z[i % z.size]!) = (zeroRow z n).toArray := by
  apply Array.toList_inj.1
  simp only [zeroRow, Array.toList_map, Array.toList_range]
  refine List.map_congr_left fun i hi => ?_
  have hn := List.mem_range.1 hi
  have hzs : 0 < z.size := by omega
  have hlt : i % z.size < z.size := Nat.mod_lt _ hzs
  simp [hlt]

theorem zeroRow_len (z : Array Value) (n : Nat) : (zeroRow z n).length = n := by simp [zeroRow]

theorem grown_sem {e : TypeId} {i : TypeInfo} {z : Value} {base : Option Addr} {n c m : Nat} {app : Sem (Array Value)} {xs ys : List Value} {K : Value → Heap → Prop}
    (hi : P.info? e = some i) (hz : i.zero = some z) (hzs : z.cells.size = i.size) (hb : 0 < i.bytes) (hgt : c < n + m) (hbytes : (n + m) * i.bytes ≤ 140737488355328)
    (hxs : ReadL h base xs) (hxl : xs.length = n * i.size) (hys : ∀ K' : Array Value → Heap → Prop, K' ys.toArray h → SemH P app h K')
    (hK : ∀ cap, n + m ≤ cap → K (.slice (some ⟨h.size, 0, none⟩) (n + m) cap) (h.push (.cells (xs ++ ys ++ zeroRow z.cells ((cap - (n + m)) * i.size)).toArray e))) :
    SemH P (do
      let newCap ← choose (.appendCap (n + m) c e)
      let j ← typeInfo e
      askRoom (newCap * j.bytes)
      let old ← Builtin.firstCells i.size n (.slice base n c)
      let new ← app
      let rest := Builtin.zeroCells (← zeroValue e).cells (newCap - (n + m))
      pure (.slice (some (← newRow e (old ++ new ++ rest))) (n + m) newCap)) h K := by
  refine SemH.bind (choose_sem rfl fun t => ?_)
  have hcut : n + m ≤ Question.cut (.appendCap (n + m) c e) t := by simp [Question.cut]
  generalize Question.cut (.appendCap (n + m) c e) t = cap at hcut ⊢
  refine SemH.bind ((PureS.typeInfo hi).semH ?_)
  refine SemH.bind (askRoom_sem ?_)
  refine SemH.bind (firstCells_sem hxs hxl ?_)
  refine SemH.bind (hys _ ?_)
  refine SemH.bind ((PureS.zeroValue hi hz).semH ?_)
  refine SemH.bind (newRow_sem ?_)
  refine SemH.ret ?_
  have hzr : Builtin.zeroCells z.cells (cap - (n + m)) = (zeroRow z.cells ((cap - (n + m)) * i.size)).toArray := by
    unfold Builtin.zeroCells
    rw [← hzs]
    rcases Nat.eq_zero_or_pos ((cap - (n + m)) * z.cells.size) with h0 | h0
    · rw [h0]; simp [zeroRow]
    · exact zeroRow_eq (.inr (Nat.pos_of_mul_pos_left h0))
  rw [hzr]
  have := hK cap hcut
  simpa using this

theorem app_sem {e : TypeId} {i : TypeInfo} {z : Value} {base : Option Addr} {n c m : Nat} {t u ty : TypeId} {x : Value} {ys : List Value} {K : Value → Heap → Prop}
    (ht : P.underlying t = some (.slice e)) (hu : ∀ k, P.underlying u ≠ some (.int k)) (hu2 : ∃ d, P.underlying u = some d) (hi : P.info? e = some i) (hz : i.zero = some z) (hzs : z.cells.size = i.size) (hb : 0 < i.bytes)
    (hlen : PureS P (Builtin.lenOf x) m) (hys : ∀ K' : Array Value → Heap → Prop, K' ys.toArray h → SemH P (Builtin.firstCells i.size m x) h K')
    (hA : AppH h base n c e i.bytes i.size z.cells ys m K) :
    SemH P (Builtin.append_ #[t, u] ty #[.slice base n c, x]) h K := by
  obtain ⟨d, hd⟩ := hu2
  unfold Builtin.append_
  simp only [List.getElem?_toArray, List.getElem?_cons_zero, List.getElem?_cons_succ]
  refine SemH.bind ((PureS.underlying ht).semH ?_)
  simp only
  refine SemH.bind ((PureS.sizeOf hi).semH ?_)
  refine SemH.bind ((PureS.underlying hd).semH ?_)
  refine SemH.bind (SemH.ret ?_)
  split
  · exact absurd hd (hu _)
  simp only [Bool.false_eq_true, if_false, Bool.not_false, if_true, false_or]
  refine SemH.bind (hlen.semH ?_)
  by_cases hle : n + m ≤ c
  · have h1 := hA.1 hle
    rw [if_pos hle]
    refine SemH.bind (hys _ ?_)
    cases base with
    | none => exact SemH.ret h1
    | some ad => exact SemH.bind ((store_sem h1).mono (fun _ h' hk => SemH.ret hk))
  · obtain ⟨h2, xs, hxs, hxl, hK⟩ := hA.2 (by omega)
    rw [if_neg hle]
    refine SemH.bind ((PureS.typeInfo hi).semH ?_)
    rw [if_neg (by rintro ⟨_, h0⟩; omega)]
    refine SemH.bind ((PureS.typeInfo hi).semH ?_)
    rw [if_neg (by have := growslice_fits (old := c) (need := n + m) (bytes := i.bytes) (by omega) h2; omega)]
    exact grown_sem hi hz hzs hb (by omega) h2 hxs hxl hys hK

theorem appZ_sem {e : TypeId} {i : TypeInfo} {z : Value} {base : Option Addr} {n c : Nat} {k : IntKind} {m : Int} {t u ty : TypeId} {k' : IntKind} {K : Value → Heap → Prop}
    (ht : P.underlying t = some (.slice e)) (hu : P.underlying u = some (.int k)) (hi : P.info? e = some i) (hz : i.zero = some z) (hzs : z.cells.size = i.size) (hb : 0 < i.bytes)
    (hm : 0 ≤ m) (hmb : m * i.bytes ≤ 140737488355328) (hA : AppH h base n c e i.bytes i.size z.cells (zeroRow z.cells (m.toNat * i.size)) m.toNat K) :
    SemH P (Builtin.append_ #[t, u] ty #[.slice base n c, .int k' m]) h K := by
  have hm2 : m ≤ 140737488355328 := by
    have : m * 1 ≤ m * i.bytes := Int.mul_le_mul_of_nonneg_left (by omega) hm
    omega
  have wm : IntKind.i64.wrap m = m := by rw [IntKind.wrap_i64]; omega
  unfold Builtin.append_
  simp only [List.getElem?_toArray, List.getElem?_cons_zero, List.getElem?_cons_succ]
  refine SemH.bind ((PureS.underlying ht).semH ?_)
  simp only
  refine SemH.bind ((PureS.sizeOf hi).semH ?_)
  refine SemH.bind ((PureS.underlying hu).semH ?_)
  refine SemH.bind (SemH.ret ?_)
  simp only [if_true, Bool.not_true, Bool.false_eq_true, if_false, true_or]
  refine SemH.bind ((show PureS P (asInt (.int k' m)) m from fun w => by simp [asInt, asIntOf]).semH ?_)
  rw [wm, if_neg (by omega)]
  refine SemH.bind ((PureS.typeInfo hi).semH ?_)
  rw [if_neg (by omega)]
  refine SemH.bind (SemH.ret ?_)
  have hys : ∀ K' : Array Value → Heap → Prop, K' (zeroRow z.cells (m.toNat * i.size)).toArray h →
      SemH P (if m.toNat * i.size = 0 then pure #[] else do pure (Builtin.zeroCells (← zeroValue e).cells m.toNat)) h K' := by
    intro K' hK'
    split
    · rename_i h0
      rw [h0] at hK'
      exact SemH.ret hK'
    · rename_i h0
      refine SemH.bind ((PureS.zeroValue hi hz).semH (SemH.ret ?_))
      unfold Builtin.zeroCells
      rw [zeroRow_eq (.inr (by rw [hzs]; exact Nat.pos_of_mul_pos_left (Nat.pos_of_ne_zero h0))), hzs]
      exact hK'
  by_cases hle : n + m.toNat ≤ c
  · have h1 := hA.1 hle
    rw [if_pos hle]
    refine SemH.bind (hys _ ?_)
    cases base with
    | none => exact SemH.ret h1
    | some ad => exact SemH.bind ((store_sem h1).mono (fun _ h' hk => SemH.ret hk))
  · obtain ⟨h2, xs, hxs, hxl, hK⟩ := hA.2 (by omega)
    have h3 : n + m.toNat ≤ 140737488355328 := by
      have : (n + m.toNat) * 1 ≤ (n + m.toNat) * i.bytes := Nat.mul_le_mul_left _ hb
      omega
    rw [if_neg hle]
    refine SemH.bind ((PureS.typeInfo hi).semH ?_)
    rw [if_neg (by rintro ⟨h0, _⟩; have e63 : IntKind.i64.max = 9223372036854775807 := rfl; rw [e63] at h0; omega)]
    refine SemH.bind ((PureS.typeInfo hi).semH ?_)
    rw [if_neg (by have := growslice_fits (old := c) (need := n + m.toNat) (bytes := i.bytes) (by omega) h2; omega)]
    exact grown_sem hi hz hzs hb (by omega) h2 hxs hxl hys hK

theorem clr_sem {e t ty : TypeId} {i : TypeInfo} {z : Value} {base : Option Addr} {n c : Nat} {K : Value → Heap → Prop}
    (ht : P.underlying t = some (.slice e)) (hi : P.info? e = some i) (hz : i.zero = some z) (hzs : z.cells.size = i.size)
    (hA : match base with
      | none => K (.tuple #[]) h
      | some ad => StoreH h ad (zeroRow z.cells (n * i.size)) fun h' => K (.tuple #[]) h') : SemH P (Builtin.clear_ #[t] ty #[.slice base n c]) h K := by
  unfold Builtin.clear_
  simp only [List.getElem?_toArray, List.getElem?_cons_zero]
  refine SemH.bind ((PureS.underlying ht).semH ?_)
  cases base with
  | none => exact SemH.ret hA
  | some ad =>
    cases n with
    | zero =>
      rw [Nat.zero_mul] at hA
      exact SemH.ret hA
    | succ n =>
      simp only
      refine SemH.bind ((PureS.zeroValue hi hz).semH ?_)
      have hzr : (Builtin.zeroCells z.cells (n + 1)).toList = zeroRow z.cells ((n + 1) * i.size) := by
        unfold Builtin.zeroCells
        rcases Nat.eq_zero_or_pos ((n + 1) * i.size) with h0 | h0
        · rw [hzs, h0]; simp [zeroRow, show Array.range 0 = #[] from rfl]
        · rw [zeroRow_eq (.inr (by rw [hzs]; exact Nat.pos_of_mul_pos_left h0)), hzs]
      rw [hzr]
      exact SemH.bind ((store_sem hA).mono (fun _ h' hk => SemH.ret hk))

theorem bytesV_len (b : ByteArray) : (bytesV b).length = b.size := by simp [bytesV]

theorem sliceOf_lenOf (p : Option Addr) (n c : Nat) : PureS P (Builtin.lenOf (.slice p n c)) n := fun w => rfl
theorem strOf_lenOf (b : ByteArray) : PureS P (Builtin.lenOf (.string b)) b.size := fun w => rfl
theorem strOf_first {b : ByteArray} {sz : Nat} {K : Array Value → Heap → Prop} (hK : K (bytesV b).toArray h) : SemH P (Builtin.firstCells sz b.size (.string b)) h K := by
  have e : (b.extract 0 b.size).data.map (fun (x : UInt8) => Value.int .u8 x.toNat) = (bytesV b).toArray := by
    apply Array.toList_inj.1
    simp [bytesV]
  show SemH P (pure ((b.extract 0 b.size).data.map fun (x : UInt8) => Value.int .u8 x.toNat)) h K
  rw [e]
  exact SemH.ret hK

theorem call_eff {f : FuncId} {args : Array Value} {K : Value → Heap → Prop} (hok : callOk P f = true) (hc : CallsH P f args h K) : EffH P (callFunc f args) h K := by
  intro w hw
  unfold callOk at hok
  cases hf : P.funcs[f]? with
  | none => simp [hf] at hok
  | some fn =>
    simp only [hf, Bool.and_eq_true, Bool.not_eq_true'] at hok
    have hb : fn.body.isNone = false := by
      have := hok.1
      cases hbb : fn.body <;> simp_all
    unfold callFunc
    simp only [Sem.run_bind, run_program, Result.andThen_ok, hf, hok.2, Bool.false_eq_true, if_false, hb, Sem.run_pure]
    exact ⟨.refl _, hw ▸ hc⟩

theorem mkS_sem {t e : TypeId} {j : TypeInfo} {z : Value} {kl kc : IntKind} {l c : Int} {K : Value → Heap → Prop} (ht : P.underlying t = some (.slice e)) (hj : P.info? e = some j) (hz : j.zero = some z)
    (hzs : z.cells.size = j.size) (hs0 : 0 < j.size) (hb0 : 0 < j.bytes) (h0 : 0 ≤ l) (h1 : l ≤ c) (h2 : j.bytes * c ≤ 281474976710656)
    (hK : K (.slice (some ⟨h.size, 0, none⟩) l.toNat c.toNat) (h.push (.cells (zeroRow z.cells (c.toNat * j.size)).toArray e))) :
    SemH P (Instr.makeSlice t (.int kl l) (.int kc c)) h K := by
  have hc : c ≤ 281474976710656 := by
    have : c * 1 ≤ c * j.bytes := Int.mul_le_mul_of_nonneg_left (by omega) (by omega)
    rw [Int.mul_comm c] at this
    rw [Int.mul_comm c] at this
    omega
  have wl : IntKind.i64.wrap l = l := by rw [IntKind.wrap_i64]; omega
  have wc : IntKind.i64.wrap c = c := by rw [IntKind.wrap_i64]; omega
  unfold Instr.makeSlice
  refine SemH.bind ((PureS.underlying ht).semH ?_)
  simp only
  refine SemH.bind ((show PureS P (asInt (.int kl l)) l from fun w => by simp [asInt, asIntOf]).semH ?_)
  refine SemH.bind ((show PureS P (asInt (.int kc c)) c from fun w => by simp [asInt, asIntOf]).semH ?_)
  refine SemH.bind ((PureS.typeInfo hj).semH ?_)
  simp only [wl, wc]
  rw [if_neg (by simp; omega)]
  refine SemH.bind (askRoom_sem ?_)
  refine SemH.bind ((PureS.sizeOf hj).semH ?_)
  split
  · rename_i hz0
    refine SemH.bind (SemH.ret ?_)
    refine SemH.bind (newRow_sem ?_)
    refine SemH.ret ?_
    rw [hz0] at hK ⊢
    simpa [zeroRow, show Array.range 0 = #[] from rfl] using hK
  · rename_i hz0
    refine SemH.bind ((PureS.zeroValue hj hz).semH ?_)
    refine SemH.bind (SemH.ret ?_)
    refine SemH.bind (newRow_sem ?_)
    refine SemH.ret ?_
    rw [zeroRow_eq (.inr (by omega))]
    exact hK

theorem choose_next (m : Nat) (w : World) : ∃ n w1, (choose (.mapNext m)).run P w = .ok n w1 ∧ Same w w1 ∧ w1.heap = w.heap ∧ (0 < m → n < m) := by
  cases hq : (Question.mapNext m).forced with
  | true => exact ⟨0, w, by simp [choose, Sem.run, hq], .refl _, rfl, fun h => h⟩
  | false => exact ⟨w.tape w.drawn (.mapNext m) % m, { w with drawn := w.drawn + 1 }, by simp [choose, Sem.run, hq, Question.cut], ⟨rfl, rfl, rfl, Nat.le_succ _⟩, rfl, fun h => Nat.mod_lt _ h⟩

theorem next_step {w : World} {blk m since last clock : Nat} {seen : Array Nat} {es : Array MapEntry} {ty : TypeId} {sp : Option Nat} {K : Value → Heap → Prop}
    (hb : w.heap[blk]? = some (.mapIter (some m) since seen last)) (hm : w.heap[m]? = some (.map es clock)) (hq : (!seen.isEmpty && !es.isEmpty && es.all (fun e => decide (e.born ≥ last))) = false)
    (hover : (∀ e ∈ es, seen.contains e.born = false → since ≤ e.born) → K (.tuple #[.bool false]) w.heap)
    (hstep : ∀ e ∈ es, seen.contains e.born = false → K (.tuple #[.bool true, e.key, e.val]) (w.heap.setIfInBounds blk (.mapIter (some m) since (seen.push e.born) clock))) :
    ∃ v w', (Instr.next (.pointer (some ⟨blk, 0, sp⟩)) false ty).run P w = .ok v w' ∧ Same w w' ∧ K v w'.heap := by
  have h4 : (getObj blk).run P w = .ok (.mapIter (some m) since seen last) w := by simp [getObj, Sem.run, hb]
  have h5 : (getObj m).run P w = .ok (.map es clock) w := by simp [getObj, Sem.run, hm]
  let left := es.filter fun e => !seen.contains e.born
  let old := left.filter (fun e => decide (e.born < since))
  let new := left.filter (fun e => decide (e.born ≥ since))
  let cand : Array (Option MapEntry) := (if old.isEmpty then #[none] else #[]) ++ (old ++ new).map some
  obtain ⟨n, w1, hc, hs1, hh1, hn⟩ := choose_next (P := P) cand.size w
  have hpos : 0 < cand.size := by
    simp only [cand]
    split
    · simp; omega
    · rename_i ho
      have : 0 < old.size := Nat.pos_of_ne_zero fun h0 => ho (by simpa [Array.isEmpty] using h0)
      simp; omega
  have hlt := hn hpos
  have hrun : (Instr.next (.pointer (some ⟨blk, 0, sp⟩)) false ty).run P w = (match cand[n]? with
      | some (some e) => (do setObj blk (.mapIter (some m) since (seen.push e.born) clock); pure (.tuple #[.bool true, e.key, e.val]) : Sem Value).run P w1
      | some none => .ok (.tuple #[.bool false]) w1
      | none => (stuck "Next: no such candidate" : Sem Value).run P w1) := by
    simp only [Instr.next, Sem.run_bind, h4, Result.andThen_ok, h5, hq, Bool.false_eq_true, if_false]
    have hc' := hc
    simp only [cand, old, new, left] at hc'
    simp only [hc', Result.andThen_ok, cand, old, new, left]
    split <;> simp_all
  have hmem : ∀ e, some e ∈ cand → e ∈ es ∧ seen.contains e.born = false := by
    intro e he
    simp only [cand, Array.mem_append, Array.mem_map] at he
    rcases he with he | ⟨x, hx, hxe⟩
    · split at he <;> simp at he
    · obtain rfl := Option.some.inj hxe
      rcases hx with hx | hx
      · simp only [old, left, Array.mem_filter] at hx; exact ⟨hx.1.1, by simpa using hx.1.2⟩
      · simp only [new, left, Array.mem_filter] at hx; exact ⟨hx.1.1, by simpa using hx.1.2⟩
  cases hcn : cand[n]? with
  | none => rw [Array.getElem?_eq_none_iff] at hcn; omega
  | some x =>
    have hx := Array.mem_of_getElem? hcn
    rw [hcn] at hrun
    cases x with
    | none =>
      refine ⟨_, w1, hrun, hs1, ?_⟩
      rw [hh1]
      refine hover fun e he hse => ?_
      simp only [cand, Array.mem_append, Array.mem_map] at hx
      rcases hx with hx | ⟨x, _, hxe⟩
      · split at hx
        · rename_i ho
          apply Nat.le_of_not_lt
          intro hlt2
          have : e ∈ old := by simp only [old, left, Array.mem_filter]; exact ⟨⟨he, by simpa using hse⟩, by simpa using hlt2⟩
          have h0 : old = #[] := by simpa [Array.isEmpty] using ho
          rw [h0] at this
          simp at this
        · simp at hx
      · cases hxe
    | some e =>
      obtain ⟨he, hse⟩ := hmem e hx
      refine ⟨.tuple #[.bool true, e.key, e.val], { w1 with heap := w1.heap.setIfInBounds blk (.mapIter (some m) since (seen.push e.born) clock) }, ?_, ?_, ?_⟩
      · rw [hrun]
        have hb1 : w1.heap[blk]? = some (.mapIter (some m) since seen last) := by rw [hh1]; exact hb
        simp [setObj, Sem.run, hb1]
      · exact hs1.trans ⟨rfl, rfl, rfl, Nat.le_refl _⟩
      · show K _ (w1.heap.setIfInBounds _ _)
        rw [hh1]
        exact hstep e he hse

theorem eff_sound {o : Oper} {op : SOp} {x : Bool} (hc : cop P o = some op) (hcl : op.cls x = .ext ∨ op.cls x = .eff) (hk : Knows N a s) {K : Value → Heap → Prop} (hr : effC P op s h K) :
    EffH P (execOp a.eval o) h K := by
  obtain ⟨dst, o, ty, pos, after, guard⟩ := o
  cases o <;> simp only [cop] at hc <;> simp only [execOp] <;> first | (cases hc; done) | skip
  case alloc e =>
    cases hz : zeroOf P e with
    | none => simp [hz] at hc
    | some z =>
      simp only [hz, Option.map_some, Option.some.injEq] at hc
      subst hc
      unfold zeroOf at hz
      cases hi : P.info? e with
      | none => simp [hi] at hz
      | some i =>
        simp only [hi, Option.bind_some] at hz
        refine EffH.of_sem ?_
        unfold Instr.alloc
        refine SemH.bind ((PureS.zeroValue hi hz).semH ?_)
        exact SemH.bind (newRow_sem (SemH.ret hr))
  case box e y =>
    obtain rfl := Option.some.inj hc
    obtain ⟨v, hy, hr⟩ := get_out hk hr
    refine EffH.of_sem ?_
    unfold Instr.box
    rw [hy]
    exact SemH.bind (newRow_sem (SemH.ret hr))
  case buildSlice t len parts =>
    split at hc
    · rename_i e hu
      split at hc
      · rename_i j hj
        split at hc
        · rename_i z hz hlim
          simp only [decide_eq_true_eq] at hlim
          split at hc
          · rename_i hzs
            simp only [beq_iff_eq] at hzs
            cases hl : partsOf P (fun i => some (i * j.size, j.size)) parts.toList with
            | none => simp [hl] at hc
            | some l =>
              simp only [hl, Option.map_some, Option.some.injEq] at hc
              subst hc
              have h2 := partsC_out hk hr
              split at h2
              · rename_i c hf
                have hfill := fill_of (ev := a.eval) hl hf
                refine EffH.of_sem ?_
                unfold Instr.buildSlice
                refine SemH.bind ((PureS.underlying hu).semH ?_)
                simp only
                refine SemH.bind ((PureS.sizeOf hj).semH ?_)
                rw [if_neg (by omega)]
                have hmap : (parts.map fun (x : Nat × Operand) => (x.1, a.eval x.2)).toList = parts.toList.map fun p => (p.1, a.eval p.2) := by simp
                split
                · rename_i hz0
                  have e0 : zeroRow z.cells (len * z.cells.size) = [] := by rw [hzs, hz0]; rfl
                  rw [e0] at hfill
                  have : Instr.fill (fun i => some (i * j.size, j.size)) ((Array.range (len * j.size)).map fun i => (#[] : Array Value)[i % (#[] : Array Value).size]!) (parts.map fun (x : Nat × Operand) => (x.1, a.eval x.2)).toList = some c.toArray := by
                    rw [hmap, hz0]; simpa [show Array.range 0 = #[] from rfl] using hfill
                  refine SemH.bind (SemH.ret ?_)
                  simp only [this]
                  exact SemH.bind (newRow_sem (SemH.ret h2))
                · rename_i hz0
                  refine SemH.bind ((PureS.zeroValue hj hz).semH ?_)
                  have : Instr.fill (fun i => some (i * j.size, j.size)) ((Array.range (len * j.size)).map fun i => z.cells[i % z.cells.size]!) (parts.map fun (x : Nat × Operand) => (x.1, a.eval x.2)).toList = some c.toArray := by
                    rw [hmap, ← hzs, zeroRow_eq (.inr (by rw [hzs]; exact Nat.pos_of_mul_pos_left (Nat.pos_of_ne_zero hz0)))]; rw [hzs]; rw [hzs] at hfill; exact hfill
                  refine SemH.bind (SemH.ret ?_)
                  simp only [this]
                  exact SemH.bind (newRow_sem (SemH.ret h2))
              · exact h2.elim
          · cases hc
        · cases hc
      · cases hc
    · cases hc
  case store t y z =>
    split at hc
    · rename_i j hj
      obtain rfl := Option.some.inj hc
      obtain ⟨p, hy, hr⟩ := getP_out hk hr
      obtain ⟨v, hz, hr⟩ := get_out hk hr
      obtain ⟨hsz, hr⟩ := SzIs.out hr
      obtain ⟨ad, rfl, hr⟩ := AtP_out hr
      refine EffH.of_unit ?_
      unfold Instr.storeAt
      rw [hy, hz]
      refine SemH.bind (SemH.ret ?_)
      unfold storeVar
      refine SemH.bind ((PureS.sizeOf hj).semH ?_)
      rw [if_neg (by omega)]
      exact store_sem hr
    · cases hc
  case makeMap t r =>
    cases r <;> simp only at hc
    · obtain rfl := Option.some.inj hc
      refine EffH.of_sem ?_
      unfold Instr.makeMap
      exact SemH.bind (newObj_sem (SemH.ret hr))
    · cases hc
  case makeSlice t l c =>
    split at hc
    · rename_i e hu
      split at hc
      · rename_i j hj
        split at hc
        · rename_i z hz
          split at hc
          · rename_i hb
            simp only [Bool.and_eq_true, beq_iff_eq, decide_eq_true_eq] at hb
            obtain rfl := Option.some.inj hc
            obtain ⟨kl, lv, hl, hr⟩ := getZ_out hk hr
            obtain ⟨kc, cv, hcv, h0, h1, h2, hr⟩ := getZ_out hk hr
            refine EffH.of_sem ?_
            rw [hl, hcv]
            exact mkS_sem hu hj hz hb.1.1 hb.1.2 hb.2 h0 h1 h2 hr
          · cases hc
        · cases hc
      · cases hc
    · cases hc
  case convert src dst y =>
    split at hc
    · obtain rfl := Option.some.inj hc; rcases hcl with hcl | hcl <;> cases x <;> simp [SOp.cls] at hcl
    · obtain rfl := Option.some.inj hc; rcases hcl with hcl | hcl <;> cases x <;> simp [SOp.cls] at hcl
    · -- bytes to string
      rename_i e h1 h2
      split at hc
      · rename_i h3
        obtain rfl := Option.some.inj hc
        obtain ⟨p, n, c, hy, b, hbn, hrd, hr⟩ := getSl_out hk hr
        refine EffH.of_sem ?_
        rw [hy]
        intro w hw
        subst hw
        refine ⟨.string b, w, ?_, .refl _, hr⟩
        cases p with
        | none =>
          have hb0 : b.size = 0 := by rw [← bytesV_len, show bytesV b = [] from hrd]; rfl
          have : b = ByteArray.empty := by
            cases b with | mk d => simp [ByteArray.size] at hb0; subst hb0; rfl
          subst this
          rw [run_convert_bytes_string w src dst e none n c h1 h3 h2]
          rfl
        | some ad =>
          have hl : b.data.toList.length = n := by simpa using hbn
          have := run_convert_bytes_back (P := P) w src dst e ad c b.data.toList h1 h3 h2 (fun j hj => by
            refine hrd j _ ?_
            simp [bytesV]
            exact ⟨b.data[j]'(by simpa using hj), by simp, rfl⟩)
          rw [hl] at this
          rw [this]
          all_goals rfl
      · cases hc
    · rename_i e h1 h2
      split at hc
      · rename_i h3
        obtain rfl := Option.some.inj hc
        obtain ⟨b, hy, hr⟩ := getS_out hk hr
        refine EffH.of_sem ?_
        rw [hy]
        intro w hw
        subst hw
        refine ⟨_, _, run_bytes_of_string w src dst e b h1 h2 h3, ⟨rfl, rfl, rfl, Nat.le_succ _⟩, ?_⟩
        have hcap : b.size ≤ grownCap w b.size 0 e := by simp [grownCap, Question.cut]
        have h5 := hr _ hcap
        have h6 : bytesRow b (grownCap w b.size 0 e) = (bytesV b ++ List.replicate (grownCap w b.size 0 e - b.size) (Value.int .u8 0)).toArray := by
          apply Array.toList_inj.1
          simp [bytesRow, bytesV]
        have h7 : (bytesRow b (grownCap w b.size 0 e)).size = grownCap w b.size 0 e := by simp [bytesRow]; omega
        rw [h7, h6]
        exact h5
      · cases hc
    · cases hc
  case call c =>
    unfold copCall at hc
    split at hc
    · rename_i f hf
      split at hc
      · rename_i r hok hsh
        obtain rfl := Option.some.inj hc
        obtain ⟨vs, hvs, hr⟩ := getAll_out hk hr
        have e1 : c.args.map a.eval = vs.toArray := by apply Array.toList_inj.1; simp [hvs]
        have hcall := call_eff hok (hr.mono (fun v h' hv => by obtain ⟨u, rfl, hK⟩ := ExR.out hv; exact hK))
        intro w hw
        have := hcall w hw
        simp only [resolve, hf, e1, Act.eval, Deferred.ofValue, Sem.run_bind, Sem.run_pure, Result.andThen_ok, invoke, Array.empty_append, Array.append_empty]
        exact this
      · cases hc
    · rename_i fv hne hf
      split at hc
      · rename_i r hsh
        obtain rfl := Option.some.inj hc
        obtain ⟨v, hv, hr⟩ := get_out hk hr
        obtain ⟨vs, hvs, hr⟩ := getAll_out hk hr
        have e1 : c.args.map a.eval = vs.toArray := by apply Array.toList_inj.1; simp [hvs]
        split at hr
        · rename_i g first cap
          obtain ⟨hok, hr⟩ := hr
          have hcall := call_eff hok (hr.mono (fun v h' hv => by obtain ⟨u, rfl, hK⟩ := ExR.out hv; exact hK))
          intro w hw
          have := hcall w hw
          simp only [resolve, hf, e1, hv, Deferred.ofValue, Sem.run_bind, Sem.run_pure, Result.andThen_ok, invoke]
          exact this
        · exact hr.elim
      · cases hc
    · rename_i b hb
      obtain ⟨callee, args, argTypes⟩ := c
      simp only at hb hc ⊢
      subst hb
      split at hc
      · split at hc <;> first | (cases hc; done) | (obtain rfl := Option.some.inj hc; rcases hcl with hcl | hcl <;> cases x <;> simp [SOp.cls] at hcl)
      · split at hc <;> first | (cases hc; done) | (obtain rfl := Option.some.inj hc; rcases hcl with hcl | hcl <;> cases x <;> simp [SOp.cls] at hcl)
      · split at hc <;> first | (cases hc; done) | (obtain rfl := Option.some.inj hc; rcases hcl with hcl | hcl <;> cases x <;> simp [SOp.cls] at hcl)
      · split at hc <;> first | (cases hc; done) | (obtain rfl := Option.some.inj hc; rcases hcl with hcl | hcl <;> cases x <;> simp [SOp.cls] at hcl)
      · -- append
        rename_i y z t u ha hta
        have ea : args = #[y, z] := by apply Array.toList_inj.1; simpa using ha
        have et : argTypes = #[t, u] := by apply Array.toList_inj.1; simpa using hta
        subst ea; subst et
        split at hc
        · rename_i e hu
          split at hc
          · rename_i i hi
            split at hc
            · rename_i zv e2 hz hu2
              split at hc
              · rename_i hb
                simp only [Bool.and_eq_true, beq_iff_eq, decide_eq_true_eq] at hb
                obtain rfl := Option.some.inj hc
                obtain ⟨p, n, c, hy, hr⟩ := getSl_out hk hr
                obtain ⟨q, m, d, hz2, ys, hys, hyl, hr⟩ := getSl_out hk hr
                have := app_sem (ty := ty) (u := u) hu (fun k hk => by rw [hu2] at hk; cases hk) ⟨_, hu2⟩ hi hz hb.1 hb.2 (sliceOf_lenOf q m d) (fun K' hK' => firstCells_sem hys hyl hK') hr
                have he := EffH.of_sem this
                intro w hw
                have h3 := he w hw
                simpa [resolve, invoke, builtin, hy, hz2] using h3
              · cases hc
            · rename_i zv hz hu2
              split at hc
              · rename_i hb
                simp only [Bool.and_eq_true, beq_iff_eq] at hb
                obtain rfl := Option.some.inj hc
                obtain ⟨p, n, c, hy, hr⟩ := getSl_out hk hr
                obtain ⟨bs, hz2, hr⟩ := getS_out hk hr
                have := app_sem (ty := ty) (u := u) hu (fun k hk => by rw [hu2] at hk; cases hk) ⟨_, hu2⟩ hi hz hb.1.1 (by omega) (strOf_lenOf bs) (fun K' hK' => strOf_first hK') (by rw [hb.2, hb.1.2]; exact hr)
                have he := EffH.of_sem this
                intro w hw
                have h3 := he w hw
                simpa [resolve, invoke, builtin, hy, hz2] using h3
              · cases hc
            · rename_i zv k hz hu2
              split at hc
              · rename_i hb
                simp only [Bool.and_eq_true, beq_iff_eq, decide_eq_true_eq] at hb
                obtain rfl := Option.some.inj hc
                obtain ⟨p, n, c, hy, hr⟩ := getSl_out hk hr
                obtain ⟨k', m, hz2, h0, h1, hr⟩ := getZ_out hk hr
                have := appZ_sem (ty := ty) (k' := k') hu hu2 hi hz hb.1 hb.2 h0 h1 hr
                have he := EffH.of_sem this
                intro w hw
                have h3 := he w hw
                simpa [resolve, invoke, builtin, hy, hz2] using h3
              · cases hc
            · cases hc
          · cases hc
        · cases hc
      · -- clear
        rename_i y t ha hta
        have ea : args = #[y] := by apply Array.toList_inj.1; simpa using ha
        have et : argTypes = #[t] := by apply Array.toList_inj.1; simpa using hta
        subst ea; subst et
        split at hc
        · rename_i e hu
          split at hc
          · rename_i i hi
            split at hc
            · rename_i zv hz
              split at hc
              · rename_i hb
                simp only [beq_iff_eq] at hb
                obtain rfl := Option.some.inj hc
                obtain ⟨p, n, c, hy, hr⟩ := getSl_out hk hr
                have := clr_sem (ty := ty) (c := c) hu hi hz hb hr
                have he := EffH.of_sem this
                intro w hw
                have h3 := he w hw
                simpa [resolve, invoke, builtin, hy] using h3
              · cases hc
            · cases hc
          · cases hc
        · cases hc
      · -- copy
        rename_i y z t u ha hta
        have ea : args = #[y, z] := by apply Array.toList_inj.1; simpa using ha
        have et : argTypes = #[t, u] := by apply Array.toList_inj.1; simpa using hta
        subst ea; subst et
        split at hc
        · rename_i e e2 hu hu2
          split at hc
          · rename_i i hi
            obtain rfl := Option.some.inj hc
            obtain ⟨p, n, c, hy, hr⟩ := getSl_out hk hr
            obtain ⟨q, m, d, hz2, ys, hys, hyl, hr⟩ := getSl_out hk hr
            have hsem : SemH P (Builtin.copy_ #[t, u] ty #[.slice p n c, .slice q m d]) h K := by
              unfold Builtin.copy_
              simp only [List.getElem?_toArray, List.getElem?_cons_zero, List.getElem?_cons_succ]
              refine SemH.bind ((PureS.underlying hu).semH ?_)
              simp only
              refine SemH.bind ((sliceOf_lenOf q m d).semH ?_)
              refine SemH.bind ((PureS.sizeOf hi).semH ?_)
              refine SemH.bind (firstCells_sem hys hyl ?_)
              cases p with
              | none => exact SemH.ret hr
              | some ad => exact SemH.bind ((store_sem hr).mono (fun _ h' hk => SemH.ret hk))
            have he := EffH.of_sem hsem
            intro w hw
            have h3 := he w hw
            simpa [resolve, invoke, builtin, hy, hz2] using h3
          · cases hc
        · cases hc
      · cases hc
    · cases hc
  case binOp op' t y z yt =>
    exfalso
    unfold copBin at hc
    split at hc
    · cases op' <;> simp only at hc <;> (repeat' (first | (cases hc; done) | (split at hc))) <;> first | (cases hc; done) | (obtain rfl := Option.some.inj hc; rcases hcl with hcl | hcl <;> cases x <;> simp [SOp.cls] at hcl)
    · cases op' <;> simp only at hc <;> first | (cases hc; done) | (obtain rfl := Option.some.inj hc; rcases hcl with hcl | hcl <;> cases x <;> simp [SOp.cls] at hcl)
    · cases op' <;> simp only at hc <;> first | (cases hc; done) | (obtain rfl := Option.some.inj hc; rcases hcl with hcl | hcl <;> cases x <;> simp [SOp.cls] at hcl)
    · split at hc <;> first | (cases hc; done) | (obtain rfl := Option.some.inj hc; rcases hcl with hcl | hcl <;> cases x <;> simp [SOp.cls] at hcl)
    · split at hc <;> first | (cases hc; done) | (obtain rfl := Option.some.inj hc; rcases hcl with hcl | hcl <;> cases x <;> simp [SOp.cls] at hcl)
  case slice t y lo hi mx =>
    exfalso
    unfold copSlice at hc
    repeat' (first | (cases hc; done) | (split at hc))
    all_goals first | (cases hc; done) | (obtain rfl := Option.some.inj hc; rcases hcl with hcl | hcl <;> cases x <;> simp [SOp.cls] at hcl)
  case entry it =>
    obtain rfl := Option.some.inj hc
    obtain ⟨p, hit, hr⟩ := getP_out hk hr
    obtain ⟨ad, hp2, h0, hn⟩ := AtP_out hr
    clear hr
    subst hp2
    refine EffH.of_sem ?_
    intro w hw
    subst hw
    obtain ⟨blk, off, sp⟩ := ad
    simp only at h0 hn
    subst h0
    unfold MEntryS at hn
    split at hn
    · rename_i m since seen stepped hb
      obtain ⟨es, clock, stamp, e, hm, hback, rfl, hfind, h6⟩ := hn
      have h4 : (getObj blk).run P w = .ok (.mapIter (some m) since seen clock) w := by simp [getObj, Sem.run, hb]
      have h5 : (getObj m).run P w = .ok (.map es clock) w := by simp [getObj, Sem.run, hm]
      obtain ⟨k, hke, h6⟩ := ExT.out h6
      obtain ⟨v, hve, h6⟩ := ExT.out h6
      refine ⟨_, w, ?_, .refl _, h6⟩
      simp [Instr.entry, hit, h4, h5, hback, hfind, hke, hve]
    · exact hn.elim
  case next it b =>
    cases b with
    | true => cases hc
    | false =>
      obtain rfl := Option.some.inj hc
      obtain ⟨p, hit, hr⟩ := getP_out hk hr
      obtain ⟨ad, hp2, h0, hn⟩ := AtP_out hr
      clear hr
      subst hp2
      refine EffH.of_sem ?_
      intro w hw
      subst hw
      obtain ⟨blk, off, sp⟩ := ad
      simp only at h0 hn
      subst h0
      unfold MNextS at hn
      split at hn
      · rename_i s1 s2 s3 hb
        have h4 : (getObj blk).run P w = .ok (.mapIter none s1 s2 s3) w := by simp [getObj, Sem.run, hb]
        exact ⟨_, w, by simp [Instr.next, hit, h4], .refl _, hn⟩
      · rename_i m since seen last hb
        obtain ⟨es, clock, hm, hq, hover, hstep⟩ := hn
        have h4 : (getObj blk).run P w = .ok (.mapIter (some m) since seen last) w := by simp [getObj, Sem.run, hb]
        have h5 : (getObj m).run P w = .ok (.map es clock) w := by simp [getObj, Sem.run, hm]
        rw [hit]
        refine next_step hb hm hq hover fun e he hs => ?_
        obtain ⟨k, hke, h6⟩ := ExT.out (hstep e he hs)
        obtain ⟨v, hve, h6⟩ := ExT.out h6
        rw [hke, hve]
        exact h6
      · exact hn.elim
  case range t y =>
    split at hc
    · rename_i k e hu
      obtain rfl := Option.some.inj hc
      obtain ⟨p, hm, hr⟩ := getM_out hk hr
      refine EffH.of_sem ?_
      intro w hw
      subst hw
      cases p with
      | none =>
        refine ⟨_, { w with heap := w.heap.push (.mapIter none 0 #[] 0) }, ?_, same_push _ _, hr⟩
        simp [Instr.range, hm, run_underlying hu, newObj, Sem.run]
      | some b =>
        obtain ⟨es, clock, hb, hr⟩ := hr
        have h4 : (getObj b).run P w = .ok (.map es clock) w := by simp [getObj, Sem.run, hb]
        refine ⟨_, { w with heap := w.heap.push (.mapIter (some b) clock #[] clock) }, ?_, same_push _ _, hr⟩
        simp [Instr.range, hm, run_underlying hu, h4, newObj, Sem.run]
    · cases hc
  case mapUpdate t m k y =>
    split at hc
    · rename_i d e hd
      obtain rfl := Option.some.inj hc
      obtain ⟨kt, hu, hk2, hkd⟩ := mapD_out hd
      obtain ⟨p, hm, hr⟩ := getM_out hk hr
      obtain ⟨kv, hkv, hr⟩ := get_out hk hr
      obtain ⟨u, hu2, hr⟩ := get_out hk hr
      cases p with
      | none => exact hr.elim
      | some b =>
        obtain ⟨es, clock, hb, r, hf, hr⟩ := hr
        refine EffH.of_unit ?_
        intro w hw
        subst hw
        have h2 := checkKey_pure hk2 hkd false kv w
        have h3 := findKey_pure hk2 hf w
        have h4 : (getObj b).run P w = .ok (.map es clock) w := by simp [getObj, Sem.run, hb]
        have hset : ∀ o : Obj, (setObj b o).run P w = .ok () { w with heap := w.heap.setIfInBounds b o } := fun o => by simp [setObj, Sem.run, hb]
        cases r with
        | none =>
          refine ⟨(), { w with heap := w.heap.setIfInBounds b (.map (es.push { key := kv, val := u, born := clock }) (clock + 1)) }, ?_, ⟨rfl, rfl, rfl, Nat.le_refl _⟩, hr⟩
          simp only [Instr.mapUpdate, hm, hkv, hu2, Sem.run_bind, run_underlying hu, Sem.run_pure, Result.andThen_ok, h4, h2, h3, hset]
        | some ju =>
          obtain ⟨j, u0⟩ := ju
          obtain ⟨hsb, hr⟩ := hr
          refine ⟨(), { w with heap := w.heap.setIfInBounds b (.map (es.modify j fun e => { e with key := kv, val := u }) clock) }, ?_, ⟨rfl, rfl, rfl, Nat.le_refl _⟩, hr⟩
          have h5 : (Instr.keyThatStays (((es[j]?).map (·.key)).getD kv) kv).run P w = .ok kv w := by unfold Instr.keyThatStays; rw [if_pos hsb]; rfl
          simp only [Instr.mapUpdate, hm, hkv, hu2, Sem.run_bind, run_underlying hu, Sem.run_pure, Result.andThen_ok, h4, h2, h3, h5, hset]
    · cases hc
  case panic y =>
    obtain rfl := Option.some.inj hc
    exact hr.elim
  all_goals
    exfalso
    repeat' (first | (cases hc; done) | (split at hc))
    all_goals first | (cases hc; done) | (obtain rfl := Option.some.inj hc; rcases hcl with hcl | hcl <;> cases x <;> simp [SOp.cls] at hcl; done) | (obtain ⟨_, _, rfl⟩ := Option.map_eq_some_iff.1 hc; rcases hcl with hcl | hcl <;> cases x <;> simp [SOp.cls] at hcl; done)
end
end Go.Hx
