/- Words and facts that the claim's proof leans on. No condition. -/
import Derived.Test.YtbfejkmnkkpkhaaHxG
set_option linter.unusedVariables false
set_option linter.unusedSimpArgs false
namespace Go.Hx

section
variable {P : Program} {N : Nat} {a : Act} {s : SF} {h : Heap}

theorem oldC_out {n0 : Option Nat} {b : Nat} {Q : Prop} (hq : oldC n0 b Q) : Q ∧ ∀ w w' : World, Agree n0 w w' → w'.heap[b]? = w.heap[b]? := by
  cases n0 with
  | none => exact ⟨hq, fun w w' ha => by rw [show w'.heap = w.heap from ha]⟩
  | some n => exact ⟨hq.2, fun w w' ha => ha b hq.1⟩

theorem cellsH_at {ad : Addr} : ∀ {vs : List Value} {i : Nat}, cellsH h ad i vs → ∀ j v, vs[j]? = some v → cellH h (ad.add (i + j)) = some v
  | [], i, _, j, v, hv => by simp at hv
  | u :: vs, i, hc, j, v, hv => by
    cases j with
    | zero => simp at hv; subst hv; exact hc.1
    | succ j =>
      have := cellsH_at hc.2 j v (by simpa using hv)
      rwa [show i + (j + 1) = i + 1 + j by omega]

theorem run_load_cell {w : World} {ad : Addr} {v : Value} (hc : cellH w.heap ad = some v) : (load ad).run P w = .ok v w := by
  rw [run_load, cell_eq, hc]

theorem run_loadCells_list' {w : World} {ad : Addr} {vs : List Value} (hc : ∀ j v, vs[j]? = some v → cellH w.heap (ad.add j) = some v) :
    (loadCells ad vs.length).run P w = .ok vs.toArray w := run_loadCells_list (P := P) (w := w) ad vs hc

theorem ExVs_len {l : List Shp} : ∀ {K : List Value → Prop}, ExVs l K → ∃ vs, vs.length = l.length ∧ K vs := by
  induction l with
  | nil => intro K hk; exact ⟨[], rfl, hk⟩
  | cons s r ih =>
    intro K hk
    obtain ⟨v, hk⟩ := ExV.out (show ExV s _ from hk)
    obtain ⟨vs, hl, hk⟩ := ih hk
    exact ⟨v :: vs, by simp [hl], hk⟩

theorem mapD_out {t : TypeId} {d : TypeDesc} {e : TypeId} (h : mapD P t = some (d, e)) : ∃ k, P.underlying t = some (.map k e) ∧ P.underlying k = some d ∧ keyD d = true := by
  unfold mapD at h
  split at h
  · rename_i k e' hu
    split at h
    · rename_i d' hk
      split at h
      · rename_i hd
        simp only [Option.some.injEq, Prod.mk.injEq] at h
        obtain ⟨rfl, rfl⟩ := h
        exact ⟨k, hu, hk, hd⟩
      · cases h
    · cases h
  · cases h
theorem checkKey_pure {k : TypeId} {d : TypeDesc} (hk : P.underlying k = some d) (hd : keyD d = true) (b : Bool) (v : Value) : PureS P (Instr.checkKey b 10000 k v) () := by
  intro w
  unfold Instr.checkKey
  cases d <;> simp [keyD] at hd <;> simp [run_underlying hk]
theorem findKey_pure {k : TypeId} {d : TypeDesc} {kv : Value} {es : List MapEntry} {r : Option (Nat × Value)} (hk : P.underlying k = some d) (hf : Instr.findNow d kv es 0 = some r) : PureS P (Instr.findKey k kv es) r := by
  intro w
  unfold Instr.findKey
  simp [run_underlying hk, hf]

theorem read_sound {o : Oper} {op : SOp} {x : Bool} {n0 : Option Nat} (hc : cop P o = some op) (hcl : op.cls x = .read) (hk : Knows N a s) {K : Value → Prop} {w : World} (hr : readC n0 op s w.heap K) :
    ∃ v, (∀ w', Agree n0 w w' → (execOp a.eval o).run P w' = .ok (.value v) w') ∧ K v := by
  obtain ⟨dst, o, ty, pos, after, guard⟩ := o
  cases o <;> simp only [cop] at hc <;> simp only [execOp] <;> first | (cases hc; done) | skip
  case load t y =>
    split at hc
    · rename_i z hz1 hz2
      split at hc
      · obtain rfl := Option.some.inj hc
        obtain ⟨p, hy, h1⟩ := getP_out hk hr
        obtain ⟨ad, rfl, h1⟩ := AtP_out h1
        obtain ⟨h1, hag⟩ := oldC_out h1
        obtain ⟨v, hcell, h1⟩ := ExV.out h1
        refine ⟨v, fun w' hw' => ?_, h1⟩
        have hcell' : cellH w'.heap ad = some v := by unfold cellH at *; rw [hag w w' hw']; exact hcell
        have hld := run_load_cell (P := P) hcell'
        simp only [Instr.loadAt, hy, Instr.sureAddr, loadVar, Sem.run_bind, Sem.run_pure, Result.andThen_ok, isAgg_false hz1 w', Bool.false_eq_true, if_false, hld]
      · cases hc
    · rename_i z hz1 hz2
      split at hc
      · rename_i l n hl hn
        split at hc
        · rename_i hln
          obtain rfl := Option.some.inj hc
          obtain ⟨p, hy, h1⟩ := getP_out hk hr
          obtain ⟨ad, rfl, h1⟩ := AtP_out h1
          obtain ⟨h1, hag⟩ := oldC_out h1
          obtain ⟨vs, hlen, hcell, h1⟩ := ExVs_len h1
          refine ⟨.agg vs.toArray, fun w' hw' => ?_, h1⟩
          have hcell' : ∀ j v, vs[j]? = some v → cellH w'.heap (ad.add j) = some v := by
            intro j v hv
            have h2 := cellsH_at hcell j v hv
            rw [Nat.zero_add] at h2
            have hb : (ad.add j).block = ad.block := by unfold Addr.add; split <;> rfl
            unfold cellH at *
            rw [hb] at h2 ⊢
            rw [hag w w' hw']
            exact h2
          have hld := run_loadCells_list' (P := P) hcell'
          have hsz : ∃ j, P.info? t = some j ∧ j.size = vs.length := by
            cases hi : P.info? t with
            | none => simp [hi] at hn
            | some j =>
              simp only [hi, Option.map_some, Option.some.injEq] at hn
              refine ⟨j, rfl, ?_⟩
              simp only [beq_iff_eq] at hln
              omega
          obtain ⟨j, hj, hjs⟩ := hsz
          have hsz := PureS.sizeOf (P := P) hj w'
          rw [hjs] at hsz
          simp only [Instr.loadAt, hy, Instr.sureAddr, loadVar, Sem.run_bind, Sem.run_pure, Result.andThen_ok, isAgg_true hz1 w', if_true, hsz, hld]
        · cases hc
      · cases hc
    · cases hc
  case lookup t y i ok =>
    split at hc
    · rename_i d e hd
      split at hc
      · rename_i z hz
        obtain rfl := Option.some.inj hc
        obtain ⟨k, hu, hk2, hkd⟩ := mapD_out hd
        obtain ⟨p, hy, h1⟩ := getM_out hk hr
        obtain ⟨kv, hi, h1⟩ := get_out hk h1
        have hzv : ∀ w, (zeroValue e).run P w = .ok z w := by
          unfold zeroOf at hz
          cases hie : P.info? e with
          | none => simp [hie] at hz
          | some ie => simp only [hie, Option.bind_some] at hz; exact PureS.zeroValue hie hz
        cases p with
        | none =>
          refine ⟨_, fun w' _ => ?_, h1⟩
          have h2 := checkKey_pure hk2 hkd true kv w'
          have h3 := findKey_pure (es := []) (r := none) (kv := kv) hk2 rfl w'
          simp only [Instr.lookup, hy, hi, Sem.run_bind, run_underlying hu, Sem.run_pure, Result.andThen_ok, h2, h3, hzv w', Array.isEmpty_empty]
          cases ok <;> rfl
        | some b =>
          obtain ⟨⟨es, clock, hb, r, hf, h1⟩, hag⟩ := oldC_out h1
          cases r with
          | none =>
            refine ⟨_, fun w' hw' => ?_, h1⟩
            have hb' : w'.heap[b]? = some (.map es clock) := by rw [hag w w' hw']; exact hb
            have h2 := checkKey_pure hk2 hkd es.isEmpty kv w'
            have h3 := findKey_pure hk2 hf w'
            have h4 : (getObj b).run P w' = .ok (.map es clock) w' := by simp [getObj, Sem.run, hb']
            simp only [Instr.lookup, hy, hi, Sem.run_bind, run_underlying hu, Sem.run_pure, Result.andThen_ok, h4, h2, h3, hzv w']
            cases ok <;> rfl
          | some ju =>
            obtain ⟨j, u⟩ := ju
            obtain ⟨v, rfl, h1⟩ := ExT.out h1
            refine ⟨_, fun w' hw' => ?_, h1⟩
            have hb' : w'.heap[b]? = some (.map es clock) := by rw [hag w w' hw']; exact hb
            have h2 := checkKey_pure hk2 hkd es.isEmpty kv w'
            have h3 := findKey_pure hk2 hf w'
            have h4 : (getObj b).run P w' = .ok (.map es clock) w' := by simp [getObj, Sem.run, hb']
            simp only [Instr.lookup, hy, hi, Sem.run_bind, run_underlying hu, Sem.run_pure, Result.andThen_ok, h4, h2, h3]
            cases ok <;> rfl
      · cases hc
    · cases hc
  case call c =>
    unfold copCall at hc
    split at hc
    · exfalso
      split at hc
      · obtain rfl := Option.some.inj hc; cases x <;> simp [SOp.cls] at hcl
      · cases hc
    · exfalso
      split at hc
      · obtain rfl := Option.some.inj hc; cases x <;> simp [SOp.cls] at hcl
      · cases hc
    · rename_i b hb
      obtain ⟨callee, args, argTypes⟩ := c
      simp only at hb hc ⊢
      subst hb
      split at hc
      · rename_i y t ha ht
        have ea : args = #[y] := by apply Array.toList_inj.1; simpa using ha
        have et : argTypes = #[t] := by apply Array.toList_inj.1; simpa using ht
        subst ea; subst et
        split at hc
        · obtain rfl := Option.some.inj hc; cases x <;> simp [SOp.cls] at hcl
        · obtain rfl := Option.some.inj hc; cases x <;> simp [SOp.cls] at hcl
        · obtain rfl := Option.some.inj hc; cases x <;> simp [SOp.cls] at hcl
        · rename_i k e hu
          obtain rfl := Option.some.inj hc
          obtain ⟨p, hy, h1⟩ := getM_out hk hr
          cases p with
          | none => exact ⟨_, fun w' _ => by simp [resolve, invoke, builtin, hy, Builtin.len_, run_underlying hu, goInt], h1⟩
          | some b =>
            obtain ⟨⟨es, clock, hb, h1⟩, hag⟩ := oldC_out h1
            refine ⟨_, fun w' hw' => ?_, h1⟩
            have hb' : w'.heap[b]? = some (.map es clock) := by rw [hag w w' hw']; exact hb
            simp [resolve, invoke, builtin, hy, Builtin.len_, run_underlying hu, goInt, getObj, Sem.run, hb']
        · cases hc
      all_goals
        exfalso
        repeat' (first | (cases hc; done) | (split at hc))
        all_goals first | (cases hc; done) | (obtain rfl := Option.some.inj hc; cases x <;> simp [SOp.cls] at hcl)
    · cases hc
  case binOp op' t y z yt =>
    exfalso
    unfold copBin at hc
    split at hc
    · cases op' <;> simp only at hc <;> (repeat' (first | (cases hc; done) | (split at hc))) <;> first | (cases hc; done) | (obtain rfl := Option.some.inj hc; cases x <;> simp [SOp.cls] at hcl)
    · cases op' <;> simp only at hc <;> first | (cases hc; done) | (obtain rfl := Option.some.inj hc; cases x <;> simp [SOp.cls] at hcl)
    · cases op' <;> simp only at hc <;> first | (cases hc; done) | (obtain rfl := Option.some.inj hc; cases x <;> simp [SOp.cls] at hcl)
    · split at hc <;> first | (cases hc; done) | (obtain rfl := Option.some.inj hc; cases x <;> simp [SOp.cls] at hcl)
    · split at hc <;> first | (cases hc; done) | (obtain rfl := Option.some.inj hc; cases x <;> simp [SOp.cls] at hcl)
  case makeMap t r =>
    exfalso
    cases r <;> simp only at hc
    · obtain rfl := Option.some.inj hc; cases x <;> simp [SOp.cls] at hcl
    · cases hc
  case slice t y lo hi mx =>
    exfalso
    unfold copSlice at hc
    repeat' (first | (cases hc; done) | (split at hc))
    all_goals first | (cases hc; done) | (obtain rfl := Option.some.inj hc; cases x <;> simp [SOp.cls] at hcl)
  all_goals
    exfalso
    repeat' (first | (cases hc; done) | (split at hc))
    all_goals first | (cases hc; done) | (obtain rfl := Option.some.inj hc; cases x <;> simp [SOp.cls] at hcl; done) | (obtain ⟨_, _, rfl⟩ := Option.map_eq_some_iff.1 hc; cases x <;> simp [SOp.cls] at hcl; done)

/-! ### Effects -/
theorem setCell_heap {w : World} {b k : Nat} {c : Array Value} {e : TypeId} {fr : Nat × Nat} (hb : w.heap[b]? = some (.cells c e fr)) (v : Value) :
    (w.setCell ⟨b, k, none⟩ v).heap = w.heap.setIfInBounds b (.cells (c.setIfInBounds k v) e fr) := by
  unfold World.setCell
  apply Array.ext_getElem?
  intro i
  simp only [Array.getElem?_modify]
  by_cases hi : b = i
  · subst hi
    have hlt := (Array.getElem?_eq_some_iff.1 hb).1
    rw [if_pos rfl, hb, Array.getElem?_setIfInBounds_self_of_lt hlt]
    rfl
  · rw [if_neg hi, Array.getElem?_setIfInBounds_ne hi]

theorem setCell_same (w : World) (ad : Addr) (v : Value) : Same w (w.setCell ad v) := ⟨rfl, rfl, rfl, Nat.le_refl _⟩

theorem store_run (ad : Addr) (hsp : ad.spot = none) : ∀ (vs : List Value) (i : Nat) (w : World) (c : Array Value) (e : TypeId) (fr : Nat × Nat),
    w.heap[ad.block]? = some (.cells c e fr) → ad.off + i + vs.length ≤ c.size → Loose fr (ad.off + i) vs.length → vs.all Value.oneCell' = true →
    ∃ w', (storeCells ad vs i).run P w = .ok () w' ∧ Same w w' ∧ w'.heap = w.heap.setIfInBounds ad.block (.cells (writeL c.toList (ad.off + i) vs).toArray e fr)
  | [], i, w, c, e, fr, hb, hl, hf, ho => by
    refine ⟨w, by simp [storeCells], .refl _, ?_⟩
    rw [writeL_nil]
    apply Array.ext_getElem?
    intro j
    by_cases hj : ad.block = j
    · subst hj
      have hlt := (Array.getElem?_eq_some_iff.1 hb).1
      rw [Array.getElem?_setIfInBounds_self_of_lt hlt, hb]
    · rw [Array.getElem?_setIfInBounds_ne hj]
  | v :: vs, i, w, c, e, fr, hb, hl, hf, ho => by
    simp only [List.all_cons, Bool.and_eq_true] at ho
    simp only [List.length_cons] at hl hf
    have hadd : ad.add i = ⟨ad.block, ad.off + i, none⟩ := by
      obtain ⟨b, o, sp⟩ := ad
      simp only at hsp
      subst hsp
      unfold Addr.add
      split <;> simp_all
    have hlt := (Array.getElem?_eq_some_iff.1 hb).1
    have hoff : ad.off + i < c.size := by omega
    have hcell : w.cell? ⟨ad.block, ad.off + i, none⟩ = some (c[ad.off + i]'hoff) := by
      simp [World.cell?, hb, hoff]
    have hfz : w.frozen? ⟨ad.block, ad.off + i, none⟩ = false := by
      have := hf (ad.off + i) (Nat.le_refl _) (by omega)
      simp only [World.frozen?, hb]
      obtain ⟨lo, hi⟩ := fr
      simp only at this ⊢
      by_cases h1 : lo ≤ ad.off + i
      · have h2 : ¬ ad.off + i < hi := fun h2 => this ⟨h1, h2⟩
        simp [h2]
      · simp [h1]
    have hst : (store (ad.add i) v).run P w = .ok () (w.setCell ⟨ad.block, ad.off + i, none⟩ v) := by
      rw [hadd, run_store P w _ v .plain ho.1, hcell]
      simp [hfz]
    have hheap := setCell_heap (k := ad.off + i) hb v
    obtain ⟨w', hr, hs, hh⟩ := store_run ad hsp vs (i + 1) (w.setCell ⟨ad.block, ad.off + i, none⟩ v) (c.setIfInBounds (ad.off + i) v) e fr
      (by rw [hheap, Array.getElem?_setIfInBounds_self_of_lt hlt]) (by simp; omega) (fun j h1 h2 => hf j (by omega) (by omega)) ho.2
    refine ⟨w', by simp [storeCells, hst, hr], (setCell_same ..).trans hs, ?_⟩
    rw [hh, hheap]
    have : (writeL (c.setIfInBounds (ad.off + i) v).toList (ad.off + (i + 1)) vs) = writeL c.toList (ad.off + i) (v :: vs) := by
      rw [writeL_cons _ _ _ _ (by simpa using hoff)]
      simp [Nat.add_assoc]
    rw [this]
    apply Array.ext_getElem?
    intro j
    by_cases hj : ad.block = j
    · subst hj
      rw [Array.getElem?_setIfInBounds_self_of_lt (by simpa using hlt), Array.getElem?_setIfInBounds_self_of_lt hlt]
    · rw [Array.getElem?_setIfInBounds_ne hj, Array.getElem?_setIfInBounds_ne hj, Array.getElem?_setIfInBounds_ne hj]

theorem store_sem {ad : Addr} {vs : List Value} {K : Heap → Prop} (hs : StoreH h ad vs K) : SemH P (storeCells ad vs) h fun _ h' => K h' := by
  intro w hw
  unfold StoreH at hs
  split at hs
  · exact ⟨(), w, by simp [storeCells], .refl _, hw ▸ hs⟩
  · obtain ⟨h1, c, e, fr, hb, hsp, hl, hf, hK⟩ := hs
    obtain ⟨w', hr, hsm, hh⟩ := store_run (P := P) ad hsp vs 0 w c e fr (by rw [hw]; exact hb) (by omega) (by simpa using hf) h1
    refine ⟨(), w', hr, hsm, ?_⟩
    rw [hh, hw]
    exact hK

end
end Go.Hx
