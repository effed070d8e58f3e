/- A lasso goes round. No condition. -/
import Derived.Test.YtpmpacdjcfijbaaGreatSI
set_option linter.unusedVariables false
set_option linter.unusedSimpArgs false
namespace Go.Proofs.YtpmpacdjcfijbaaGreat
open Go.Hx Go.Deep
noncomputable def endS (C : Circ) : List Bool → List (List Bool) → List Bool
  | st, [] => st
  | st, r :: rs => endS C (nextL C (valsOf C st r)) rs
theorem movs_app {C : Circ} : ∀ {A B : List (List Bool)} {st : List Bool}, movs C st (A ++ B) = movs C st A ++ movs C (endS C st A) B
  | [], B, st => rfl
  | r :: A, B, st => by rw [List.cons_append, movs, movs, endS, List.cons_append, movs_app]
theorem endS_app {C : Circ} : ∀ {A B : List (List Bool)} {st : List Bool}, endS C st (A ++ B) = endS C (endS C st A) B
  | [], B, st => rfl
  | r :: A, B, st => by rw [List.cons_append, endS, endS, endS_app]
theorem endS_take {C : Circ} : ∀ {rs : List (List Bool)} {st : List Bool} {k : Nat} {M : Mo}, (movs C st rs)[k]? = some M → endS C st (rs.take k) = M.st
  | [], _, _, _, h => by simp [movs] at h
  | r :: rs, st, 0, M, h => by
    simp only [movs, List.getElem?_cons_zero, Option.some.injEq] at h
    subst h
    rfl
  | r :: rs, st, k + 1, M, h => by
    simp only [movs, List.getElem?_cons_succ] at h
    rw [List.take_succ_cons, endS]
    exact endS_take h
/-- What a lasso that is taken is. -/
structure Lasso (C : Circ) (j : Int) (T : Tr) : Prop where
  chk : (chk C).2 = 0
  j0 : 0 ≤ j
  j1 : j < C.just.length
  fit : Fit C T
  ini : iniF C.lats T.init 0 = none
  ok : ∀ m ∈ movs C T.init T.ins, m.ok = true
  lp : 0 ≤ T.loop
  round : ∀ M, (movs C T.init T.ins)[T.loop.toNat]? = some M → endS C T.init T.ins = M.st
  came : ∀ k, k < (C.just.getD j.toNat []).length → cameIn (movs C T.init T.ins) T.loop.toNat (j, (k : Int))
  fair : ∀ k, k < C.fair.length → cameIn (movs C T.init T.ins) T.loop.toNat (-1, (k : Int))
/-- Unrolled once more. -/
theorem Lasso.again {C : Circ} {j : Int} {T : Tr} (l : Lasso C j T) (hn : T.ins.length ≤ 200) {lp : Int} (hlp : lp = T.loop ∨ lp = T.ins.length) : Lasso C j ⟨T.init, T.ins ++ T.ins.drop T.loop.toNat, lp⟩ := by
  have h0 := l.lp
  have h1 := l.fit.2.2.2.2.1
  have hlo : T.loop.toNat < T.ins.length := by omega
  have hll : T.loop.toNat < (movs C T.init T.ins).length := by rw [movs_len]; exact hlo
  have hst := l.round _ (List.getElem?_eq_getElem hll)
  have hdr : movs C (endS C T.init T.ins) (T.ins.drop T.loop.toNat) = (movs C T.init T.ins).drop T.loop.toNat := by
    have h2 : movs C T.init T.ins = movs C T.init (T.ins.take T.loop.toNat) ++ movs C (endS C T.init (T.ins.take T.loop.toNat)) (T.ins.drop T.loop.toNat) := by
      rw [← movs_app, List.take_append_drop]
    rw [hst, ← endS_take (List.getElem?_eq_getElem hll)]
    conv => rhs; rw [h2]
    exact (List.drop_left' (by rw [movs_len]; simp; omega)).symm
  have hL : movs C T.init (T.ins ++ T.ins.drop T.loop.toNat) = movs C T.init T.ins ++ (movs C T.init T.ins).drop T.loop.toNat := by rw [movs_app, hdr]
  have hE : endS C T.init (T.ins ++ T.ins.drop T.loop.toNat) = endS C T.init T.ins := by
    rw [endS_app]
    have h2 : endS C T.init T.ins = endS C (endS C T.init (T.ins.take T.loop.toNat)) (T.ins.drop T.loop.toNat) := by
      rw [← endS_app, List.take_append_drop]
    rw [endS_take (List.getElem?_eq_getElem hll), ← hst] at h2
    exact h2.symm
  have hlen := movs_len (C := C) (rs := T.ins) (st := T.init)
  have sup : ∀ s, cameIn (movs C T.init T.ins) T.loop.toNat s → cameIn (movs C T.init T.ins ++ (movs C T.init T.ins).drop T.loop.toNat) lp.toNat s := by
    rintro s ⟨m, hm, hs⟩
    refine ⟨m, ?_, hs⟩
    rcases hlp with rfl | rfl
    · rw [List.drop_append_of_le_length (by omega)]
      exact List.mem_append_left _ hm
    · rw [Int.toNat_natCast, ← hlen, List.drop_left]
      exact hm
  refine ⟨l.chk, l.j0, l.j1, ⟨l.fit.1, ?_, ?_, ?_, ?_, fun r hr => ?_⟩, l.ini, ?_, ?_, ?_, ?_, ?_⟩
  · simp only [List.length_append]; have := l.fit.2.1; omega
  · simp only [List.length_append, List.length_drop]; omega
  · simp only; omega
  · simp only [List.length_append, List.length_drop]; omega
  · rcases List.mem_append.1 hr with hr | hr
    · exact l.fit.2.2.2.2.2 r hr
    · exact l.fit.2.2.2.2.2 r (List.mem_of_mem_drop hr)
  · simp only
    rw [hL]
    intro m hm
    rcases List.mem_append.1 hm with hm | hm
    · exact l.ok m hm
    · exact l.ok m (List.mem_of_mem_drop hm)
  · simp only; omega
  · simp only
    rw [hL, hE]
    intro M hM
    refine l.round M ?_
    rcases hlp with rfl | rfl
    · rwa [List.getElem?_append_left hll] at hM
    · rw [Int.toNat_natCast, List.getElem?_append_right (by omega), hlen, Nat.sub_self, List.getElem?_drop] at hM
      exact hM
  · simp only
    rw [hL]
    exact fun k hk => sup _ (l.came k hk)
  · simp only
    rw [hL]
    exact fun k hk => sup _ (l.fair k hk)
end Go.Proofs.YtpmpacdjcfijbaaGreat
