/- Words and facts that the claim's proof leans on. No condition. -/
import Derived.Test.YtbfejkmnkkpkhaaLP
set_option linter.unusedVariables false
set_option linter.unusedSimpArgs false
namespace Go.Proofs.Ytbfejkmnkkpkhaa
open Go.Hx

theorem c6 {aA : Option Addr} {aN aC : Nat} {l : List Int} {bA : Option Addr} {bN bC : Nat} {m : List Int} {h : Heap} (rl : Rd h aA aN (ints l)) (rm : Rd h bA bN (ints m)) (sl : aN * 8 ≤ 140737488351232) (sm : bN * 8 ≤ 140737488351232) :
    CallsH Try.prog 6 #[.slice aA aN aC, .slice bA bN bC] h (Yes h) := by
  have e1 : l.length = aN := by have := rl.len; simpa using this
  have e2 : m.length = bN := by have := rm.len; simpa using this
  refine run6 aA aN aC bA bN bC _ h ((c17 rl sl).mono ?_)
  rintro _ h1 ⟨iA, iC, rfl, fi⟩
  refine ⟨_, _, _, rfl, (c17 (rm.ext fi.ext) sm).mono ?_⟩
  rintro _ h2 ⟨jA, jC, rfl, fj⟩
  have x2 : Ext h h2 := fi.ext.trans fj.ext
  have ri := (lent_rd fi.rd e1).ext fj.ext
  have rj := lent_rd fj.rd e2
  refine ⟨_, _, _, rfl, (c26 ri rj).mono ?_⟩
  rintro _ h3 ⟨x3, q, p, e, o3, rfl⟩
  have x23 := x2.trans x3
  refine ⟨_, _, rfl, (c27 (rl.ext x23) (rm.ext x23)).mono ?_⟩
  rintro _ h4 ⟨x4, q4, p4, e4, o4, rfl⟩
  obtain ⟨rfl, rfl, rfl⟩ := o3.unique o4
  have x24 : Ext h2 h4 := x3.trans x4
  refine ⟨_, _, rfl, (c28 (ri.ext x24) (rj.ext x24)).mono ?_⟩
  rintro _ h5 ⟨x5, q5, p5, e5, sA, sC, o5, f5, rfl⟩
  obtain ⟨rfl, rfl, rfl⟩ := o3.unique o5
  have x25 : Ext h2 h5 := x24.trans x5
  refine ⟨_, _, _, _, _, rfl, (c29 (rl.ext (x2.trans x25)) (rm.ext (x2.trans x25))).mono ?_⟩
  rintro _ h6 ⟨x6, q6, p6, e6, tA, tC, o6, f6, rfl⟩
  obtain ⟨rfl, rfl, rfl⟩ := o3.unique o6
  have x26 : Ext h2 h6 := x25.trans x6
  have hl := o3.lens
  have hs : (strg q p e).1.length ≤ 16384 := by
    unfold strg
    split
    · split
      · split
        · show (drp p _).length ≤ 16384
          unfold drp
          exact Nat.le_trans (List.length_filter_le _ _) hl.2
        · simp
      · simp
    · simp
  refine ⟨_, _, _, _, _, rfl, fun _ => ⟨fun _ => use (c22 (f5.upd x6).rd f6.rd (by omega)) ⟨_, rfl, ?_⟩, fun hh => absurd rfl hh⟩, fun hh => absurd rfl hh⟩
  rw [decide_eq_true rfl]
  refine BIf.f ⟨fun _ => ⟨fun _ => ?_, fun hh => absurd rfl hh⟩, fun hh => absurd rfl hh⟩
  unfold J6_0
  refine (c23 (f5.upd x6).own (-7) (by omega)).mono ?_
  rintro _ h7 ⟨rfl, u7⟩
  have x7 : Ext h2 h7 := Fr.ext_of x26 (fun ad ha => Nat.le_trans x24.1 (f5.new ad ha)) u7
  refine ⟨rfl, use (c24 ((fi.rd.ext fj.ext).ext x7) fi.own.cap (rl.ext (x2.trans x7)) (by omega)) ⟨_, rfl, BIf.t ?_⟩⟩
  refine use (c24 (fj.rd.ext x7) fj.own.cap (rm.ext (x2.trans x7)) (by omega)) ⟨_, rfl, BIf.t ?_⟩
  refine (c16 h7).mono ?_
  rintro _ h8 ⟨rfl, x8⟩
  exact ⟨_, rfl, rfl, (x2.trans x7).trans x8⟩
end Go.Proofs.Ytbfejkmnkkpkhaa
