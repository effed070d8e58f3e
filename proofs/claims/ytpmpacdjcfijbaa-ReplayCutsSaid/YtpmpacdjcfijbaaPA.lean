/- Words and facts that the claim's proof leans on. No condition. -/
import Derived.Test.YtpmpacdjcfijbaaSI
import Derived.Test.YtpmpacdjcfijbaaHxK
import Derived.Test.YtpmpacdjcfijbaaChecked
/- The document's moments. No condition. -/
set_option linter.unusedVariables false
set_option linter.unusedSimpArgs false
namespace Go.Proofs.Ytpmpacdjcfijbaa
open Go.Hx Go.Deep
/-- A place is put behind the fair ones. -/
theorem MB.spot {h0 h : Heap} {b : Addr} {m : MV} {M : Mo} (mb : MB h0 h b m M) (hl : M.fair.length ≤ 1000000) (p q : Int) {K : Heap → Prop} (hK : ∀ h' m', MB h0 h' b m' { M with fair := M.fair ++ [(p, q)] } → K h') :
    ∃ (A : Option Addr), ∃ (N : Nat), ∃ (C : Nat), cellH h (b.add 3) = some (.slice A N C) ∧ let h3 : Heap := h.push (.cells #[.int .i64 p, .int .i64 q] 130); ∃ ys : List Value, ReadL h3 (some (Addr.mk h.size 0 none)) ys ∧ ys.length = 1 * 2 ∧
      AppS h3 A N C 130 16 2 #[.int .i64 0, .int .i64 0] ys 1 fun apA apN apC h4 => StoreH h4 (b.add 3) [.slice apA apN apC] K := by
  refine ⟨_, _, _, mb.fld 3 rfl, ?_⟩
  intro h3
  have e3 : Ext h h3 := Ext.push h _
  have r3 := (Fr.lit (.refl h) (cs2 (p, q)) 130 2 rfl).rd
  have m3 := mb.mem.ext' e3
  have fn := (m3.get 3 rfl).own.rd.elen cs2l (by omega)
  refine ⟨cs2 (p, q), r3.read, rfl, (m3.get 3 rfl).app rfl (by simp [Value.oneCell']) (by omega) fun a' c' h4 f4 u4 hor => ?_⟩
  have m4 := m3.setAt 3 (t' := ⟨2, a', m.f.n + 1, c', _⟩) rfl f4 u4 hor
  refine (m4.get 0 rfl).cellAt 3 (by omega) rfl fun h5 u5 f5 => hK _ { m with f := ⟨a', m.f.n + 1, c'⟩ } ⟨mb.ok, ?_⟩
  have m5 := m4.setAt 0 (t' := ⟨1, some b, 4, 4, _⟩) rfl f5 u5 (.inl rfl)
  simp only [List.set_cons_succ, List.set_cons_zero] at m5
  have e : M.fair.flatMap cs2 ++ cs2 (p, q) = (M.fair ++ [(p, q)]).flatMap cs2 := by simp [List.flatMap_append]
  rw [e] at m5
  exact m5
theorem MB.bad {h0 h : Heap} {b : Addr} {m : MV} {M : Mo} (mb : MB h0 h b m M) (hl : M.bads.length ≤ 1000000) (p : Int) {K : Heap → Prop} (hK : ∀ h' m', MB h0 h' b m' { M with bads := M.bads ++ [p] } → K h') :
    ∃ (A : Option Addr), ∃ (N : Nat), ∃ (C : Nat), cellH h (b.add 2) = some (.slice A N C) ∧ let h3 : Heap := h.push (.cells #[.int .i64 p] 3); ∃ ys : List Value, ReadL h3 (some (Addr.mk h.size 0 none)) ys ∧ ys.length = 1 * 1 ∧
      AppS h3 A N C 3 8 1 #[.int .i64 0] ys 1 fun apA apN apC h4 => StoreH h4 (b.add 2) [.slice apA apN apC] K := by
  refine ⟨_, _, _, mb.fld 2 rfl, ?_⟩
  intro h3
  have e3 : Ext h h3 := Ext.push h _
  have r3 := (Fr.lit (.refl h) [Value.int .i64 p] 3 1 rfl).rd
  have m3 := mb.mem.ext' e3
  have fn := (m3.get 2 rfl).rd.ilen (f := Value.int .i64)
  refine ⟨[Value.int .i64 p], r3.read, rfl, (m3.get 2 rfl).app rfl (by simp [Value.oneCell']) (by omega) fun a' c' h4 f4 u4 hor => ?_⟩
  have m4 := m3.setAt 2 (t' := ⟨1, a', m.b.n + 1, c', _⟩) rfl f4 u4 hor
  refine (m4.get 0 rfl).cellAt 2 (by omega) rfl fun h5 u5 f5 => hK _ { m with b := ⟨a', m.b.n + 1, c'⟩ } ⟨mb.ok, ?_⟩
  have m5 := m4.setAt 0 (t' := ⟨1, some b, 4, 4, _⟩) rfl f5 u5 (.inl rfl)
  simp only [List.set_cons_succ, List.set_cons_zero] at m5
  have e : ints M.bads ++ [Value.int .i64 p] = ints (M.bads ++ [p]) := by rw [ints, ints, List.map_append]; rfl
  rw [e] at m5
  exact m5
section
variable {h h0 : Heap} {v : CV} {C : Circ} {V : List Bool} {a : Option Addr} {n c : Nat}
end
end Go.Proofs.Ytpmpacdjcfijbaa
