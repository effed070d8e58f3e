/-
  No cell of these rows narrows 'for every input' (looked for: loops, veiled, ifaces, maps, wideKeys, modest, calm, conditions, laid).
  DERIVED. THE GIVEN ROWS OF THIS SEAT. 6 by the template 'for every input the law returns true; each argument reads behind the call as it read before'; 0 by the template 'total and deterministic' (their statements: YtbfejkmnkkpkhaaTotals.lean).
  GIVEN WITH THE SEED: the statements are not yours to turn. If you find one false, say at which input.
  Laid BY PROGRAM, IN A SANDBOX (cutbox-rows.mjs): the forced cells as the released guide's own fill.sh prints them over the translation 24c174751f9c3591… (all of the seat's roots in one cut). By AI agents, Wed Nov 11 2026. No macro, syntax, notation, axiom, sorry.
-/
import Derived.Test.YtbfejkmnkkpkhaaChecked
import GoSem.Claim
import GoSem.ClaimJoined
import GoSem.ClaimMapViews
import Derived.JoinedTies
import Derived.KernelRfl
namespace Go.Proofs.Ytbfejkmnkkpkhaa
/- THE CELL 'sum', in the pinned program and in every row, IS THE sha256 OF THE DUMP (.gsa) THAT YtbfejkmnkkpkhaaProg.lean LOADS. Nothing in Lean hashes anything: it is a label: what it is worth is what the hold of that sum in a sandbox is worth. -/
noncomputable def Try.pinned : Pinned := { name := "ytbfejkmnkkpkhaa", sum := "24c174751f9c3591d8a5d5cc695df9fab2ba74c38babbefb946351e2dfd3453f", checked := Try.checked }
namespace Rows
def none {H : Type} : Left H := { results := [], args := [] }

/-- 'trestlelaw01.LitsNumbers': WHATEVER THE INPUT: true; the input reads as it did. -/
def litsNumbersSpec : ChangeSpec := { name := "litsNumbers", fn := fun _ => fun
  | [d] => { results := [.lit (.bool true)], args := [d] }
  | _ => none }
def litsNumbersRow : OpenClaim := { program := "ytbfejkmnkkpkhaa", sum := "24c174751f9c3591d8a5d5cc695df9fab2ba74c38babbefb946351e2dfd3453f", func := "trestle/trestlelaw01.LitsNumbers", spec := "litsNumbers", unfollowed := true, recurses := true, apart := false }
def LitsNumbersSaid : Prop := litsNumbersRow.holds Try.pinned (OpenSpec.ofChange litsNumbersSpec)

/-- ITS FALSE NEIGHBOUR: 'it returns false'. Refute it at one input. -/
def litsNumbersWrong : ChangeSpec := { name := "litsNumbers", fn := fun _ => fun
  | [d] => { results := [.lit (.bool false)], args := [d] }
  | _ => none }
def LitsNumbersWrongFalsely : Prop := litsNumbersRow.holds Try.pinned (OpenSpec.ofChange litsNumbersWrong)

/-- 'trestlelaw01.LitsClauses': WHATEVER THE INPUT: true; the input reads as it did. -/
def litsClausesSpec : ChangeSpec := { name := "litsClauses", fn := fun _ => fun
  | [d1, d2] => { results := [.lit (.bool true)], args := [d1, d2] }
  | _ => none }
def litsClausesRow : OpenClaim := { program := "ytbfejkmnkkpkhaa", sum := "24c174751f9c3591d8a5d5cc695df9fab2ba74c38babbefb946351e2dfd3453f", func := "trestle/trestlelaw01.LitsClauses", spec := "litsClauses", unfollowed := true, recurses := true, apart := false }
def LitsClausesSaid : Prop := litsClausesRow.holds Try.pinned (OpenSpec.ofChange litsClausesSpec)

/-- ITS FALSE NEIGHBOUR: 'it returns false'. Refute it at one input. -/
def litsClausesWrong : ChangeSpec := { name := "litsClauses", fn := fun _ => fun
  | [d1, d2] => { results := [.lit (.bool false)], args := [d1, d2] }
  | _ => none }
def LitsClausesWrongFalsely : Prop := litsClausesRow.holds Try.pinned (OpenSpec.ofChange litsClausesWrong)

/-- 'trestlelaw01.LitsBack': WHATEVER THE INPUT: true; the input reads as it did. -/
def litsBackSpec : ChangeSpec := { name := "litsBack", fn := fun _ => fun
  | [d1, d2] => { results := [.lit (.bool true)], args := [d1, d2] }
  | _ => none }
def litsBackRow : OpenClaim := { program := "ytbfejkmnkkpkhaa", sum := "24c174751f9c3591d8a5d5cc695df9fab2ba74c38babbefb946351e2dfd3453f", func := "trestle/trestlelaw01.LitsBack", spec := "litsBack", unfollowed := true, recurses := true, apart := false }
def LitsBackSaid : Prop := litsBackRow.holds Try.pinned (OpenSpec.ofChange litsBackSpec)

/-- ITS FALSE NEIGHBOUR: 'it returns false'. Refute it at one input. -/
def litsBackWrong : ChangeSpec := { name := "litsBack", fn := fun _ => fun
  | [d1, d2] => { results := [.lit (.bool false)], args := [d1, d2] }
  | _ => none }
def LitsBackWrongFalsely : Prop := litsBackRow.holds Try.pinned (OpenSpec.ofChange litsBackWrong)

/-- 'trestlelaw01.LitsSubsumes': WHATEVER THE INPUT: true; the input reads as it did. -/
def litsSubsumesSpec : ChangeSpec := { name := "litsSubsumes", fn := fun _ => fun
  | [d1, d2] => { results := [.lit (.bool true)], args := [d1, d2] }
  | _ => none }
def litsSubsumesRow : OpenClaim := { program := "ytbfejkmnkkpkhaa", sum := "24c174751f9c3591d8a5d5cc695df9fab2ba74c38babbefb946351e2dfd3453f", func := "trestle/trestlelaw01.LitsSubsumes", spec := "litsSubsumes", unfollowed := true, recurses := true, apart := false }
def LitsSubsumesSaid : Prop := litsSubsumesRow.holds Try.pinned (OpenSpec.ofChange litsSubsumesSpec)

/-- ITS FALSE NEIGHBOUR: 'it returns false'. Refute it at one input. -/
def litsSubsumesWrong : ChangeSpec := { name := "litsSubsumes", fn := fun _ => fun
  | [d1, d2] => { results := [.lit (.bool false)], args := [d1, d2] }
  | _ => none }
def LitsSubsumesWrongFalsely : Prop := litsSubsumesRow.holds Try.pinned (OpenSpec.ofChange litsSubsumesWrong)

/-- 'trestlelaw01.LitsRests': WHATEVER THE INPUT: true; the input reads as it did. -/
def litsRestsSpec : ChangeSpec := { name := "litsRests", fn := fun _ => fun
  | [d1, d2] => { results := [.lit (.bool true)], args := [d1, d2] }
  | _ => none }
def litsRestsRow : OpenClaim := { program := "ytbfejkmnkkpkhaa", sum := "24c174751f9c3591d8a5d5cc695df9fab2ba74c38babbefb946351e2dfd3453f", func := "trestle/trestlelaw01.LitsRests", spec := "litsRests", unfollowed := true, recurses := true, apart := false }
def LitsRestsSaid : Prop := litsRestsRow.holds Try.pinned (OpenSpec.ofChange litsRestsSpec)

/-- ITS FALSE NEIGHBOUR: 'it returns false'. Refute it at one input. -/
def litsRestsWrong : ChangeSpec := { name := "litsRests", fn := fun _ => fun
  | [d1, d2] => { results := [.lit (.bool false)], args := [d1, d2] }
  | _ => none }
def LitsRestsWrongFalsely : Prop := litsRestsRow.holds Try.pinned (OpenSpec.ofChange litsRestsWrong)

/-- 'trestlelaw01.LitsLeft': WHATEVER THE INPUT: true; the input reads as it did. -/
def litsLeftSpec : ChangeSpec := { name := "litsLeft", fn := fun _ => fun
  | [d1, d2, d3] => { results := [.lit (.bool true)], args := [d1, d2, d3] }
  | _ => none }
def litsLeftRow : OpenClaim := { program := "ytbfejkmnkkpkhaa", sum := "24c174751f9c3591d8a5d5cc695df9fab2ba74c38babbefb946351e2dfd3453f", func := "trestle/trestlelaw01.LitsLeft", spec := "litsLeft", unfollowed := true, recurses := true, apart := false }
def LitsLeftSaid : Prop := litsLeftRow.holds Try.pinned (OpenSpec.ofChange litsLeftSpec)

/-- ITS FALSE NEIGHBOUR: 'it returns false'. Refute it at one input. -/
def litsLeftWrong : ChangeSpec := { name := "litsLeft", fn := fun _ => fun
  | [d1, d2, d3] => { results := [.lit (.bool false)], args := [d1, d2, d3] }
  | _ => none }
def LitsLeftWrongFalsely : Prop := litsLeftRow.holds Try.pinned (OpenSpec.ofChange litsLeftWrong)

/- THE SECOND FORM. 'bulk': how many values and letters a reading holds, each counted each time it is reached (what is shared counts as often as it is met; a slice's spare places count too). A statement '..UptoSaid' is the law's where the arguments, and the package variables that the reading takes, are together of bulk at most 1048576: NARROWER than '..Said'. Prove '..Said' where nothing that the law and all that it calls make is longer than what came in: it says more and counts as full. Else prove '..UptoSaid'. A law counts once. -/
mutual
def uptoBulk {H : Type} : DataW H → Nat
  | .lit (.string bytes) => bytes.length + 1
  | .lit _ => 1
  | .nil => 1
  | .ptr d => uptoBulk d + 1
  | .slice elems spare => uptoBulkAll elems + uptoBulkAll spare + 1
  | .agg parts => uptoBulkAll parts + 1
  | .iface _ d => uptoBulk d + 1
  | .map entries => uptoBulkEntries entries + 1
  | .held _ => 1
def uptoBulkAll {H : Type} : List (DataW H) → Nat
  | [] => 0
  | d :: r => uptoBulk d + uptoBulkAll r
def uptoBulkEntries {H : Type} : List (Lit × DataW H) → Nat
  | [] => 0
  | x :: r => uptoBulkEntry x + uptoBulkEntries r
def uptoBulkEntry {H : Type} : Lit × DataW H → Nat
  | (.string bytes, d) => bytes.length + uptoBulk d + 1
  | (_, d) => uptoBulk d + 1
 end
def uptoSmall : (H : Type) → List (DataW H) → Bool := fun _ ds => decide (uptoBulkAll ds ≤ 1048576)
def OpenSpec.upto (s : _root_.Go.ChangeSpec) : _root_.Go.OpenSpec := { _root_.Go.OpenSpec.ofChange s with cond := some uptoSmall }

/-- 'trestlelaw01.LitsNumbers', WHERE WHAT IT READS IS OF BULK AT MOST 1048576: true; the input reads as it did. -/
def litsNumbersUptoRow : OpenClaim := { program := "ytbfejkmnkkpkhaa", sum := "24c174751f9c3591d8a5d5cc695df9fab2ba74c38babbefb946351e2dfd3453f", func := "trestle/trestlelaw01.LitsNumbers", spec := "litsNumbers", unfollowed := true, recurses := true, apart := false, narrowed := true }
def LitsNumbersUptoSaid : Prop := litsNumbersUptoRow.holds Try.pinned (OpenSpec.upto litsNumbersSpec)

/-- 'trestlelaw01.LitsClauses', WHERE WHAT IT READS IS OF BULK AT MOST 1048576: true; the input reads as it did. -/
def litsClausesUptoRow : OpenClaim := { program := "ytbfejkmnkkpkhaa", sum := "24c174751f9c3591d8a5d5cc695df9fab2ba74c38babbefb946351e2dfd3453f", func := "trestle/trestlelaw01.LitsClauses", spec := "litsClauses", unfollowed := true, recurses := true, apart := false, narrowed := true }
def LitsClausesUptoSaid : Prop := litsClausesUptoRow.holds Try.pinned (OpenSpec.upto litsClausesSpec)

/-- 'trestlelaw01.LitsBack', WHERE WHAT IT READS IS OF BULK AT MOST 1048576: true; the input reads as it did. -/
def litsBackUptoRow : OpenClaim := { program := "ytbfejkmnkkpkhaa", sum := "24c174751f9c3591d8a5d5cc695df9fab2ba74c38babbefb946351e2dfd3453f", func := "trestle/trestlelaw01.LitsBack", spec := "litsBack", unfollowed := true, recurses := true, apart := false, narrowed := true }
def LitsBackUptoSaid : Prop := litsBackUptoRow.holds Try.pinned (OpenSpec.upto litsBackSpec)

/-- 'trestlelaw01.LitsSubsumes', WHERE WHAT IT READS IS OF BULK AT MOST 1048576: true; the input reads as it did. -/
def litsSubsumesUptoRow : OpenClaim := { program := "ytbfejkmnkkpkhaa", sum := "24c174751f9c3591d8a5d5cc695df9fab2ba74c38babbefb946351e2dfd3453f", func := "trestle/trestlelaw01.LitsSubsumes", spec := "litsSubsumes", unfollowed := true, recurses := true, apart := false, narrowed := true }
def LitsSubsumesUptoSaid : Prop := litsSubsumesUptoRow.holds Try.pinned (OpenSpec.upto litsSubsumesSpec)

/-- 'trestlelaw01.LitsRests', WHERE WHAT IT READS IS OF BULK AT MOST 1048576: true; the input reads as it did. -/
def litsRestsUptoRow : OpenClaim := { program := "ytbfejkmnkkpkhaa", sum := "24c174751f9c3591d8a5d5cc695df9fab2ba74c38babbefb946351e2dfd3453f", func := "trestle/trestlelaw01.LitsRests", spec := "litsRests", unfollowed := true, recurses := true, apart := false, narrowed := true }
def LitsRestsUptoSaid : Prop := litsRestsUptoRow.holds Try.pinned (OpenSpec.upto litsRestsSpec)

/-- 'trestlelaw01.LitsLeft', WHERE WHAT IT READS IS OF BULK AT MOST 1048576: true; the input reads as it did. -/
def litsLeftUptoRow : OpenClaim := { program := "ytbfejkmnkkpkhaa", sum := "24c174751f9c3591d8a5d5cc695df9fab2ba74c38babbefb946351e2dfd3453f", func := "trestle/trestlelaw01.LitsLeft", spec := "litsLeft", unfollowed := true, recurses := true, apart := false, narrowed := true }
def LitsLeftUptoSaid : Prop := litsLeftUptoRow.holds Try.pinned (OpenSpec.upto litsLeftSpec)

end Rows
end Go.Proofs.Ytbfejkmnkkpkhaa
