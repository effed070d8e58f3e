/-
  No cell of these rows narrows 'for every input' (looked for: loops, veiled, ifaces, maps, wideKeys, modest, calm, conditions, laid).
  DERIVED. THE GIVEN ROWS OF THIS SEAT. 3 by the template 'for every input the law returns true; each argument reads behind the call as it read before'; 0 by the template 'total and deterministic' (their statements: YtobageabpfkpcaaTotals.lean).
  GIVEN WITH THE SEED: the statements are not yours to turn. If you find one false, say at which input.
  Laid BY PROGRAM, IN A SANDBOX (cutbox-rows.mjs): the forced cells as the released guide's own fill.sh prints them over the translation 00f1b3df5f269a09… (all of the seat's roots in one cut). By AI agents, Wed Nov 11 2026. No macro, syntax, notation, axiom, sorry.
-/
import Derived.Test.YtobageabpfkpcaaChecked
import GoSem.Claim
import GoSem.ClaimJoined
import GoSem.ClaimMapViews
import Derived.JoinedTies
import Derived.KernelRfl
namespace Go.Proofs.Ytobageabpfkpcaa
/- THE CELL 'sum', in the pinned program and in every row, IS THE sha256 OF THE DUMP (.gsa) THAT YtobageabpfkpcaaProg.lean LOADS. Nothing in Lean hashes anything: it is a label: what it is worth is what the hold of that sum in a sandbox is worth. -/
noncomputable def Try.pinned : Pinned := { name := "ytobageabpfkpcaa", sum := "00f1b3df5f269a09bd41df9e4bcc2901d1c5f3bade061bbe52afdc55aa8498cc", checked := Try.checked }
namespace Rows
def none {H : Type} : Left H := { results := [], args := [] }

/-- 'trestlelaw18.ProofFollows': WHATEVER THE INPUT: true; the input reads as it did. -/
def proofFollowsSpec : ChangeSpec := { name := "proofFollows", fn := fun _ => fun
  | [d1, d2] => { results := [.lit (.bool true)], args := [d1, d2] }
  | _ => none }
def proofFollowsRow : OpenClaim := { program := "ytobageabpfkpcaa", sum := "00f1b3df5f269a09bd41df9e4bcc2901d1c5f3bade061bbe52afdc55aa8498cc", func := "trestle/trestlelaw18.ProofFollows", spec := "proofFollows", unfollowed := true, recurses := true, apart := false }
def ProofFollowsSaid : Prop := proofFollowsRow.holds Try.pinned (OpenSpec.ofChange proofFollowsSpec)

/-- ITS FALSE NEIGHBOUR: 'it returns false'. Refute it at one input. -/
def proofFollowsWrong : ChangeSpec := { name := "proofFollows", fn := fun _ => fun
  | [d1, d2] => { results := [.lit (.bool false)], args := [d1, d2] }
  | _ => none }
def ProofFollowsWrongFalsely : Prop := proofFollowsRow.holds Try.pinned (OpenSpec.ofChange proofFollowsWrong)

/-- 'trestlelaw18.ProofThere': WHATEVER THE INPUT: true; the input reads as it did. -/
def proofThereSpec : ChangeSpec := { name := "proofThere", fn := fun _ => fun
  | [d] => { results := [.lit (.bool true)], args := [d] }
  | _ => none }
def proofThereRow : OpenClaim := { program := "ytobageabpfkpcaa", sum := "00f1b3df5f269a09bd41df9e4bcc2901d1c5f3bade061bbe52afdc55aa8498cc", func := "trestle/trestlelaw18.ProofThere", spec := "proofThere", unfollowed := true, recurses := true, apart := false }
def ProofThereSaid : Prop := proofThereRow.holds Try.pinned (OpenSpec.ofChange proofThereSpec)

/-- ITS FALSE NEIGHBOUR: 'it returns false'. Refute it at one input. -/
def proofThereWrong : ChangeSpec := { name := "proofThere", fn := fun _ => fun
  | [d] => { results := [.lit (.bool false)], args := [d] }
  | _ => none }
def ProofThereWrongFalsely : Prop := proofThereRow.holds Try.pinned (OpenSpec.ofChange proofThereWrong)

/-- 'trestlelaw18.ProofSound': WHATEVER THE INPUT: true; the input reads as it did. -/
def proofSoundSpec : ChangeSpec := { name := "proofSound", fn := fun _ => fun
  | [d1, d2, d3] => { results := [.lit (.bool true)], args := [d1, d2, d3] }
  | _ => none }
def proofSoundRow : OpenClaim := { program := "ytobageabpfkpcaa", sum := "00f1b3df5f269a09bd41df9e4bcc2901d1c5f3bade061bbe52afdc55aa8498cc", func := "trestle/trestlelaw18.ProofSound", spec := "proofSound", unfollowed := true, recurses := true, apart := false }
def ProofSoundSaid : Prop := proofSoundRow.holds Try.pinned (OpenSpec.ofChange proofSoundSpec)

/-- ITS FALSE NEIGHBOUR: 'it returns false'. Refute it at one input. -/
def proofSoundWrong : ChangeSpec := { name := "proofSound", fn := fun _ => fun
  | [d1, d2, d3] => { results := [.lit (.bool false)], args := [d1, d2, d3] }
  | _ => none }
def ProofSoundWrongFalsely : Prop := proofSoundRow.holds Try.pinned (OpenSpec.ofChange proofSoundWrong)

/- THE SECOND FORM. 'bulk': how many values and letters a reading holds, each counted each time it is reached (what is shared counts as often as it is met; a slice's spare places count too). A statement '..UptoSaid' is the law's where the arguments, and the package variables that the reading takes, are together of bulk at most 1048576: NARROWER than '..Said'. Prove '..Said' where nothing that the law and all that it calls make is longer than what came in: it says more and counts as full. Else prove '..UptoSaid'. A law counts once. -/
mutual
def uptoBulk {H : Type} : DataW H → Nat
  | .lit (.string bytes) => bytes.length + 1
  | .lit _ => 1
  | .nil => 1
  | .ptr d => uptoBulk d + 1
  | .slice elems spare => uptoBulkAll elems + uptoBulkAll spare + 1
  | .agg parts => uptoBulkAll parts + 1
  | .iface _ d => uptoBulk d + 1
  | .map entries => uptoBulkEntries entries + 1
  | .held _ => 1
def uptoBulkAll {H : Type} : List (DataW H) → Nat
  | [] => 0
  | d :: r => uptoBulk d + uptoBulkAll r
def uptoBulkEntries {H : Type} : List (Lit × DataW H) → Nat
  | [] => 0
  | x :: r => uptoBulkEntry x + uptoBulkEntries r
def uptoBulkEntry {H : Type} : Lit × DataW H → Nat
  | (.string bytes, d) => bytes.length + uptoBulk d + 1
  | (_, d) => uptoBulk d + 1
 end
def uptoSmall : (H : Type) → List (DataW H) → Bool := fun _ ds => decide (uptoBulkAll ds ≤ 1048576)
def OpenSpec.upto (s : _root_.Go.ChangeSpec) : _root_.Go.OpenSpec := { _root_.Go.OpenSpec.ofChange s with cond := some uptoSmall }

/-- 'trestlelaw18.ProofFollows', WHERE WHAT IT READS IS OF BULK AT MOST 1048576: true; the input reads as it did. -/
def proofFollowsUptoRow : OpenClaim := { program := "ytobageabpfkpcaa", sum := "00f1b3df5f269a09bd41df9e4bcc2901d1c5f3bade061bbe52afdc55aa8498cc", func := "trestle/trestlelaw18.ProofFollows", spec := "proofFollows", unfollowed := true, recurses := true, apart := false, narrowed := true }
def ProofFollowsUptoSaid : Prop := proofFollowsUptoRow.holds Try.pinned (OpenSpec.upto proofFollowsSpec)

/-- 'trestlelaw18.ProofThere', WHERE WHAT IT READS IS OF BULK AT MOST 1048576: true; the input reads as it did. -/
def proofThereUptoRow : OpenClaim := { program := "ytobageabpfkpcaa", sum := "00f1b3df5f269a09bd41df9e4bcc2901d1c5f3bade061bbe52afdc55aa8498cc", func := "trestle/trestlelaw18.ProofThere", spec := "proofThere", unfollowed := true, recurses := true, apart := false, narrowed := true }
def ProofThereUptoSaid : Prop := proofThereUptoRow.holds Try.pinned (OpenSpec.upto proofThereSpec)

/-- 'trestlelaw18.ProofSound', WHERE WHAT IT READS IS OF BULK AT MOST 1048576: true; the input reads as it did. -/
def proofSoundUptoRow : OpenClaim := { program := "ytobageabpfkpcaa", sum := "00f1b3df5f269a09bd41df9e4bcc2901d1c5f3bade061bbe52afdc55aa8498cc", func := "trestle/trestlelaw18.ProofSound", spec := "proofSound", unfollowed := true, recurses := true, apart := false, narrowed := true }
def ProofSoundUptoSaid : Prop := proofSoundUptoRow.holds Try.pinned (OpenSpec.upto proofSoundSpec)

end Rows
end Go.Proofs.Ytobageabpfkpcaa
