/-
  No cell of these rows narrows 'for every input' (looked for: loops, veiled, ifaces, maps, wideKeys, modest, calm, conditions, laid).
  DERIVED. THE GIVEN ROWS OF THIS SEAT. 9 by the template 'for every input the law returns true; each argument reads behind the call as it read before'; 0 by the template 'total and deterministic' (their statements: YtpmpacdjcfijbaaTotals.lean).
  GIVEN WITH THE SEED: the statements are not yours to turn. If you find one false, say at which input.
  Laid BY PROGRAM, IN A SANDBOX (cutbox-rows.mjs): the forced cells as the released guide's own fill.sh prints them over the translation 098be95365808a20… (all of the seat's roots in one cut). By AI agents, Wed Nov 11 2026. No macro, syntax, notation, axiom, sorry.
-/
import Derived.Test.YtpmpacdjcfijbaaChecked
import GoSem.Claim
import GoSem.ClaimJoined
import GoSem.ClaimMapViews
import Derived.JoinedTies
import Derived.KernelRfl
namespace Go.Proofs.Ytpmpacdjcfijbaa
/- THE CELL 'sum', in the pinned program and in every row, IS THE sha256 OF THE DUMP (.gsa) THAT YtpmpacdjcfijbaaProg.lean LOADS. Nothing in Lean hashes anything: it is a label: what it is worth is what the hold of that sum in a sandbox is worth. -/
noncomputable def Try.pinned : Pinned := { name := "ytpmpacdjcfijbaa", sum := "098be95365808a208e2fe1e88c74ee21dd1cb4c834260fe9d277a64f56e449e0", checked := Try.checked }
namespace Rows
def none {H : Type} : Left H := { results := [], args := [] }

/-- 'trestlelaw13.ReplayProps': WHATEVER THE INPUT: true; the input reads as it did. -/
def replayPropsSpec : ChangeSpec := { name := "replayProps", fn := fun _ => fun
  | [d1, d2, d3] => { results := [.lit (.bool true)], args := [d1, d2, d3] }
  | _ => none }
def replayPropsRow : OpenClaim := { program := "ytpmpacdjcfijbaa", sum := "098be95365808a208e2fe1e88c74ee21dd1cb4c834260fe9d277a64f56e449e0", func := "trestle/trestlelaw13.ReplayProps", spec := "replayProps", inPlace := ["slices.overlaps[int]"], unfollowed := true, recurses := true, plainKeys := false, apart := false }
def ReplayPropsSaid : Prop := replayPropsRow.holds Try.pinned (OpenSpec.ofChange replayPropsSpec)

/-- ITS FALSE NEIGHBOUR: 'it returns false'. Refute it at one input. -/
def replayPropsWrong : ChangeSpec := { name := "replayProps", fn := fun _ => fun
  | [d1, d2, d3] => { results := [.lit (.bool false)], args := [d1, d2, d3] }
  | _ => none }
def ReplayPropsWrongFalsely : Prop := replayPropsRow.holds Try.pinned (OpenSpec.ofChange replayPropsWrong)

/-- 'trestlelaw13.ReplayAgain': WHATEVER THE INPUT: true; the input reads as it did. -/
def replayAgainSpec : ChangeSpec := { name := "replayAgain", fn := fun _ => fun
  | [d1, d2, d3] => { results := [.lit (.bool true)], args := [d1, d2, d3] }
  | _ => none }
def replayAgainRow : OpenClaim := { program := "ytpmpacdjcfijbaa", sum := "098be95365808a208e2fe1e88c74ee21dd1cb4c834260fe9d277a64f56e449e0", func := "trestle/trestlelaw13.ReplayAgain", spec := "replayAgain", inPlace := ["slices.overlaps[int]"], unfollowed := true, recurses := true, plainKeys := false, apart := false }
def ReplayAgainSaid : Prop := replayAgainRow.holds Try.pinned (OpenSpec.ofChange replayAgainSpec)

/-- ITS FALSE NEIGHBOUR: 'it returns false'. Refute it at one input. -/
def replayAgainWrong : ChangeSpec := { name := "replayAgain", fn := fun _ => fun
  | [d1, d2, d3] => { results := [.lit (.bool false)], args := [d1, d2, d3] }
  | _ => none }
def ReplayAgainWrongFalsely : Prop := replayAgainRow.holds Try.pinned (OpenSpec.ofChange replayAgainWrong)

/-- 'trestlelaw13.ReplayRuns': WHATEVER THE INPUT: true; the input reads as it did. -/
def replayRunsSpec : ChangeSpec := { name := "replayRuns", fn := fun _ => fun
  | [d1, d2, d3] => { results := [.lit (.bool true)], args := [d1, d2, d3] }
  | _ => none }
def replayRunsRow : OpenClaim := { program := "ytpmpacdjcfijbaa", sum := "098be95365808a208e2fe1e88c74ee21dd1cb4c834260fe9d277a64f56e449e0", func := "trestle/trestlelaw13.ReplayRuns", spec := "replayRuns", inPlace := ["slices.overlaps[int]"], unfollowed := true, recurses := true, plainKeys := false, apart := false }
def ReplayRunsSaid : Prop := replayRunsRow.holds Try.pinned (OpenSpec.ofChange replayRunsSpec)

/-- ITS FALSE NEIGHBOUR: 'it returns false'. Refute it at one input. -/
def replayRunsWrong : ChangeSpec := { name := "replayRuns", fn := fun _ => fun
  | [d1, d2, d3] => { results := [.lit (.bool false)], args := [d1, d2, d3] }
  | _ => none }
def ReplayRunsWrongFalsely : Prop := replayRunsRow.holds Try.pinned (OpenSpec.ofChange replayRunsWrong)

/-- 'trestlelaw13.ReplayCuts': WHATEVER THE INPUT: true; the input reads as it did. -/
def replayCutsSpec : ChangeSpec := { name := "replayCuts", fn := fun _ => fun
  | [d1, d2] => { results := [.lit (.bool true)], args := [d1, d2] }
  | _ => none }
def replayCutsRow : OpenClaim := { program := "ytpmpacdjcfijbaa", sum := "098be95365808a208e2fe1e88c74ee21dd1cb4c834260fe9d277a64f56e449e0", func := "trestle/trestlelaw13.ReplayCuts", spec := "replayCuts", inPlace := ["slices.overlaps[int]"], unfollowed := true, recurses := true, plainKeys := false, apart := false }
def ReplayCutsSaid : Prop := replayCutsRow.holds Try.pinned (OpenSpec.ofChange replayCutsSpec)

/-- ITS FALSE NEIGHBOUR: 'it returns false'. Refute it at one input. -/
def replayCutsWrong : ChangeSpec := { name := "replayCuts", fn := fun _ => fun
  | [d1, d2] => { results := [.lit (.bool false)], args := [d1, d2] }
  | _ => none }
def ReplayCutsWrongFalsely : Prop := replayCutsRow.holds Try.pinned (OpenSpec.ofChange replayCutsWrong)

/-- 'trestlelaw25.FoldFolds': WHATEVER THE INPUT: true; the input reads as it did. -/
def foldFoldsSpec : ChangeSpec := { name := "foldFolds", fn := fun _ => fun
  | [d] => { results := [.lit (.bool true)], args := [d] }
  | _ => none }
def foldFoldsRow : OpenClaim := { program := "ytpmpacdjcfijbaa", sum := "098be95365808a208e2fe1e88c74ee21dd1cb4c834260fe9d277a64f56e449e0", func := "trestle/trestlelaw25.FoldFolds", spec := "foldFolds", inPlace := ["slices.overlaps[int]"], unfollowed := true, recurses := true, plainKeys := false, apart := false }
def FoldFoldsSaid : Prop := foldFoldsRow.holds Try.pinned (OpenSpec.ofChange foldFoldsSpec)

/-- ITS FALSE NEIGHBOUR: 'it returns false'. Refute it at one input. -/
def foldFoldsWrong : ChangeSpec := { name := "foldFolds", fn := fun _ => fun
  | [d] => { results := [.lit (.bool false)], args := [d] }
  | _ => none }
def FoldFoldsWrongFalsely : Prop := foldFoldsRow.holds Try.pinned (OpenSpec.ofChange foldFoldsWrong)

/-- 'trestlelaw25.FoldBacks': WHATEVER THE INPUT: true; the input reads as it did. -/
def foldBacksSpec : ChangeSpec := { name := "foldBacks", fn := fun _ => fun
  | [d1, d2, d3] => { results := [.lit (.bool true)], args := [d1, d2, d3] }
  | _ => none }
def foldBacksRow : OpenClaim := { program := "ytpmpacdjcfijbaa", sum := "098be95365808a208e2fe1e88c74ee21dd1cb4c834260fe9d277a64f56e449e0", func := "trestle/trestlelaw25.FoldBacks", spec := "foldBacks", inPlace := ["slices.overlaps[int]"], unfollowed := true, recurses := true, plainKeys := false, apart := false }
def FoldBacksSaid : Prop := foldBacksRow.holds Try.pinned (OpenSpec.ofChange foldBacksSpec)

/-- ITS FALSE NEIGHBOUR: 'it returns false'. Refute it at one input. -/
def foldBacksWrong : ChangeSpec := { name := "foldBacks", fn := fun _ => fun
  | [d1, d2, d3] => { results := [.lit (.bool false)], args := [d1, d2, d3] }
  | _ => none }
def FoldBacksWrongFalsely : Prop := foldBacksRow.holds Try.pinned (OpenSpec.ofChange foldBacksWrong)

/-- 'trestlelaw25.FoldHeld': WHATEVER THE INPUT: true; the input reads as it did. -/
def foldHeldSpec : ChangeSpec := { name := "foldHeld", fn := fun _ => fun
  | [d1, d2] => { results := [.lit (.bool true)], args := [d1, d2] }
  | _ => none }
def foldHeldRow : OpenClaim := { program := "ytpmpacdjcfijbaa", sum := "098be95365808a208e2fe1e88c74ee21dd1cb4c834260fe9d277a64f56e449e0", func := "trestle/trestlelaw25.FoldHeld", spec := "foldHeld", inPlace := ["slices.overlaps[int]"], unfollowed := true, recurses := true, plainKeys := false, apart := false }
def FoldHeldSaid : Prop := foldHeldRow.holds Try.pinned (OpenSpec.ofChange foldHeldSpec)

/-- ITS FALSE NEIGHBOUR: 'it returns false'. Refute it at one input. -/
def foldHeldWrong : ChangeSpec := { name := "foldHeld", fn := fun _ => fun
  | [d1, d2] => { results := [.lit (.bool false)], args := [d1, d2] }
  | _ => none }
def FoldHeldWrongFalsely : Prop := foldHeldRow.holds Try.pinned (OpenSpec.ofChange foldHeldWrong)

/-- 'trestlelaw25.FoldSame': WHATEVER THE INPUT: true; the input reads as it did. -/
def foldSameSpec : ChangeSpec := { name := "foldSame", fn := fun _ => fun
  | [d1, d2, d3] => { results := [.lit (.bool true)], args := [d1, d2, d3] }
  | _ => none }
def foldSameRow : OpenClaim := { program := "ytpmpacdjcfijbaa", sum := "098be95365808a208e2fe1e88c74ee21dd1cb4c834260fe9d277a64f56e449e0", func := "trestle/trestlelaw25.FoldSame", spec := "foldSame", inPlace := ["slices.overlaps[int]"], unfollowed := true, recurses := true, plainKeys := false, apart := false }
def FoldSameSaid : Prop := foldSameRow.holds Try.pinned (OpenSpec.ofChange foldSameSpec)

/-- ITS FALSE NEIGHBOUR: 'it returns false'. Refute it at one input. -/
def foldSameWrong : ChangeSpec := { name := "foldSame", fn := fun _ => fun
  | [d1, d2, d3] => { results := [.lit (.bool false)], args := [d1, d2, d3] }
  | _ => none }
def FoldSameWrongFalsely : Prop := foldSameRow.holds Try.pinned (OpenSpec.ofChange foldSameWrong)

/-- 'trestlelaw25.FoldDepths': WHATEVER THE INPUT: true; the input reads as it did. -/
def foldDepthsSpec : ChangeSpec := { name := "foldDepths", fn := fun _ => fun
  | [d] => { results := [.lit (.bool true)], args := [d] }
  | _ => none }
def foldDepthsRow : OpenClaim := { program := "ytpmpacdjcfijbaa", sum := "098be95365808a208e2fe1e88c74ee21dd1cb4c834260fe9d277a64f56e449e0", func := "trestle/trestlelaw25.FoldDepths", spec := "foldDepths", inPlace := ["slices.overlaps[int]"], unfollowed := true, recurses := true, plainKeys := false, apart := false }
def FoldDepthsSaid : Prop := foldDepthsRow.holds Try.pinned (OpenSpec.ofChange foldDepthsSpec)

/-- ITS FALSE NEIGHBOUR: 'it returns false'. Refute it at one input. -/
def foldDepthsWrong : ChangeSpec := { name := "foldDepths", fn := fun _ => fun
  | [d] => { results := [.lit (.bool false)], args := [d] }
  | _ => none }
def FoldDepthsWrongFalsely : Prop := foldDepthsRow.holds Try.pinned (OpenSpec.ofChange foldDepthsWrong)

/- THE SECOND FORM. 'bulk': how many values and letters a reading holds, each counted each time it is reached (what is shared counts as often as it is met; a slice's spare places count too). A statement '..UptoSaid' is the law's where the arguments, and the package variables that the reading takes, are together of bulk at most 1048576: NARROWER than '..Said'. Prove '..Said' where nothing that the law and all that it calls make is longer than what came in: it says more and counts as full. Else prove '..UptoSaid'. A law counts once. -/
mutual
def uptoBulk {H : Type} : DataW H → Nat
  | .lit (.string bytes) => bytes.length + 1
  | .lit _ => 1
  | .nil => 1
  | .ptr d => uptoBulk d + 1
  | .slice elems spare => uptoBulkAll elems + uptoBulkAll spare + 1
  | .agg parts => uptoBulkAll parts + 1
  | .iface _ d => uptoBulk d + 1
  | .map entries => uptoBulkEntries entries + 1
  | .held _ => 1
def uptoBulkAll {H : Type} : List (DataW H) → Nat
  | [] => 0
  | d :: r => uptoBulk d + uptoBulkAll r
def uptoBulkEntries {H : Type} : List (Lit × DataW H) → Nat
  | [] => 0
  | x :: r => uptoBulkEntry x + uptoBulkEntries r
def uptoBulkEntry {H : Type} : Lit × DataW H → Nat
  | (.string bytes, d) => bytes.length + uptoBulk d + 1
  | (_, d) => uptoBulk d + 1
 end
def uptoSmall : (H : Type) → List (DataW H) → Bool := fun _ ds => decide (uptoBulkAll ds ≤ 1048576)
def OpenSpec.upto (s : _root_.Go.ChangeSpec) : _root_.Go.OpenSpec := { _root_.Go.OpenSpec.ofChange s with cond := some uptoSmall }

/-- 'trestlelaw13.ReplayProps', WHERE WHAT IT READS IS OF BULK AT MOST 1048576: true; the input reads as it did. -/
def replayPropsUptoRow : OpenClaim := { program := "ytpmpacdjcfijbaa", sum := "098be95365808a208e2fe1e88c74ee21dd1cb4c834260fe9d277a64f56e449e0", func := "trestle/trestlelaw13.ReplayProps", spec := "replayProps", inPlace := ["slices.overlaps[int]"], unfollowed := true, recurses := true, plainKeys := false, apart := false, narrowed := true }
def ReplayPropsUptoSaid : Prop := replayPropsUptoRow.holds Try.pinned (OpenSpec.upto replayPropsSpec)

/-- 'trestlelaw13.ReplayAgain', WHERE WHAT IT READS IS OF BULK AT MOST 1048576: true; the input reads as it did. -/
def replayAgainUptoRow : OpenClaim := { program := "ytpmpacdjcfijbaa", sum := "098be95365808a208e2fe1e88c74ee21dd1cb4c834260fe9d277a64f56e449e0", func := "trestle/trestlelaw13.ReplayAgain", spec := "replayAgain", inPlace := ["slices.overlaps[int]"], unfollowed := true, recurses := true, plainKeys := false, apart := false, narrowed := true }
def ReplayAgainUptoSaid : Prop := replayAgainUptoRow.holds Try.pinned (OpenSpec.upto replayAgainSpec)

/-- 'trestlelaw13.ReplayRuns', WHERE WHAT IT READS IS OF BULK AT MOST 1048576: true; the input reads as it did. -/
def replayRunsUptoRow : OpenClaim := { program := "ytpmpacdjcfijbaa", sum := "098be95365808a208e2fe1e88c74ee21dd1cb4c834260fe9d277a64f56e449e0", func := "trestle/trestlelaw13.ReplayRuns", spec := "replayRuns", inPlace := ["slices.overlaps[int]"], unfollowed := true, recurses := true, plainKeys := false, apart := false, narrowed := true }
def ReplayRunsUptoSaid : Prop := replayRunsUptoRow.holds Try.pinned (OpenSpec.upto replayRunsSpec)

/-- 'trestlelaw13.ReplayCuts', WHERE WHAT IT READS IS OF BULK AT MOST 1048576: true; the input reads as it did. -/
def replayCutsUptoRow : OpenClaim := { program := "ytpmpacdjcfijbaa", sum := "098be95365808a208e2fe1e88c74ee21dd1cb4c834260fe9d277a64f56e449e0", func := "trestle/trestlelaw13.ReplayCuts", spec := "replayCuts", inPlace := ["slices.overlaps[int]"], unfollowed := true, recurses := true, plainKeys := false, apart := false, narrowed := true }
def ReplayCutsUptoSaid : Prop := replayCutsUptoRow.holds Try.pinned (OpenSpec.upto replayCutsSpec)

/-- 'trestlelaw25.FoldFolds', WHERE WHAT IT READS IS OF BULK AT MOST 1048576: true; the input reads as it did. -/
def foldFoldsUptoRow : OpenClaim := { program := "ytpmpacdjcfijbaa", sum := "098be95365808a208e2fe1e88c74ee21dd1cb4c834260fe9d277a64f56e449e0", func := "trestle/trestlelaw25.FoldFolds", spec := "foldFolds", inPlace := ["slices.overlaps[int]"], unfollowed := true, recurses := true, plainKeys := false, apart := false, narrowed := true }
def FoldFoldsUptoSaid : Prop := foldFoldsUptoRow.holds Try.pinned (OpenSpec.upto foldFoldsSpec)

/-- 'trestlelaw25.FoldBacks', WHERE WHAT IT READS IS OF BULK AT MOST 1048576: true; the input reads as it did. -/
def foldBacksUptoRow : OpenClaim := { program := "ytpmpacdjcfijbaa", sum := "098be95365808a208e2fe1e88c74ee21dd1cb4c834260fe9d277a64f56e449e0", func := "trestle/trestlelaw25.FoldBacks", spec := "foldBacks", inPlace := ["slices.overlaps[int]"], unfollowed := true, recurses := true, plainKeys := false, apart := false, narrowed := true }
def FoldBacksUptoSaid : Prop := foldBacksUptoRow.holds Try.pinned (OpenSpec.upto foldBacksSpec)

/-- 'trestlelaw25.FoldHeld', WHERE WHAT IT READS IS OF BULK AT MOST 1048576: true; the input reads as it did. -/
def foldHeldUptoRow : OpenClaim := { program := "ytpmpacdjcfijbaa", sum := "098be95365808a208e2fe1e88c74ee21dd1cb4c834260fe9d277a64f56e449e0", func := "trestle/trestlelaw25.FoldHeld", spec := "foldHeld", inPlace := ["slices.overlaps[int]"], unfollowed := true, recurses := true, plainKeys := false, apart := false, narrowed := true }
def FoldHeldUptoSaid : Prop := foldHeldUptoRow.holds Try.pinned (OpenSpec.upto foldHeldSpec)

/-- 'trestlelaw25.FoldSame', WHERE WHAT IT READS IS OF BULK AT MOST 1048576: true; the input reads as it did. -/
def foldSameUptoRow : OpenClaim := { program := "ytpmpacdjcfijbaa", sum := "098be95365808a208e2fe1e88c74ee21dd1cb4c834260fe9d277a64f56e449e0", func := "trestle/trestlelaw25.FoldSame", spec := "foldSame", inPlace := ["slices.overlaps[int]"], unfollowed := true, recurses := true, plainKeys := false, apart := false, narrowed := true }
def FoldSameUptoSaid : Prop := foldSameUptoRow.holds Try.pinned (OpenSpec.upto foldSameSpec)

/-- 'trestlelaw25.FoldDepths', WHERE WHAT IT READS IS OF BULK AT MOST 1048576: true; the input reads as it did. -/
def foldDepthsUptoRow : OpenClaim := { program := "ytpmpacdjcfijbaa", sum := "098be95365808a208e2fe1e88c74ee21dd1cb4c834260fe9d277a64f56e449e0", func := "trestle/trestlelaw25.FoldDepths", spec := "foldDepths", inPlace := ["slices.overlaps[int]"], unfollowed := true, recurses := true, plainKeys := false, apart := false, narrowed := true }
def FoldDepthsUptoSaid : Prop := foldDepthsUptoRow.holds Try.pinned (OpenSpec.upto foldDepthsSpec)

end Rows
end Go.Proofs.Ytpmpacdjcfijbaa
