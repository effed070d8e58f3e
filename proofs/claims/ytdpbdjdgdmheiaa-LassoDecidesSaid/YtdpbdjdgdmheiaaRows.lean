/-
  No cell of these rows narrows 'for every input' (looked for: loops, veiled, ifaces, maps, wideKeys, modest, calm, conditions, laid).
  DERIVED. THE GIVEN ROWS OF THIS SEAT. 7 by the template 'for every input the law returns true; each argument reads behind the call as it read before'; 0 by the template 'total and deterministic' (their statements: YtdpbdjdgdmheiaaTotals.lean).
  GIVEN WITH THE SEED: the statements are not yours to turn. If you find one false, say at which input.
  Laid BY PROGRAM, IN A SANDBOX (cutbox-rows.mjs): the forced cells as the released guide's own fill.sh prints them over the translation 2b1d32bf3c59cd33… (all of the seat's roots in one cut). By AI agents, Wed Nov 11 2026. No macro, syntax, notation, axiom, sorry.
-/
import Derived.Test.YtdpbdjdgdmheiaaChecked
import GoSem.Claim
import GoSem.ClaimJoined
import GoSem.ClaimMapViews
import Derived.JoinedTies
import Derived.KernelRfl
namespace Go.Proofs.Ytdpbdjdgdmheiaa
/- THE CELL 'sum', in the pinned program and in every row, IS THE sha256 OF THE DUMP (.gsa) THAT YtdpbdjdgdmheiaaProg.lean LOADS. Nothing in Lean hashes anything: it is a label: what it is worth is what the hold of that sum in a sandbox is worth. -/
noncomputable def Try.pinned : Pinned := { name := "ytdpbdjdgdmheiaa", sum := "2b1d32bf3c59cd33285807de33c2c13804554b5c901eced765d2db064dc7fe33", checked := Try.checked }
namespace Rows
def none {H : Type} : Left H := { results := [], args := [] }

/-- 'trestlelaw25.FoldDepths': WHATEVER THE INPUT: true; the input reads as it did. -/
def foldDepthsSpec : ChangeSpec := { name := "foldDepths", fn := fun _ => fun
  | [d] => { results := [.lit (.bool true)], args := [d] }
  | _ => none }
def foldDepthsRow : OpenClaim := { program := "ytdpbdjdgdmheiaa", sum := "2b1d32bf3c59cd33285807de33c2c13804554b5c901eced765d2db064dc7fe33", func := "trestle/trestlelaw25.FoldDepths", spec := "foldDepths", inPlace := ["slices.overlaps[int]"], unfollowed := true, recurses := true, plainKeys := false, apart := false }
def FoldDepthsSaid : Prop := foldDepthsRow.holds Try.pinned (OpenSpec.ofChange foldDepthsSpec)

/-- ITS FALSE NEIGHBOUR: 'it returns false'. Refute it at one input. -/
def foldDepthsWrong : ChangeSpec := { name := "foldDepths", fn := fun _ => fun
  | [d] => { results := [.lit (.bool false)], args := [d] }
  | _ => none }
def FoldDepthsWrongFalsely : Prop := foldDepthsRow.holds Try.pinned (OpenSpec.ofChange foldDepthsWrong)

/-- 'trestlelaw20.ExploreMore': WHATEVER THE INPUT: true; the input reads as it did. -/
def exploreMoreSpec : ChangeSpec := { name := "exploreMore", fn := fun _ => fun
  | [d1, d2] => { results := [.lit (.bool true)], args := [d1, d2] }
  | _ => none }
def exploreMoreRow : OpenClaim := { program := "ytdpbdjdgdmheiaa", sum := "2b1d32bf3c59cd33285807de33c2c13804554b5c901eced765d2db064dc7fe33", func := "trestle/trestlelaw20.ExploreMore", spec := "exploreMore", inPlace := ["slices.overlaps[int]"], unfollowed := true, recurses := true, plainKeys := false, apart := false }
def ExploreMoreSaid : Prop := exploreMoreRow.holds Try.pinned (OpenSpec.ofChange exploreMoreSpec)

/-- ITS FALSE NEIGHBOUR: 'it returns false'. Refute it at one input. -/
def exploreMoreWrong : ChangeSpec := { name := "exploreMore", fn := fun _ => fun
  | [d1, d2] => { results := [.lit (.bool false)], args := [d1, d2] }
  | _ => none }
def ExploreMoreWrongFalsely : Prop := exploreMoreRow.holds Try.pinned (OpenSpec.ofChange exploreMoreWrong)

/-- 'trestlelaw20.ExploreSteps': WHATEVER THE INPUT: true; the input reads as it did. -/
def exploreStepsSpec : ChangeSpec := { name := "exploreSteps", fn := fun _ => fun
  | [d] => { results := [.lit (.bool true)], args := [d] }
  | _ => none }
def exploreStepsRow : OpenClaim := { program := "ytdpbdjdgdmheiaa", sum := "2b1d32bf3c59cd33285807de33c2c13804554b5c901eced765d2db064dc7fe33", func := "trestle/trestlelaw20.ExploreSteps", spec := "exploreSteps", inPlace := ["slices.overlaps[int]"], unfollowed := true, recurses := true, plainKeys := false, apart := false }
def ExploreStepsSaid : Prop := exploreStepsRow.holds Try.pinned (OpenSpec.ofChange exploreStepsSpec)

/-- ITS FALSE NEIGHBOUR: 'it returns false'. Refute it at one input. -/
def exploreStepsWrong : ChangeSpec := { name := "exploreSteps", fn := fun _ => fun
  | [d] => { results := [.lit (.bool false)], args := [d] }
  | _ => none }
def ExploreStepsWrongFalsely : Prop := exploreStepsRow.holds Try.pinned (OpenSpec.ofChange exploreStepsWrong)

/-- 'trestlelaw20.ExploreShortest': WHATEVER THE INPUT: true; the input reads as it did. -/
def exploreShortestSpec : ChangeSpec := { name := "exploreShortest", fn := fun _ => fun
  | [d1, d2, d3] => { results := [.lit (.bool true)], args := [d1, d2, d3] }
  | _ => none }
def exploreShortestRow : OpenClaim := { program := "ytdpbdjdgdmheiaa", sum := "2b1d32bf3c59cd33285807de33c2c13804554b5c901eced765d2db064dc7fe33", func := "trestle/trestlelaw20.ExploreShortest", spec := "exploreShortest", inPlace := ["slices.overlaps[int]"], unfollowed := true, recurses := true, plainKeys := false, apart := false }
def ExploreShortestSaid : Prop := exploreShortestRow.holds Try.pinned (OpenSpec.ofChange exploreShortestSpec)

/-- ITS FALSE NEIGHBOUR: 'it returns false'. Refute it at one input. -/
def exploreShortestWrong : ChangeSpec := { name := "exploreShortest", fn := fun _ => fun
  | [d1, d2, d3] => { results := [.lit (.bool false)], args := [d1, d2, d3] }
  | _ => none }
def ExploreShortestWrongFalsely : Prop := exploreShortestRow.holds Try.pinned (OpenSpec.ofChange exploreShortestWrong)

/-- 'trestlelaw26.LassoThere': WHATEVER THE INPUT: true; the input reads as it did. -/
def lassoThereSpec : ChangeSpec := { name := "lassoThere", fn := fun _ => fun
  | [d1, d2, d3] => { results := [.lit (.bool true)], args := [d1, d2, d3] }
  | _ => none }
def lassoThereRow : OpenClaim := { program := "ytdpbdjdgdmheiaa", sum := "2b1d32bf3c59cd33285807de33c2c13804554b5c901eced765d2db064dc7fe33", func := "trestle/trestlelaw26.LassoThere", spec := "lassoThere", inPlace := ["slices.overlaps[int]"], unfollowed := true, recurses := true, plainKeys := false, apart := false }
def LassoThereSaid : Prop := lassoThereRow.holds Try.pinned (OpenSpec.ofChange lassoThereSpec)

/-- ITS FALSE NEIGHBOUR: 'it returns false'. Refute it at one input. -/
def lassoThereWrong : ChangeSpec := { name := "lassoThere", fn := fun _ => fun
  | [d1, d2, d3] => { results := [.lit (.bool false)], args := [d1, d2, d3] }
  | _ => none }
def LassoThereWrongFalsely : Prop := lassoThereRow.holds Try.pinned (OpenSpec.ofChange lassoThereWrong)

/-- 'trestlelaw26.LassoBack': WHATEVER THE INPUT: true; the input reads as it did. -/
def lassoBackSpec : ChangeSpec := { name := "lassoBack", fn := fun _ => fun
  | [d1, d2, d3] => { results := [.lit (.bool true)], args := [d1, d2, d3] }
  | _ => none }
def lassoBackRow : OpenClaim := { program := "ytdpbdjdgdmheiaa", sum := "2b1d32bf3c59cd33285807de33c2c13804554b5c901eced765d2db064dc7fe33", func := "trestle/trestlelaw26.LassoBack", spec := "lassoBack", inPlace := ["slices.overlaps[int]"], unfollowed := true, recurses := true, plainKeys := false, apart := false }
def LassoBackSaid : Prop := lassoBackRow.holds Try.pinned (OpenSpec.ofChange lassoBackSpec)

/-- ITS FALSE NEIGHBOUR: 'it returns false'. Refute it at one input. -/
def lassoBackWrong : ChangeSpec := { name := "lassoBack", fn := fun _ => fun
  | [d1, d2, d3] => { results := [.lit (.bool false)], args := [d1, d2, d3] }
  | _ => none }
def LassoBackWrongFalsely : Prop := lassoBackRow.holds Try.pinned (OpenSpec.ofChange lassoBackWrong)

/-- 'trestlelaw26.LassoDecides': WHATEVER THE INPUT: true; the input reads as it did. -/
def lassoDecidesSpec : ChangeSpec := { name := "lassoDecides", fn := fun _ => fun
  | [d1, d2] => { results := [.lit (.bool true)], args := [d1, d2] }
  | _ => none }
def lassoDecidesRow : OpenClaim := { program := "ytdpbdjdgdmheiaa", sum := "2b1d32bf3c59cd33285807de33c2c13804554b5c901eced765d2db064dc7fe33", func := "trestle/trestlelaw26.LassoDecides", spec := "lassoDecides", inPlace := ["slices.overlaps[int]"], unfollowed := true, recurses := true, plainKeys := false, apart := false }
def LassoDecidesSaid : Prop := lassoDecidesRow.holds Try.pinned (OpenSpec.ofChange lassoDecidesSpec)

/-- ITS FALSE NEIGHBOUR: 'it returns false'. Refute it at one input. -/
def lassoDecidesWrong : ChangeSpec := { name := "lassoDecides", fn := fun _ => fun
  | [d1, d2] => { results := [.lit (.bool false)], args := [d1, d2] }
  | _ => none }
def LassoDecidesWrongFalsely : Prop := lassoDecidesRow.holds Try.pinned (OpenSpec.ofChange lassoDecidesWrong)

/- THE SECOND FORM. 'bulk': how many values and letters a reading holds, each counted each time it is reached (what is shared counts as often as it is met; a slice's spare places count too). A statement '..UptoSaid' is the law's where the arguments, and the package variables that the reading takes, are together of bulk at most 1048576: NARROWER than '..Said'. Prove '..Said' where nothing that the law and all that it calls make is longer than what came in: it says more and counts as full. Else prove '..UptoSaid'. A law counts once. -/
mutual
def uptoBulk {H : Type} : DataW H → Nat
  | .lit (.string bytes) => bytes.length + 1
  | .lit _ => 1
  | .nil => 1
  | .ptr d => uptoBulk d + 1
  | .slice elems spare => uptoBulkAll elems + uptoBulkAll spare + 1
  | .agg parts => uptoBulkAll parts + 1
  | .iface _ d => uptoBulk d + 1
  | .map entries => uptoBulkEntries entries + 1
  | .held _ => 1
def uptoBulkAll {H : Type} : List (DataW H) → Nat
  | [] => 0
  | d :: r => uptoBulk d + uptoBulkAll r
def uptoBulkEntries {H : Type} : List (Lit × DataW H) → Nat
  | [] => 0
  | x :: r => uptoBulkEntry x + uptoBulkEntries r
def uptoBulkEntry {H : Type} : Lit × DataW H → Nat
  | (.string bytes, d) => bytes.length + uptoBulk d + 1
  | (_, d) => uptoBulk d + 1
 end
def uptoSmall : (H : Type) → List (DataW H) → Bool := fun _ ds => decide (uptoBulkAll ds ≤ 1048576)
def OpenSpec.upto (s : _root_.Go.ChangeSpec) : _root_.Go.OpenSpec := { _root_.Go.OpenSpec.ofChange s with cond := some uptoSmall }

/-- 'trestlelaw25.FoldDepths', WHERE WHAT IT READS IS OF BULK AT MOST 1048576: true; the input reads as it did. -/
def foldDepthsUptoRow : OpenClaim := { program := "ytdpbdjdgdmheiaa", sum := "2b1d32bf3c59cd33285807de33c2c13804554b5c901eced765d2db064dc7fe33", func := "trestle/trestlelaw25.FoldDepths", spec := "foldDepths", inPlace := ["slices.overlaps[int]"], unfollowed := true, recurses := true, plainKeys := false, apart := false, narrowed := true }
def FoldDepthsUptoSaid : Prop := foldDepthsUptoRow.holds Try.pinned (OpenSpec.upto foldDepthsSpec)

/-- 'trestlelaw20.ExploreMore', WHERE WHAT IT READS IS OF BULK AT MOST 1048576: true; the input reads as it did. -/
def exploreMoreUptoRow : OpenClaim := { program := "ytdpbdjdgdmheiaa", sum := "2b1d32bf3c59cd33285807de33c2c13804554b5c901eced765d2db064dc7fe33", func := "trestle/trestlelaw20.ExploreMore", spec := "exploreMore", inPlace := ["slices.overlaps[int]"], unfollowed := true, recurses := true, plainKeys := false, apart := false, narrowed := true }
def ExploreMoreUptoSaid : Prop := exploreMoreUptoRow.holds Try.pinned (OpenSpec.upto exploreMoreSpec)

/-- 'trestlelaw20.ExploreSteps', WHERE WHAT IT READS IS OF BULK AT MOST 1048576: true; the input reads as it did. -/
def exploreStepsUptoRow : OpenClaim := { program := "ytdpbdjdgdmheiaa", sum := "2b1d32bf3c59cd33285807de33c2c13804554b5c901eced765d2db064dc7fe33", func := "trestle/trestlelaw20.ExploreSteps", spec := "exploreSteps", inPlace := ["slices.overlaps[int]"], unfollowed := true, recurses := true, plainKeys := false, apart := false, narrowed := true }
def ExploreStepsUptoSaid : Prop := exploreStepsUptoRow.holds Try.pinned (OpenSpec.upto exploreStepsSpec)

/-- 'trestlelaw20.ExploreShortest', WHERE WHAT IT READS IS OF BULK AT MOST 1048576: true; the input reads as it did. -/
def exploreShortestUptoRow : OpenClaim := { program := "ytdpbdjdgdmheiaa", sum := "2b1d32bf3c59cd33285807de33c2c13804554b5c901eced765d2db064dc7fe33", func := "trestle/trestlelaw20.ExploreShortest", spec := "exploreShortest", inPlace := ["slices.overlaps[int]"], unfollowed := true, recurses := true, plainKeys := false, apart := false, narrowed := true }
def ExploreShortestUptoSaid : Prop := exploreShortestUptoRow.holds Try.pinned (OpenSpec.upto exploreShortestSpec)

/-- 'trestlelaw26.LassoThere', WHERE WHAT IT READS IS OF BULK AT MOST 1048576: true; the input reads as it did. -/
def lassoThereUptoRow : OpenClaim := { program := "ytdpbdjdgdmheiaa", sum := "2b1d32bf3c59cd33285807de33c2c13804554b5c901eced765d2db064dc7fe33", func := "trestle/trestlelaw26.LassoThere", spec := "lassoThere", inPlace := ["slices.overlaps[int]"], unfollowed := true, recurses := true, plainKeys := false, apart := false, narrowed := true }
def LassoThereUptoSaid : Prop := lassoThereUptoRow.holds Try.pinned (OpenSpec.upto lassoThereSpec)

/-- 'trestlelaw26.LassoBack', WHERE WHAT IT READS IS OF BULK AT MOST 1048576: true; the input reads as it did. -/
def lassoBackUptoRow : OpenClaim := { program := "ytdpbdjdgdmheiaa", sum := "2b1d32bf3c59cd33285807de33c2c13804554b5c901eced765d2db064dc7fe33", func := "trestle/trestlelaw26.LassoBack", spec := "lassoBack", inPlace := ["slices.overlaps[int]"], unfollowed := true, recurses := true, plainKeys := false, apart := false, narrowed := true }
def LassoBackUptoSaid : Prop := lassoBackUptoRow.holds Try.pinned (OpenSpec.upto lassoBackSpec)

/-- 'trestlelaw26.LassoDecides', WHERE WHAT IT READS IS OF BULK AT MOST 1048576: true; the input reads as it did. -/
def lassoDecidesUptoRow : OpenClaim := { program := "ytdpbdjdgdmheiaa", sum := "2b1d32bf3c59cd33285807de33c2c13804554b5c901eced765d2db064dc7fe33", func := "trestle/trestlelaw26.LassoDecides", spec := "lassoDecides", inPlace := ["slices.overlaps[int]"], unfollowed := true, recurses := true, plainKeys := false, apart := false, narrowed := true }
def LassoDecidesUptoSaid : Prop := lassoDecidesUptoRow.holds Try.pinned (OpenSpec.upto lassoDecidesSpec)

end Rows
end Go.Proofs.Ytdpbdjdgdmheiaa
