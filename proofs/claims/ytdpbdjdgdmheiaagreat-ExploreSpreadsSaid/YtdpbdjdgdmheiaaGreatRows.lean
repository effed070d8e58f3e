/-
  No cell of these rows narrows 'for every input' (looked for: loops, veiled, ifaces, maps, wideKeys, modest, calm, conditions, laid).
  DERIVED. THE GIVEN ROWS OF THIS SEAT. 5 by the template 'for every input the law returns true; each argument reads behind the call as it read before'; 0 by the template 'total and deterministic' (their statements: YtdpbdjdgdmheiaaGreatTotals.lean).
  GIVEN WITH THE SEED: the statements are not yours to turn. If you find one false, say at which input.
  Laid BY PROGRAM, IN A SANDBOX (cutbox-rows.mjs): the forced cells as the released guide's own fill.sh prints them over the translation 03a82a3ce16c2d8f… (all of the seat's roots in one cut). By AI agents, Wed Nov 11 2026. No macro, syntax, notation, axiom, sorry.
-/
import Derived.Test.YtdpbdjdgdmheiaaGreatChecked
import GoSem.Claim
import GoSem.ClaimJoined
import GoSem.ClaimMapViews
import Derived.JoinedTies
import Derived.KernelRfl
namespace Go.Proofs.YtdpbdjdgdmheiaaGreat
/- THE CELL 'sum', in the pinned program and in every row, IS THE sha256 OF THE DUMP (.gsa) THAT YtdpbdjdgdmheiaaGreatProg.lean LOADS. Nothing in Lean hashes anything: it is a label: what it is worth is what the hold of that sum in a sandbox is worth. -/
noncomputable def Tryz.pinned : Pinned := { name := "ytdpbdjdgdmheiaagreat", sum := "03a82a3ce16c2d8f234ebb4604c2853f305779b9ba911dd4c7cada74a4a9ccde", checked := Tryz.checked }
namespace Rows
def none {H : Type} : Left H := { results := [], args := [] }

/-- 'trestlelaw20.ExploreLemmas': WHATEVER THE INPUT: true; the input reads as it did. -/
def exploreLemmasSpec : ChangeSpec := { name := "exploreLemmas", fn := fun _ => fun
  | [d1, d2] => { results := [.lit (.bool true)], args := [d1, d2] }
  | _ => none }
def exploreLemmasRow : OpenClaim := { program := "ytdpbdjdgdmheiaagreat", sum := "03a82a3ce16c2d8f234ebb4604c2853f305779b9ba911dd4c7cada74a4a9ccde", func := "trestle/trestlelaw20.ExploreLemmas", spec := "exploreLemmas", inPlace := ["slices.overlaps[int]"], unfollowed := true, recurses := true, plainKeys := false, apart := false }
def ExploreLemmasSaid : Prop := exploreLemmasRow.holds Tryz.pinned (OpenSpec.ofChange exploreLemmasSpec)

/-- ITS FALSE NEIGHBOUR: 'it returns false'. Refute it at one input. -/
def exploreLemmasWrong : ChangeSpec := { name := "exploreLemmas", fn := fun _ => fun
  | [d1, d2] => { results := [.lit (.bool false)], args := [d1, d2] }
  | _ => none }
def ExploreLemmasWrongFalsely : Prop := exploreLemmasRow.holds Tryz.pinned (OpenSpec.ofChange exploreLemmasWrong)

/-- 'trestlelaw20.ExploreSpreads': WHATEVER THE INPUT: true; the input reads as it did. -/
def exploreSpreadsSpec : ChangeSpec := { name := "exploreSpreads", fn := fun _ => fun
  | [d1, d2] => { results := [.lit (.bool true)], args := [d1, d2] }
  | _ => none }
def exploreSpreadsRow : OpenClaim := { program := "ytdpbdjdgdmheiaagreat", sum := "03a82a3ce16c2d8f234ebb4604c2853f305779b9ba911dd4c7cada74a4a9ccde", func := "trestle/trestlelaw20.ExploreSpreads", spec := "exploreSpreads", inPlace := ["slices.overlaps[int]"], unfollowed := true, recurses := true, plainKeys := false, apart := false }
def ExploreSpreadsSaid : Prop := exploreSpreadsRow.holds Tryz.pinned (OpenSpec.ofChange exploreSpreadsSpec)

/-- ITS FALSE NEIGHBOUR: 'it returns false'. Refute it at one input. -/
def exploreSpreadsWrong : ChangeSpec := { name := "exploreSpreads", fn := fun _ => fun
  | [d1, d2] => { results := [.lit (.bool false)], args := [d1, d2] }
  | _ => none }
def ExploreSpreadsWrongFalsely : Prop := exploreSpreadsRow.holds Tryz.pinned (OpenSpec.ofChange exploreSpreadsWrong)

/-- 'trestlelaw20.ExploreFair': WHATEVER THE INPUT: true; the input reads as it did. -/
def exploreFairSpec : ChangeSpec := { name := "exploreFair", fn := fun _ => fun
  | [d1, d2] => { results := [.lit (.bool true)], args := [d1, d2] }
  | _ => none }
def exploreFairRow : OpenClaim := { program := "ytdpbdjdgdmheiaagreat", sum := "03a82a3ce16c2d8f234ebb4604c2853f305779b9ba911dd4c7cada74a4a9ccde", func := "trestle/trestlelaw20.ExploreFair", spec := "exploreFair", inPlace := ["slices.overlaps[int]"], unfollowed := true, recurses := true, plainKeys := false, apart := false }
def ExploreFairSaid : Prop := exploreFairRow.holds Tryz.pinned (OpenSpec.ofChange exploreFairSpec)

/-- ITS FALSE NEIGHBOUR: 'it returns false'. Refute it at one input. -/
def exploreFairWrong : ChangeSpec := { name := "exploreFair", fn := fun _ => fun
  | [d1, d2] => { results := [.lit (.bool false)], args := [d1, d2] }
  | _ => none }
def ExploreFairWrongFalsely : Prop := exploreFairRow.holds Tryz.pinned (OpenSpec.ofChange exploreFairWrong)

/-- 'trestlelaw26.LassoSafes': WHATEVER THE INPUT: true; the input reads as it did. -/
def lassoSafesSpec : ChangeSpec := { name := "lassoSafes", fn := fun _ => fun
  | [d1, d2] => { results := [.lit (.bool true)], args := [d1, d2] }
  | _ => none }
def lassoSafesRow : OpenClaim := { program := "ytdpbdjdgdmheiaagreat", sum := "03a82a3ce16c2d8f234ebb4604c2853f305779b9ba911dd4c7cada74a4a9ccde", func := "trestle/trestlelaw26.LassoSafes", spec := "lassoSafes", inPlace := ["slices.overlaps[int]"], unfollowed := true, recurses := true, plainKeys := false, apart := false }
def LassoSafesSaid : Prop := lassoSafesRow.holds Tryz.pinned (OpenSpec.ofChange lassoSafesSpec)

/-- ITS FALSE NEIGHBOUR: 'it returns false'. Refute it at one input. -/
def lassoSafesWrong : ChangeSpec := { name := "lassoSafes", fn := fun _ => fun
  | [d1, d2] => { results := [.lit (.bool false)], args := [d1, d2] }
  | _ => none }
def LassoSafesWrongFalsely : Prop := lassoSafesRow.holds Tryz.pinned (OpenSpec.ofChange lassoSafesWrong)

/-- 'trestlelaw26.LassoTraces': WHATEVER THE INPUT: true; the input reads as it did. -/
def lassoTracesSpec : ChangeSpec := { name := "lassoTraces", fn := fun _ => fun
  | [d1, d2, d3] => { results := [.lit (.bool true)], args := [d1, d2, d3] }
  | _ => none }
def lassoTracesRow : OpenClaim := { program := "ytdpbdjdgdmheiaagreat", sum := "03a82a3ce16c2d8f234ebb4604c2853f305779b9ba911dd4c7cada74a4a9ccde", func := "trestle/trestlelaw26.LassoTraces", spec := "lassoTraces", inPlace := ["slices.overlaps[int]"], unfollowed := true, recurses := true, plainKeys := false, apart := false }
def LassoTracesSaid : Prop := lassoTracesRow.holds Tryz.pinned (OpenSpec.ofChange lassoTracesSpec)

/-- ITS FALSE NEIGHBOUR: 'it returns false'. Refute it at one input. -/
def lassoTracesWrong : ChangeSpec := { name := "lassoTraces", fn := fun _ => fun
  | [d1, d2, d3] => { results := [.lit (.bool false)], args := [d1, d2, d3] }
  | _ => none }
def LassoTracesWrongFalsely : Prop := lassoTracesRow.holds Tryz.pinned (OpenSpec.ofChange lassoTracesWrong)

/- THE SECOND FORM. 'bulk': how many values and letters a reading holds, each counted each time it is reached (what is shared counts as often as it is met; a slice's spare places count too). A statement '..UptoSaid' is the law's where the arguments, and the package variables that the reading takes, are together of bulk at most 1048576: NARROWER than '..Said'. Prove '..Said' where nothing that the law and all that it calls make is longer than what came in: it says more and counts as full. Else prove '..UptoSaid'. A law counts once. -/
mutual
def uptoBulk {H : Type} : DataW H → Nat
  | .lit (.string bytes) => bytes.length + 1
  | .lit _ => 1
  | .nil => 1
  | .ptr d => uptoBulk d + 1
  | .slice elems spare => uptoBulkAll elems + uptoBulkAll spare + 1
  | .agg parts => uptoBulkAll parts + 1
  | .iface _ d => uptoBulk d + 1
  | .map entries => uptoBulkEntries entries + 1
  | .held _ => 1
def uptoBulkAll {H : Type} : List (DataW H) → Nat
  | [] => 0
  | d :: r => uptoBulk d + uptoBulkAll r
def uptoBulkEntries {H : Type} : List (Lit × DataW H) → Nat
  | [] => 0
  | x :: r => uptoBulkEntry x + uptoBulkEntries r
def uptoBulkEntry {H : Type} : Lit × DataW H → Nat
  | (.string bytes, d) => bytes.length + uptoBulk d + 1
  | (_, d) => uptoBulk d + 1
 end
def uptoSmall : (H : Type) → List (DataW H) → Bool := fun _ ds => decide (uptoBulkAll ds ≤ 1048576)
def OpenSpec.upto (s : _root_.Go.ChangeSpec) : _root_.Go.OpenSpec := { _root_.Go.OpenSpec.ofChange s with cond := some uptoSmall }

/-- 'trestlelaw20.ExploreLemmas', WHERE WHAT IT READS IS OF BULK AT MOST 1048576: true; the input reads as it did. -/
def exploreLemmasUptoRow : OpenClaim := { program := "ytdpbdjdgdmheiaagreat", sum := "03a82a3ce16c2d8f234ebb4604c2853f305779b9ba911dd4c7cada74a4a9ccde", func := "trestle/trestlelaw20.ExploreLemmas", spec := "exploreLemmas", inPlace := ["slices.overlaps[int]"], unfollowed := true, recurses := true, plainKeys := false, apart := false, narrowed := true }
def ExploreLemmasUptoSaid : Prop := exploreLemmasUptoRow.holds Tryz.pinned (OpenSpec.upto exploreLemmasSpec)

/-- 'trestlelaw20.ExploreSpreads', WHERE WHAT IT READS IS OF BULK AT MOST 1048576: true; the input reads as it did. -/
def exploreSpreadsUptoRow : OpenClaim := { program := "ytdpbdjdgdmheiaagreat", sum := "03a82a3ce16c2d8f234ebb4604c2853f305779b9ba911dd4c7cada74a4a9ccde", func := "trestle/trestlelaw20.ExploreSpreads", spec := "exploreSpreads", inPlace := ["slices.overlaps[int]"], unfollowed := true, recurses := true, plainKeys := false, apart := false, narrowed := true }
def ExploreSpreadsUptoSaid : Prop := exploreSpreadsUptoRow.holds Tryz.pinned (OpenSpec.upto exploreSpreadsSpec)

/-- 'trestlelaw20.ExploreFair', WHERE WHAT IT READS IS OF BULK AT MOST 1048576: true; the input reads as it did. -/
def exploreFairUptoRow : OpenClaim := { program := "ytdpbdjdgdmheiaagreat", sum := "03a82a3ce16c2d8f234ebb4604c2853f305779b9ba911dd4c7cada74a4a9ccde", func := "trestle/trestlelaw20.ExploreFair", spec := "exploreFair", inPlace := ["slices.overlaps[int]"], unfollowed := true, recurses := true, plainKeys := false, apart := false, narrowed := true }
def ExploreFairUptoSaid : Prop := exploreFairUptoRow.holds Tryz.pinned (OpenSpec.upto exploreFairSpec)

/-- 'trestlelaw26.LassoSafes', WHERE WHAT IT READS IS OF BULK AT MOST 1048576: true; the input reads as it did. -/
def lassoSafesUptoRow : OpenClaim := { program := "ytdpbdjdgdmheiaagreat", sum := "03a82a3ce16c2d8f234ebb4604c2853f305779b9ba911dd4c7cada74a4a9ccde", func := "trestle/trestlelaw26.LassoSafes", spec := "lassoSafes", inPlace := ["slices.overlaps[int]"], unfollowed := true, recurses := true, plainKeys := false, apart := false, narrowed := true }
def LassoSafesUptoSaid : Prop := lassoSafesUptoRow.holds Tryz.pinned (OpenSpec.upto lassoSafesSpec)

/-- 'trestlelaw26.LassoTraces', WHERE WHAT IT READS IS OF BULK AT MOST 1048576: true; the input reads as it did. -/
def lassoTracesUptoRow : OpenClaim := { program := "ytdpbdjdgdmheiaagreat", sum := "03a82a3ce16c2d8f234ebb4604c2853f305779b9ba911dd4c7cada74a4a9ccde", func := "trestle/trestlelaw26.LassoTraces", spec := "lassoTraces", inPlace := ["slices.overlaps[int]"], unfollowed := true, recurses := true, plainKeys := false, apart := false, narrowed := true }
def LassoTracesUptoSaid : Prop := lassoTracesUptoRow.holds Tryz.pinned (OpenSpec.upto lassoTracesSpec)

end Rows
end Go.Proofs.YtdpbdjdgdmheiaaGreat
