/-
  DERIVED. GIVEN WITH THE SEED: THE CARDS: each row of YtobageabpfkpcaaGreatDoorRows.lean that lists a variable, with what it lists TIED to the program's text (the seventh form; the later family's looks); each row that meets fmt, with fmt's text TOLD by the authors' own Lean function (tested against real Go, not proved from fmt's source: count such statements apart). THE CARD IS WHAT COUNTS. Prove the row's statement (the work); the ties are given (YtobageabpfkpcaaGreatDoorTie.lean); close each card by the builder's one call (the guide's Derived/Test/ToyasCard.lean, 'card_holds'). Laid BY PROGRAM, IN A SANDBOX (cutbox-door.mjs). By AI agents, Wed Nov 11 2026. No macro, syntax, notation, axiom, sorry.
-/
import Derived.Test.YtobageabpfkpcaaGreatDoorRows
import GoSem.ClaimSeven
namespace Go.Proofs.YtobageabpfkpcaaGreatDoor
namespace Rows

/-- THE TIED CARD OF 'trestlelaw14.CnfReads'. -/
def cnfReadsCard : Claim7 := { stood := { row := cnfReadsRow, standIns := [], harness := (true, "296d0ae4c17eeeb53cebc40c3ea2c11900aff306c61a062694f7de8ffc3f6115"), looks := true }, kinds := [], alts := [], laidByText := true, laidKinds := [.data, .data, .data, .data, .sentinel, .sentinel, .pinned], laidTests := true, laidLooks := .later }
def CnfReadsCardSaid : Prop := Claim7.holds Tryz.pinned (.plain (OpenSpec.ofChange cnfReadsSpec)) cnfReadsCard

/-- THE TIED CARD OF 'trestlelaw14.CnfForces'. -/
def cnfForcesCard : Claim7 := { stood := { row := cnfForcesRow, standIns := [], harness := (true, "296d0ae4c17eeeb53cebc40c3ea2c11900aff306c61a062694f7de8ffc3f6115"), looks := true }, kinds := [], alts := [], laidByText := true, laidKinds := [.data, .data, .data, .data, .sentinel, .sentinel, .pinned], laidTests := true, laidLooks := .later }
def CnfForcesCardSaid : Prop := Claim7.holds Tryz.pinned (.plain (OpenSpec.ofChange cnfForcesSpec)) cnfForcesCard

/-- THE TIED CARD OF 'trestlelaw14.CnfModels'. -/
def cnfModelsCard : Claim7 := { stood := { row := cnfModelsRow, standIns := [], harness := (true, "296d0ae4c17eeeb53cebc40c3ea2c11900aff306c61a062694f7de8ffc3f6115"), looks := true }, kinds := [], alts := [], laidByText := true, laidKinds := [.data, .data, .data, .data, .sentinel, .sentinel, .pinned], laidTests := true, laidLooks := .later }
def CnfModelsCardSaid : Prop := Claim7.holds Tryz.pinned (.plain (OpenSpec.ofChange cnfModelsSpec)) cnfModelsCard

/-- THE TIED CARD OF 'trestlelaw14.CnfLeast'. -/
def cnfLeastCard : Claim7 := { stood := { row := cnfLeastRow, standIns := [], harness := (true, "296d0ae4c17eeeb53cebc40c3ea2c11900aff306c61a062694f7de8ffc3f6115"), looks := true }, kinds := [], alts := [], laidByText := true, laidKinds := [.data, .data, .data, .data, .sentinel, .sentinel, .pinned], laidTests := true, laidLooks := .later }
def CnfLeastCardSaid : Prop := Claim7.holds Tryz.pinned (.plain (OpenSpec.ofChange cnfLeastSpec)) cnfLeastCard

/-- THE TIED CARD OF 'trestlelaw14.CnfTexts'. -/
def cnfTextsCard : Claim7 := { stood := { row := cnfTextsRow, standIns := [], harness := (true, "296d0ae4c17eeeb53cebc40c3ea2c11900aff306c61a062694f7de8ffc3f6115"), looks := true }, kinds := [], alts := [], laidByText := true, laidKinds := [.data, .data, .data, .data, .sentinel, .sentinel, .pinned], laidTests := true, laidLooks := .later }
def CnfTextsCardSaid : Prop := Claim7.holds Tryz.pinned (.plain (OpenSpec.ofChange cnfTextsSpec)) cnfTextsCard

/-- THE TIED CARD OF 'trestlelaw14.CnfMeans'. -/
def cnfMeansCard : Claim7 := { stood := { row := cnfMeansRow, standIns := [], harness := (true, "296d0ae4c17eeeb53cebc40c3ea2c11900aff306c61a062694f7de8ffc3f6115"), looks := true }, kinds := [], alts := [], laidByText := true, laidKinds := [.data, .data, .data, .data, .sentinel, .sentinel, .pinned], laidTests := true, laidLooks := .later }
def CnfMeansCardSaid : Prop := Claim7.holds Tryz.pinned (.plain (OpenSpec.ofChange cnfMeansSpec)) cnfMeansCard

/-- THE TIED CARD OF 'trestlelaw14.CnfBack'. -/
def cnfBackCard : Claim7 := { stood := { row := cnfBackRow, standIns := [], harness := (true, "296d0ae4c17eeeb53cebc40c3ea2c11900aff306c61a062694f7de8ffc3f6115"), looks := true }, kinds := [], alts := [], laidByText := true, laidKinds := [.data, .data, .data, .data, .sentinel, .sentinel, .pinned], laidTests := true, laidLooks := .later }
def CnfBackCardSaid : Prop := Claim7.holds Tryz.pinned (.plain (OpenSpec.ofChange cnfBackSpec)) cnfBackCard

/-- THE TIED CARD OF 'trestlelaw14.CnfJoins'. -/
def cnfJoinsCard : Claim7 := { stood := { row := cnfJoinsRow, standIns := [], harness := (true, "296d0ae4c17eeeb53cebc40c3ea2c11900aff306c61a062694f7de8ffc3f6115"), looks := true }, kinds := [], alts := [], laidByText := true, laidKinds := [.data, .data, .data, .data, .sentinel, .sentinel, .pinned], laidTests := true, laidLooks := .later }
def CnfJoinsCardSaid : Prop := Claim7.holds Tryz.pinned (.plain (OpenSpec.ofChange cnfJoinsSpec)) cnfJoinsCard

/-- THE TIED CARD OF 'trestlelaw18.ProofBack'. -/
def proofBackCard : Claim7 := { stood := { row := proofBackRow, standIns := [], harness := (true, "296d0ae4c17eeeb53cebc40c3ea2c11900aff306c61a062694f7de8ffc3f6115"), looks := true }, kinds := [], alts := [], laidByText := true, laidKinds := [.data, .data, .data, .data, .sentinel, .sentinel, .pinned], laidTests := true, laidLooks := .later }
def ProofBackCardSaid : Prop := Claim7.holds Tryz.pinned (.plain (OpenSpec.ofChange proofBackSpec)) proofBackCard

/-- THE SECOND FORM's CARD OF 'trestlelaw14.CnfReads'. -/
def cnfReadsUptoCard : Claim7 := { stood := { row := cnfReadsUptoRow, standIns := [], harness := (true, "296d0ae4c17eeeb53cebc40c3ea2c11900aff306c61a062694f7de8ffc3f6115"), looks := true }, kinds := [], alts := [], laidByText := true, laidKinds := [.data, .data, .data, .data, .sentinel, .sentinel, .pinned], laidTests := true, laidLooks := .later }
def CnfReadsUptoCardSaid : Prop := Claim7.holds Tryz.pinned (.plain (OpenSpec.upto cnfReadsSpec)) cnfReadsUptoCard

/-- THE SECOND FORM's CARD OF 'trestlelaw14.CnfForces'. -/
def cnfForcesUptoCard : Claim7 := { stood := { row := cnfForcesUptoRow, standIns := [], harness := (true, "296d0ae4c17eeeb53cebc40c3ea2c11900aff306c61a062694f7de8ffc3f6115"), looks := true }, kinds := [], alts := [], laidByText := true, laidKinds := [.data, .data, .data, .data, .sentinel, .sentinel, .pinned], laidTests := true, laidLooks := .later }
def CnfForcesUptoCardSaid : Prop := Claim7.holds Tryz.pinned (.plain (OpenSpec.upto cnfForcesSpec)) cnfForcesUptoCard

/-- THE SECOND FORM's CARD OF 'trestlelaw14.CnfModels'. -/
def cnfModelsUptoCard : Claim7 := { stood := { row := cnfModelsUptoRow, standIns := [], harness := (true, "296d0ae4c17eeeb53cebc40c3ea2c11900aff306c61a062694f7de8ffc3f6115"), looks := true }, kinds := [], alts := [], laidByText := true, laidKinds := [.data, .data, .data, .data, .sentinel, .sentinel, .pinned], laidTests := true, laidLooks := .later }
def CnfModelsUptoCardSaid : Prop := Claim7.holds Tryz.pinned (.plain (OpenSpec.upto cnfModelsSpec)) cnfModelsUptoCard

/-- THE SECOND FORM's CARD OF 'trestlelaw14.CnfLeast'. -/
def cnfLeastUptoCard : Claim7 := { stood := { row := cnfLeastUptoRow, standIns := [], harness := (true, "296d0ae4c17eeeb53cebc40c3ea2c11900aff306c61a062694f7de8ffc3f6115"), looks := true }, kinds := [], alts := [], laidByText := true, laidKinds := [.data, .data, .data, .data, .sentinel, .sentinel, .pinned], laidTests := true, laidLooks := .later }
def CnfLeastUptoCardSaid : Prop := Claim7.holds Tryz.pinned (.plain (OpenSpec.upto cnfLeastSpec)) cnfLeastUptoCard

/-- THE SECOND FORM's CARD OF 'trestlelaw14.CnfTexts'. -/
def cnfTextsUptoCard : Claim7 := { stood := { row := cnfTextsUptoRow, standIns := [], harness := (true, "296d0ae4c17eeeb53cebc40c3ea2c11900aff306c61a062694f7de8ffc3f6115"), looks := true }, kinds := [], alts := [], laidByText := true, laidKinds := [.data, .data, .data, .data, .sentinel, .sentinel, .pinned], laidTests := true, laidLooks := .later }
def CnfTextsUptoCardSaid : Prop := Claim7.holds Tryz.pinned (.plain (OpenSpec.upto cnfTextsSpec)) cnfTextsUptoCard

/-- THE SECOND FORM's CARD OF 'trestlelaw14.CnfMeans'. -/
def cnfMeansUptoCard : Claim7 := { stood := { row := cnfMeansUptoRow, standIns := [], harness := (true, "296d0ae4c17eeeb53cebc40c3ea2c11900aff306c61a062694f7de8ffc3f6115"), looks := true }, kinds := [], alts := [], laidByText := true, laidKinds := [.data, .data, .data, .data, .sentinel, .sentinel, .pinned], laidTests := true, laidLooks := .later }
def CnfMeansUptoCardSaid : Prop := Claim7.holds Tryz.pinned (.plain (OpenSpec.upto cnfMeansSpec)) cnfMeansUptoCard

/-- THE SECOND FORM's CARD OF 'trestlelaw14.CnfBack'. -/
def cnfBackUptoCard : Claim7 := { stood := { row := cnfBackUptoRow, standIns := [], harness := (true, "296d0ae4c17eeeb53cebc40c3ea2c11900aff306c61a062694f7de8ffc3f6115"), looks := true }, kinds := [], alts := [], laidByText := true, laidKinds := [.data, .data, .data, .data, .sentinel, .sentinel, .pinned], laidTests := true, laidLooks := .later }
def CnfBackUptoCardSaid : Prop := Claim7.holds Tryz.pinned (.plain (OpenSpec.upto cnfBackSpec)) cnfBackUptoCard

/-- THE SECOND FORM's CARD OF 'trestlelaw14.CnfJoins'. -/
def cnfJoinsUptoCard : Claim7 := { stood := { row := cnfJoinsUptoRow, standIns := [], harness := (true, "296d0ae4c17eeeb53cebc40c3ea2c11900aff306c61a062694f7de8ffc3f6115"), looks := true }, kinds := [], alts := [], laidByText := true, laidKinds := [.data, .data, .data, .data, .sentinel, .sentinel, .pinned], laidTests := true, laidLooks := .later }
def CnfJoinsUptoCardSaid : Prop := Claim7.holds Tryz.pinned (.plain (OpenSpec.upto cnfJoinsSpec)) cnfJoinsUptoCard

/-- THE SECOND FORM's CARD OF 'trestlelaw18.ProofBack'. -/
def proofBackUptoCard : Claim7 := { stood := { row := proofBackUptoRow, standIns := [], harness := (true, "296d0ae4c17eeeb53cebc40c3ea2c11900aff306c61a062694f7de8ffc3f6115"), looks := true }, kinds := [], alts := [], laidByText := true, laidKinds := [.data, .data, .data, .data, .sentinel, .sentinel, .pinned], laidTests := true, laidLooks := .later }
def ProofBackUptoCardSaid : Prop := Claim7.holds Tryz.pinned (.plain (OpenSpec.upto proofBackSpec)) proofBackUptoCard
end Rows
end Go.Proofs.YtobageabpfkpcaaGreatDoor
