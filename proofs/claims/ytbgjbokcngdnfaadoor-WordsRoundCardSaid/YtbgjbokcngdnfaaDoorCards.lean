/-
  DERIVED. GIVEN WITH THE SEED: THE CARDS: each row of YtbgjbokcngdnfaaDoorRows.lean that lists a variable, with what it lists TIED to the program's text (the seventh form; the later family's looks); each row that meets fmt, with fmt's text TOLD by the authors' own Lean function (tested against real Go, not proved from fmt's source: count such statements apart). THE CARD IS WHAT COUNTS. Prove the row's statement (the work); the ties are given (YtbgjbokcngdnfaaDoorTie.lean); close each card by the builder's one call (the guide's Derived/Test/ToyasCard.lean, 'card_holds'). Laid BY PROGRAM, IN A SANDBOX (cutbox-door.mjs). By AI agents, Wed Nov 11 2026. No macro, syntax, notation, axiom, sorry.
-/
import Derived.Test.YtbgjbokcngdnfaaDoorRows
import GoSem.ClaimSeven
namespace Go.Proofs.YtbgjbokcngdnfaaDoor
namespace Rows

/-- THE TIED CARD OF 'trestlelaw02.WordsOnly'. -/
def wordsOnlyCard : Claim7 := { stood := { row := wordsOnlyRow, standIns := [], harness := (true, "9fe5ebb6f641ef269b751ba6717379cf5bfc60e7fe0abe6318737a3429bc040d"), looks := true }, kinds := [], alts := [], laidByText := true, laidKinds := [.data, .data, .data, .sentinel, .sentinel], laidTests := true, laidLooks := .later }
def WordsOnlyCardSaid : Prop := Claim7.holds Tryd.pinned (.plain (OpenSpec.ofChange wordsOnlySpec)) wordsOnlyCard

/-- THE TIED CARD OF 'trestlelaw02.WordsPairs'. -/
def wordsPairsCard : Claim7 := { stood := { row := wordsPairsRow, standIns := [], harness := (true, "9fe5ebb6f641ef269b751ba6717379cf5bfc60e7fe0abe6318737a3429bc040d"), looks := true }, kinds := [], alts := [], laidByText := true, laidKinds := [.data, .data, .data, .sentinel, .sentinel], laidTests := true, laidLooks := .later }
def WordsPairsCardSaid : Prop := Claim7.holds Tryd.pinned (.plain (OpenSpec.ofChange wordsPairsSpec)) wordsPairsCard

/-- THE TIED CARD OF 'trestlelaw02.WordsRows'. -/
def wordsRowsCard : Claim7 := { stood := { row := wordsRowsRow, standIns := [], harness := (true, "9fe5ebb6f641ef269b751ba6717379cf5bfc60e7fe0abe6318737a3429bc040d"), looks := true }, kinds := [], alts := [], laidByText := true, laidKinds := [.data, .data, .data, .sentinel, .sentinel], laidTests := true, laidLooks := .later }
def WordsRowsCardSaid : Prop := Claim7.holds Tryd.pinned (.plain (OpenSpec.ofChange wordsRowsSpec)) wordsRowsCard

/-- THE TIED CARD OF 'trestlelaw02.WordsNumbers'. -/
def wordsNumbersCard : Claim7 := { stood := { row := wordsNumbersRow, standIns := [], harness := (true, "9fe5ebb6f641ef269b751ba6717379cf5bfc60e7fe0abe6318737a3429bc040d"), looks := true }, kinds := [], alts := [], laidByText := true, laidKinds := [.data, .data, .data, .sentinel, .sentinel], laidTests := true, laidLooks := .later }
def WordsNumbersCardSaid : Prop := Claim7.holds Tryd.pinned (.plain (OpenSpec.ofChange wordsNumbersSpec)) wordsNumbersCard

/-- THE TIED CARD OF 'trestlelaw02.WordsTexts'. -/
def wordsTextsCard : Claim7 := { stood := { row := wordsTextsRow, standIns := [], harness := (true, "9fe5ebb6f641ef269b751ba6717379cf5bfc60e7fe0abe6318737a3429bc040d"), looks := true }, kinds := [], alts := [], laidByText := true, laidKinds := [.data, .data, .data, .sentinel, .sentinel], laidTests := true, laidLooks := .later }
def WordsTextsCardSaid : Prop := Claim7.holds Tryd.pinned (.plain (OpenSpec.ofChange wordsTextsSpec)) wordsTextsCard

/-- THE TIED CARD OF 'trestlelaw02.WordsBack'. -/
def wordsBackCard : Claim7 := { stood := { row := wordsBackRow, standIns := [], harness := (true, "9fe5ebb6f641ef269b751ba6717379cf5bfc60e7fe0abe6318737a3429bc040d"), looks := true }, kinds := [], alts := [], laidByText := true, laidKinds := [.data, .data, .data, .sentinel, .sentinel], laidTests := true, laidLooks := .later }
def WordsBackCardSaid : Prop := Claim7.holds Tryd.pinned (.plain (OpenSpec.ofChange wordsBackSpec)) wordsBackCard

/-- THE TIED CARD OF 'trestlelaw02.WordsShifts'. -/
def wordsShiftsCard : Claim7 := { stood := { row := wordsShiftsRow, standIns := [], harness := (true, "9fe5ebb6f641ef269b751ba6717379cf5bfc60e7fe0abe6318737a3429bc040d"), looks := true }, kinds := [], alts := [], laidByText := true, laidKinds := [.data, .data, .data, .sentinel, .sentinel], laidTests := true, laidLooks := .later }
def WordsShiftsCardSaid : Prop := Claim7.holds Tryd.pinned (.plain (OpenSpec.ofChange wordsShiftsSpec)) wordsShiftsCard

/-- THE TIED CARD OF 'trestlelaw02.WordsTwice'. -/
def wordsTwiceCard : Claim7 := { stood := { row := wordsTwiceRow, standIns := [], harness := (true, "9fe5ebb6f641ef269b751ba6717379cf5bfc60e7fe0abe6318737a3429bc040d"), looks := true }, kinds := [], alts := [], laidByText := true, laidKinds := [.data, .data, .data, .sentinel, .sentinel], laidTests := true, laidLooks := .later }
def WordsTwiceCardSaid : Prop := Claim7.holds Tryd.pinned (.plain (OpenSpec.ofChange wordsTwiceSpec)) wordsTwiceCard

/-- THE TIED CARD OF 'trestlelaw02.WordsRound'. -/
def wordsRoundCard : Claim7 := { stood := { row := wordsRoundRow, standIns := [], harness := (true, "9fe5ebb6f641ef269b751ba6717379cf5bfc60e7fe0abe6318737a3429bc040d"), looks := true }, kinds := [], alts := [], laidByText := true, laidKinds := [.data, .data, .data, .sentinel, .sentinel], laidTests := true, laidLooks := .later }
def WordsRoundCardSaid : Prop := Claim7.holds Tryd.pinned (.plain (OpenSpec.ofChange wordsRoundSpec)) wordsRoundCard

/-- THE SECOND FORM's CARD OF 'trestlelaw02.WordsOnly'. -/
def wordsOnlyUptoCard : Claim7 := { stood := { row := wordsOnlyUptoRow, standIns := [], harness := (true, "9fe5ebb6f641ef269b751ba6717379cf5bfc60e7fe0abe6318737a3429bc040d"), looks := true }, kinds := [], alts := [], laidByText := true, laidKinds := [.data, .data, .data, .sentinel, .sentinel], laidTests := true, laidLooks := .later }
def WordsOnlyUptoCardSaid : Prop := Claim7.holds Tryd.pinned (.plain (OpenSpec.upto wordsOnlySpec)) wordsOnlyUptoCard

/-- THE SECOND FORM's CARD OF 'trestlelaw02.WordsPairs'. -/
def wordsPairsUptoCard : Claim7 := { stood := { row := wordsPairsUptoRow, standIns := [], harness := (true, "9fe5ebb6f641ef269b751ba6717379cf5bfc60e7fe0abe6318737a3429bc040d"), looks := true }, kinds := [], alts := [], laidByText := true, laidKinds := [.data, .data, .data, .sentinel, .sentinel], laidTests := true, laidLooks := .later }
def WordsPairsUptoCardSaid : Prop := Claim7.holds Tryd.pinned (.plain (OpenSpec.upto wordsPairsSpec)) wordsPairsUptoCard

/-- THE SECOND FORM's CARD OF 'trestlelaw02.WordsRows'. -/
def wordsRowsUptoCard : Claim7 := { stood := { row := wordsRowsUptoRow, standIns := [], harness := (true, "9fe5ebb6f641ef269b751ba6717379cf5bfc60e7fe0abe6318737a3429bc040d"), looks := true }, kinds := [], alts := [], laidByText := true, laidKinds := [.data, .data, .data, .sentinel, .sentinel], laidTests := true, laidLooks := .later }
def WordsRowsUptoCardSaid : Prop := Claim7.holds Tryd.pinned (.plain (OpenSpec.upto wordsRowsSpec)) wordsRowsUptoCard

/-- THE SECOND FORM's CARD OF 'trestlelaw02.WordsNumbers'. -/
def wordsNumbersUptoCard : Claim7 := { stood := { row := wordsNumbersUptoRow, standIns := [], harness := (true, "9fe5ebb6f641ef269b751ba6717379cf5bfc60e7fe0abe6318737a3429bc040d"), looks := true }, kinds := [], alts := [], laidByText := true, laidKinds := [.data, .data, .data, .sentinel, .sentinel], laidTests := true, laidLooks := .later }
def WordsNumbersUptoCardSaid : Prop := Claim7.holds Tryd.pinned (.plain (OpenSpec.upto wordsNumbersSpec)) wordsNumbersUptoCard

/-- THE SECOND FORM's CARD OF 'trestlelaw02.WordsTexts'. -/
def wordsTextsUptoCard : Claim7 := { stood := { row := wordsTextsUptoRow, standIns := [], harness := (true, "9fe5ebb6f641ef269b751ba6717379cf5bfc60e7fe0abe6318737a3429bc040d"), looks := true }, kinds := [], alts := [], laidByText := true, laidKinds := [.data, .data, .data, .sentinel, .sentinel], laidTests := true, laidLooks := .later }
def WordsTextsUptoCardSaid : Prop := Claim7.holds Tryd.pinned (.plain (OpenSpec.upto wordsTextsSpec)) wordsTextsUptoCard

/-- THE SECOND FORM's CARD OF 'trestlelaw02.WordsBack'. -/
def wordsBackUptoCard : Claim7 := { stood := { row := wordsBackUptoRow, standIns := [], harness := (true, "9fe5ebb6f641ef269b751ba6717379cf5bfc60e7fe0abe6318737a3429bc040d"), looks := true }, kinds := [], alts := [], laidByText := true, laidKinds := [.data, .data, .data, .sentinel, .sentinel], laidTests := true, laidLooks := .later }
def WordsBackUptoCardSaid : Prop := Claim7.holds Tryd.pinned (.plain (OpenSpec.upto wordsBackSpec)) wordsBackUptoCard

/-- THE SECOND FORM's CARD OF 'trestlelaw02.WordsShifts'. -/
def wordsShiftsUptoCard : Claim7 := { stood := { row := wordsShiftsUptoRow, standIns := [], harness := (true, "9fe5ebb6f641ef269b751ba6717379cf5bfc60e7fe0abe6318737a3429bc040d"), looks := true }, kinds := [], alts := [], laidByText := true, laidKinds := [.data, .data, .data, .sentinel, .sentinel], laidTests := true, laidLooks := .later }
def WordsShiftsUptoCardSaid : Prop := Claim7.holds Tryd.pinned (.plain (OpenSpec.upto wordsShiftsSpec)) wordsShiftsUptoCard

/-- THE SECOND FORM's CARD OF 'trestlelaw02.WordsTwice'. -/
def wordsTwiceUptoCard : Claim7 := { stood := { row := wordsTwiceUptoRow, standIns := [], harness := (true, "9fe5ebb6f641ef269b751ba6717379cf5bfc60e7fe0abe6318737a3429bc040d"), looks := true }, kinds := [], alts := [], laidByText := true, laidKinds := [.data, .data, .data, .sentinel, .sentinel], laidTests := true, laidLooks := .later }
def WordsTwiceUptoCardSaid : Prop := Claim7.holds Tryd.pinned (.plain (OpenSpec.upto wordsTwiceSpec)) wordsTwiceUptoCard

/-- THE SECOND FORM's CARD OF 'trestlelaw02.WordsRound'. -/
def wordsRoundUptoCard : Claim7 := { stood := { row := wordsRoundUptoRow, standIns := [], harness := (true, "9fe5ebb6f641ef269b751ba6717379cf5bfc60e7fe0abe6318737a3429bc040d"), looks := true }, kinds := [], alts := [], laidByText := true, laidKinds := [.data, .data, .data, .sentinel, .sentinel], laidTests := true, laidLooks := .later }
def WordsRoundUptoCardSaid : Prop := Claim7.holds Tryd.pinned (.plain (OpenSpec.upto wordsRoundSpec)) wordsRoundUptoCard
end Rows
end Go.Proofs.YtbgjbokcngdnfaaDoor
