/-
  DERIVED. GIVEN WITH THE SEED: THE CARDS: each row of YtmbninphokgbpaaDoorRows.lean that lists a variable, with what it lists TIED to the program's text (the seventh form; the later family's looks); each row that meets fmt, with fmt's text TOLD by the authors' own Lean function (tested against real Go, not proved from fmt's source: count such statements apart). THE CARD IS WHAT COUNTS. Prove the row's statement (the work); the ties are given (YtmbninphokgbpaaDoorTie.lean); close each card by the builder's one call (the guide's Derived/Test/ToyasCard.lean, 'card_holds'). Laid BY PROGRAM, IN A SANDBOX (cutbox-door.mjs). By AI agents, Wed Nov 11 2026. No macro, syntax, notation, axiom, sorry.
-/
import Derived.Test.YtmbninphokgbpaaDoorRows
import GoSem.ClaimSeven
namespace Go.Proofs.YtmbninphokgbpaaDoor
namespace Rows

/-- THE TIED CARD OF 'laws.FnBlocks'. -/
def fnBlocksCard : Claim7 := { stood := { row := fnBlocksRow, standIns := [], harness := (true, "129060b3ac6f311759c99e23e94965338eb6019ac4cf6c83a5fc9026a6bbdcb9"), looks := false }, kinds := [], alts := [], laidByText := true, laidKinds := [.data, .pinned], laidTests := true, laidLooks := .later }
def FnBlocksCardSaid : Prop := Claim7.holds Tryd.pinned (.plain (OpenSpec.ofChange fnBlocksSpec)) fnBlocksCard

/-- THE TIED CARD OF 'laws.FnExactLinesIn'. -/
def fnExactLinesInCard : Claim7 := { stood := { row := fnExactLinesInRow, standIns := [], harness := (true, "129060b3ac6f311759c99e23e94965338eb6019ac4cf6c83a5fc9026a6bbdcb9"), looks := false }, kinds := [], alts := [], laidByText := true, laidKinds := [.data, .pinned], laidTests := true, laidLooks := .later }
def FnExactLinesInCardSaid : Prop := Claim7.holds Tryd.pinned (.plain (OpenSpec.ofChange fnExactLinesInSpec)) fnExactLinesInCard

/-- THE TIED CARD OF 'laws.FnExactBlockValue'. -/
def fnExactBlockValueCard : Claim7 := { stood := { row := fnExactBlockValueRow, standIns := [], harness := (true, "129060b3ac6f311759c99e23e94965338eb6019ac4cf6c83a5fc9026a6bbdcb9"), looks := false }, kinds := [], alts := [], laidByText := true, laidKinds := [.data, .pinned], laidTests := true, laidLooks := .later }
def FnExactBlockValueCardSaid : Prop := Claim7.holds Tryd.pinned (.plain (OpenSpec.ofChange fnExactBlockValueSpec)) fnExactBlockValueCard

/-- THE TIED CARD OF 'laws.FnExactBlockText'. -/
def fnExactBlockTextCard : Claim7 := { stood := { row := fnExactBlockTextRow, standIns := [], harness := (true, "129060b3ac6f311759c99e23e94965338eb6019ac4cf6c83a5fc9026a6bbdcb9"), looks := false }, kinds := [], alts := [], laidByText := true, laidKinds := [.data, .pinned], laidTests := true, laidLooks := .later }
def FnExactBlockTextCardSaid : Prop := Claim7.holds Tryd.pinned (.plain (OpenSpec.ofChange fnExactBlockTextSpec)) fnExactBlockTextCard

/-- THE TIED CARD OF 'laws.FnExactIndent'. -/
def fnExactIndentCard : Claim7 := { stood := { row := fnExactIndentRow, standIns := [], harness := (true, "129060b3ac6f311759c99e23e94965338eb6019ac4cf6c83a5fc9026a6bbdcb9"), looks := false }, kinds := [], alts := [], laidByText := true, laidKinds := [.data, .pinned], laidTests := true, laidLooks := .later }
def FnExactIndentCardSaid : Prop := Claim7.holds Tryd.pinned (.plain (OpenSpec.ofChange fnExactIndentSpec)) fnExactIndentCard

/-- THE SECOND FORM's CARD OF 'laws.FnBlocks'. -/
def fnBlocksUptoCard : Claim7 := { stood := { row := fnBlocksUptoRow, standIns := [], harness := (true, "129060b3ac6f311759c99e23e94965338eb6019ac4cf6c83a5fc9026a6bbdcb9"), looks := false }, kinds := [], alts := [], laidByText := true, laidKinds := [.data, .pinned], laidTests := true, laidLooks := .later }
def FnBlocksUptoCardSaid : Prop := Claim7.holds Tryd.pinned (.plain (OpenSpec.upto fnBlocksSpec)) fnBlocksUptoCard

/-- THE SECOND FORM's CARD OF 'laws.FnExactLinesIn'. -/
def fnExactLinesInUptoCard : Claim7 := { stood := { row := fnExactLinesInUptoRow, standIns := [], harness := (true, "129060b3ac6f311759c99e23e94965338eb6019ac4cf6c83a5fc9026a6bbdcb9"), looks := false }, kinds := [], alts := [], laidByText := true, laidKinds := [.data, .pinned], laidTests := true, laidLooks := .later }
def FnExactLinesInUptoCardSaid : Prop := Claim7.holds Tryd.pinned (.plain (OpenSpec.upto fnExactLinesInSpec)) fnExactLinesInUptoCard

/-- THE SECOND FORM's CARD OF 'laws.FnExactBlockValue'. -/
def fnExactBlockValueUptoCard : Claim7 := { stood := { row := fnExactBlockValueUptoRow, standIns := [], harness := (true, "129060b3ac6f311759c99e23e94965338eb6019ac4cf6c83a5fc9026a6bbdcb9"), looks := false }, kinds := [], alts := [], laidByText := true, laidKinds := [.data, .pinned], laidTests := true, laidLooks := .later }
def FnExactBlockValueUptoCardSaid : Prop := Claim7.holds Tryd.pinned (.plain (OpenSpec.upto fnExactBlockValueSpec)) fnExactBlockValueUptoCard

/-- THE SECOND FORM's CARD OF 'laws.FnExactBlockText'. -/
def fnExactBlockTextUptoCard : Claim7 := { stood := { row := fnExactBlockTextUptoRow, standIns := [], harness := (true, "129060b3ac6f311759c99e23e94965338eb6019ac4cf6c83a5fc9026a6bbdcb9"), looks := false }, kinds := [], alts := [], laidByText := true, laidKinds := [.data, .pinned], laidTests := true, laidLooks := .later }
def FnExactBlockTextUptoCardSaid : Prop := Claim7.holds Tryd.pinned (.plain (OpenSpec.upto fnExactBlockTextSpec)) fnExactBlockTextUptoCard

/-- THE SECOND FORM's CARD OF 'laws.FnExactIndent'. -/
def fnExactIndentUptoCard : Claim7 := { stood := { row := fnExactIndentUptoRow, standIns := [], harness := (true, "129060b3ac6f311759c99e23e94965338eb6019ac4cf6c83a5fc9026a6bbdcb9"), looks := false }, kinds := [], alts := [], laidByText := true, laidKinds := [.data, .pinned], laidTests := true, laidLooks := .later }
def FnExactIndentUptoCardSaid : Prop := Claim7.holds Tryd.pinned (.plain (OpenSpec.upto fnExactIndentSpec)) fnExactIndentUptoCard
end Rows
end Go.Proofs.YtmbninphokgbpaaDoor
