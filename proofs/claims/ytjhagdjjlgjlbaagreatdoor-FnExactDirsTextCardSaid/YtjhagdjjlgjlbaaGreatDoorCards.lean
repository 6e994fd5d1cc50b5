/-
  DERIVED. GIVEN WITH THE SEED: THE CARDS: each row of YtjhagdjjlgjlbaaGreatDoorRows.lean that lists a variable, with what it lists TIED to the program's text (the seventh form; the later family's looks); each row that meets fmt, with fmt's text TOLD by the authors' own Lean function (tested against real Go, not proved from fmt's source: count such statements apart). THE CARD IS WHAT COUNTS. Prove the row's statement (the work); the ties are given (YtjhagdjjlgjlbaaGreatDoorTie.lean); close each card by the builder's one call (the guide's Derived/Test/ToyasCard.lean, 'card_holds'). Laid BY PROGRAM, IN A SANDBOX (cutbox-door.mjs). By AI agents, Wed Nov 11 2026. No macro, syntax, notation, axiom, sorry.
-/
import Derived.Test.YtjhagdjjlgjlbaaGreatDoorRows
import GoSem.ClaimSeven
namespace Go.Proofs.YtjhagdjjlgjlbaaGreatDoor
namespace Rows

/-- THE TIED CARD OF 'laws.FnExactDirsText'. -/
def fnExactDirsTextCard : Claim7 := { stood := { row := fnExactDirsTextRow, standIns := [], harness := (true, "6e66f22aa0bf4cdd82eac72960f1cb09034c5106f6ba829ac14a003741146dac"), looks := false }, kinds := [], alts := [], laidByText := true, laidKinds := [.data, .pinned], laidTests := true, laidLooks := .later }
def FnExactDirsTextCardSaid : Prop := Claim7.holds Tryz.pinned (.plain (OpenSpec.ofChange fnExactDirsTextSpec)) fnExactDirsTextCard

/-- THE SECOND FORM's CARD OF 'laws.FnExactDirsText'. -/
def fnExactDirsTextUptoCard : Claim7 := { stood := { row := fnExactDirsTextUptoRow, standIns := [], harness := (true, "6e66f22aa0bf4cdd82eac72960f1cb09034c5106f6ba829ac14a003741146dac"), looks := false }, kinds := [], alts := [], laidByText := true, laidKinds := [.data, .pinned], laidTests := true, laidLooks := .later }
def FnExactDirsTextUptoCardSaid : Prop := Claim7.holds Tryz.pinned (.plain (OpenSpec.upto fnExactDirsTextSpec)) fnExactDirsTextUptoCard
end Rows
end Go.Proofs.YtjhagdjjlgjlbaaGreatDoor
