/-
  DERIVED. GIVEN WITH THE SEED: THE CARDS: each row of YthfdcillieddeaaDoorRows.lean that lists a variable, with what it lists TIED to the program's text (the seventh form; the later family's looks); each row that meets fmt, with fmt's text TOLD by the authors' own Lean function (tested against real Go, not proved from fmt's source: count such statements apart). THE CARD IS WHAT COUNTS. Prove the row's statement (the work); the ties are given (YthfdcillieddeaaDoorTie.lean); close each card by the builder's one call (the guide's Derived/Test/ToyasCard.lean, 'card_holds'). Laid BY PROGRAM, IN A SANDBOX (cutbox-door.mjs). By AI agents, Wed Nov 11 2026. No macro, syntax, notation, axiom, sorry.
-/
import Derived.Test.YthfdcillieddeaaDoorRows
import GoSem.ClaimSeven
namespace Go.Proofs.YthfdcillieddeaaDoor
namespace Rows

/-- THE TIED CARD OF 'laws.FnExactTokenOk'. -/
def fnExactTokenOkCard : Claim7 := { stood := { row := fnExactTokenOkRow, standIns := [], harness := (true, "aaa6cd3f8f1c16282b1fae26e431e1527ad43b1bc5778c3ecca5fec61783bc91"), looks := false }, kinds := [], alts := [], laidByText := true, laidKinds := [.data, .pinned], laidTests := true, laidLooks := .later }
def FnExactTokenOkCardSaid : Prop := Claim7.holds Tryd.pinned (.plain (OpenSpec.ofChange fnExactTokenOkSpec)) fnExactTokenOkCard

/-- THE SECOND FORM's CARD OF 'laws.FnExactTokenOk'. -/
def fnExactTokenOkUptoCard : Claim7 := { stood := { row := fnExactTokenOkUptoRow, standIns := [], harness := (true, "aaa6cd3f8f1c16282b1fae26e431e1527ad43b1bc5778c3ecca5fec61783bc91"), looks := false }, kinds := [], alts := [], laidByText := true, laidKinds := [.data, .pinned], laidTests := true, laidLooks := .later }
def FnExactTokenOkUptoCardSaid : Prop := Claim7.holds Tryd.pinned (.plain (OpenSpec.upto fnExactTokenOkSpec)) fnExactTokenOkUptoCard
end Rows
end Go.Proofs.YthfdcillieddeaaDoor
