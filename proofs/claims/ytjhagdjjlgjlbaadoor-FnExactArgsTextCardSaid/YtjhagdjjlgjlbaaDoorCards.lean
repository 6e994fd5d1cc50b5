/-
  DERIVED. GIVEN WITH THE SEED: THE CARDS: each row of YtjhagdjjlgjlbaaDoorRows.lean that lists a variable, with what it lists TIED to the program's text (the seventh form; the later family's looks); each row that meets fmt, with fmt's text TOLD by the authors' own Lean function (tested against real Go, not proved from fmt's source: count such statements apart). THE CARD IS WHAT COUNTS. Prove the row's statement (the work); the ties are given (YtjhagdjjlgjlbaaDoorTie.lean); close each card by the builder's one call (the guide's Derived/Test/ToyasCard.lean, 'card_holds'). Laid BY PROGRAM, IN A SANDBOX (cutbox-door.mjs). By AI agents, Wed Nov 11 2026. No macro, syntax, notation, axiom, sorry.
-/
import Derived.Test.YtjhagdjjlgjlbaaDoorRows
import GoSem.ClaimSeven
namespace Go.Proofs.YtjhagdjjlgjlbaaDoor
namespace Rows

/-- THE TIED CARD OF 'laws.FnExactTokenOk'. -/
def fnExactTokenOkCard : Claim7 := { stood := { row := fnExactTokenOkRow, standIns := [], harness := (true, "87c486163f7b28bb66976101a95f6ff38701e9e85f923a2d19945eebebacd50e"), looks := false }, kinds := [], alts := [], laidByText := true, laidKinds := [.data, .pinned], laidTests := true, laidLooks := .later }
def FnExactTokenOkCardSaid : Prop := Claim7.holds Tryd.pinned (.plain (OpenSpec.ofChange fnExactTokenOkSpec)) fnExactTokenOkCard

/-- THE TIED CARD OF 'laws.FnExactValueOk'. -/
def fnExactValueOkCard : Claim7 := { stood := { row := fnExactValueOkRow, standIns := [], harness := (true, "87c486163f7b28bb66976101a95f6ff38701e9e85f923a2d19945eebebacd50e"), looks := false }, kinds := [], alts := [], laidByText := true, laidKinds := [.data, .pinned], laidTests := true, laidLooks := .later }
def FnExactValueOkCardSaid : Prop := Claim7.holds Tryd.pinned (.plain (OpenSpec.ofChange fnExactValueOkSpec)) fnExactValueOkCard

/-- THE TIED CARD OF 'laws.FnExactArgsOk'. -/
def fnExactArgsOkCard : Claim7 := { stood := { row := fnExactArgsOkRow, standIns := [], harness := (true, "87c486163f7b28bb66976101a95f6ff38701e9e85f923a2d19945eebebacd50e"), looks := false }, kinds := [], alts := [], laidByText := true, laidKinds := [.data, .pinned], laidTests := true, laidLooks := .later }
def FnExactArgsOkCardSaid : Prop := Claim7.holds Tryd.pinned (.plain (OpenSpec.ofChange fnExactArgsOkSpec)) fnExactArgsOkCard

/-- THE TIED CARD OF 'laws.FnExactValueText'. -/
def fnExactValueTextCard : Claim7 := { stood := { row := fnExactValueTextRow, standIns := [], harness := (true, "87c486163f7b28bb66976101a95f6ff38701e9e85f923a2d19945eebebacd50e"), looks := false }, kinds := [], alts := [], laidByText := true, laidKinds := [.data, .pinned], laidTests := true, laidLooks := .later }
def FnExactValueTextCardSaid : Prop := Claim7.holds Tryd.pinned (.plain (OpenSpec.ofChange fnExactValueTextSpec)) fnExactValueTextCard

/-- THE TIED CARD OF 'laws.FnExactDirsOk'. -/
def fnExactDirsOkCard : Claim7 := { stood := { row := fnExactDirsOkRow, standIns := [], harness := (true, "87c486163f7b28bb66976101a95f6ff38701e9e85f923a2d19945eebebacd50e"), looks := false }, kinds := [], alts := [], laidByText := true, laidKinds := [.data, .pinned], laidTests := true, laidLooks := .later }
def FnExactDirsOkCardSaid : Prop := Claim7.holds Tryd.pinned (.plain (OpenSpec.ofChange fnExactDirsOkSpec)) fnExactDirsOkCard

/-- THE TIED CARD OF 'laws.FnExactArgsText'. -/
def fnExactArgsTextCard : Claim7 := { stood := { row := fnExactArgsTextRow, standIns := [], harness := (true, "87c486163f7b28bb66976101a95f6ff38701e9e85f923a2d19945eebebacd50e"), looks := false }, kinds := [], alts := [], laidByText := true, laidKinds := [.data, .pinned], laidTests := true, laidLooks := .later }
def FnExactArgsTextCardSaid : Prop := Claim7.holds Tryd.pinned (.plain (OpenSpec.ofChange fnExactArgsTextSpec)) fnExactArgsTextCard

/-- THE SECOND FORM's CARD OF 'laws.FnExactTokenOk'. -/
def fnExactTokenOkUptoCard : Claim7 := { stood := { row := fnExactTokenOkUptoRow, standIns := [], harness := (true, "87c486163f7b28bb66976101a95f6ff38701e9e85f923a2d19945eebebacd50e"), looks := false }, kinds := [], alts := [], laidByText := true, laidKinds := [.data, .pinned], laidTests := true, laidLooks := .later }
def FnExactTokenOkUptoCardSaid : Prop := Claim7.holds Tryd.pinned (.plain (OpenSpec.upto fnExactTokenOkSpec)) fnExactTokenOkUptoCard

/-- THE SECOND FORM's CARD OF 'laws.FnExactValueOk'. -/
def fnExactValueOkUptoCard : Claim7 := { stood := { row := fnExactValueOkUptoRow, standIns := [], harness := (true, "87c486163f7b28bb66976101a95f6ff38701e9e85f923a2d19945eebebacd50e"), looks := false }, kinds := [], alts := [], laidByText := true, laidKinds := [.data, .pinned], laidTests := true, laidLooks := .later }
def FnExactValueOkUptoCardSaid : Prop := Claim7.holds Tryd.pinned (.plain (OpenSpec.upto fnExactValueOkSpec)) fnExactValueOkUptoCard

/-- THE SECOND FORM's CARD OF 'laws.FnExactArgsOk'. -/
def fnExactArgsOkUptoCard : Claim7 := { stood := { row := fnExactArgsOkUptoRow, standIns := [], harness := (true, "87c486163f7b28bb66976101a95f6ff38701e9e85f923a2d19945eebebacd50e"), looks := false }, kinds := [], alts := [], laidByText := true, laidKinds := [.data, .pinned], laidTests := true, laidLooks := .later }
def FnExactArgsOkUptoCardSaid : Prop := Claim7.holds Tryd.pinned (.plain (OpenSpec.upto fnExactArgsOkSpec)) fnExactArgsOkUptoCard

/-- THE SECOND FORM's CARD OF 'laws.FnExactValueText'. -/
def fnExactValueTextUptoCard : Claim7 := { stood := { row := fnExactValueTextUptoRow, standIns := [], harness := (true, "87c486163f7b28bb66976101a95f6ff38701e9e85f923a2d19945eebebacd50e"), looks := false }, kinds := [], alts := [], laidByText := true, laidKinds := [.data, .pinned], laidTests := true, laidLooks := .later }
def FnExactValueTextUptoCardSaid : Prop := Claim7.holds Tryd.pinned (.plain (OpenSpec.upto fnExactValueTextSpec)) fnExactValueTextUptoCard

/-- THE SECOND FORM's CARD OF 'laws.FnExactDirsOk'. -/
def fnExactDirsOkUptoCard : Claim7 := { stood := { row := fnExactDirsOkUptoRow, standIns := [], harness := (true, "87c486163f7b28bb66976101a95f6ff38701e9e85f923a2d19945eebebacd50e"), looks := false }, kinds := [], alts := [], laidByText := true, laidKinds := [.data, .pinned], laidTests := true, laidLooks := .later }
def FnExactDirsOkUptoCardSaid : Prop := Claim7.holds Tryd.pinned (.plain (OpenSpec.upto fnExactDirsOkSpec)) fnExactDirsOkUptoCard

/-- THE SECOND FORM's CARD OF 'laws.FnExactArgsText'. -/
def fnExactArgsTextUptoCard : Claim7 := { stood := { row := fnExactArgsTextUptoRow, standIns := [], harness := (true, "87c486163f7b28bb66976101a95f6ff38701e9e85f923a2d19945eebebacd50e"), looks := false }, kinds := [], alts := [], laidByText := true, laidKinds := [.data, .pinned], laidTests := true, laidLooks := .later }
def FnExactArgsTextUptoCardSaid : Prop := Claim7.holds Tryd.pinned (.plain (OpenSpec.upto fnExactArgsTextSpec)) fnExactArgsTextUptoCard
end Rows
end Go.Proofs.YtjhagdjjlgjlbaaDoor
