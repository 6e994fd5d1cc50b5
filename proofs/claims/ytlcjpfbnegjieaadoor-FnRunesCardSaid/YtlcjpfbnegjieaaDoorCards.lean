/-
  DERIVED. GIVEN WITH THE SEED: THE CARDS: each row of YtlcjpfbnegjieaaDoorRows.lean that lists a variable, with what it lists TIED to the program's text (the seventh form; the later family's looks); each row that meets fmt, with fmt's text TOLD by the authors' own Lean function (tested against real Go, not proved from fmt's source: count such statements apart). THE CARD IS WHAT COUNTS. Prove the row's statement (the work); the ties are given (YtlcjpfbnegjieaaDoorTie.lean); close each card by the builder's one call (the guide's Derived/Test/ToyasCard.lean, 'card_holds'). Laid BY PROGRAM, IN A SANDBOX (cutbox-door.mjs). By AI agents, Wed Nov 11 2026. No macro, syntax, notation, axiom, sorry.
-/
import Derived.Test.YtlcjpfbnegjieaaDoorRows
import GoSem.ClaimSeven
namespace Go.Proofs.YtlcjpfbnegjieaaDoor
namespace Rows

/-- THE TIED CARD OF 'laws.FnExactRuneAt'. -/
def fnExactRuneAtCard : Claim7 := { stood := { row := fnExactRuneAtRow, standIns := [], harness := (true, "5c8b7573382d51a1499a4d389b6c335b1584ce04f4243130cff54ee0f9994f8e"), looks := false }, kinds := [], alts := [], laidByText := true, laidKinds := [.data, .pinned], laidTests := true, laidLooks := .later }
def FnExactRuneAtCardSaid : Prop := Claim7.holds Tryd.pinned (.plain (OpenSpec.ofChange fnExactRuneAtSpec)) fnExactRuneAtCard

/-- THE TIED CARD OF 'laws.FnExactTextOk'. -/
def fnExactTextOkCard : Claim7 := { stood := { row := fnExactTextOkRow, standIns := [], harness := (true, "5c8b7573382d51a1499a4d389b6c335b1584ce04f4243130cff54ee0f9994f8e"), looks := false }, kinds := [], alts := [], laidByText := true, laidKinds := [.data, .pinned], laidTests := true, laidLooks := .later }
def FnExactTextOkCardSaid : Prop := Claim7.holds Tryd.pinned (.plain (OpenSpec.ofChange fnExactTextOkSpec)) fnExactTextOkCard

/-- THE TIED CARD OF 'laws.FnExactRunesOf'. -/
def fnExactRunesOfCard : Claim7 := { stood := { row := fnExactRunesOfRow, standIns := [], harness := (true, "5c8b7573382d51a1499a4d389b6c335b1584ce04f4243130cff54ee0f9994f8e"), looks := false }, kinds := [], alts := [], laidByText := true, laidKinds := [.data, .pinned], laidTests := true, laidLooks := .later }
def FnExactRunesOfCardSaid : Prop := Claim7.holds Tryd.pinned (.plain (OpenSpec.ofChange fnExactRunesOfSpec)) fnExactRunesOfCard

/-- THE TIED CARD OF 'laws.FnRunes'. -/
def fnRunesCard : Claim7 := { stood := { row := fnRunesRow, standIns := [], harness := (true, "5c8b7573382d51a1499a4d389b6c335b1584ce04f4243130cff54ee0f9994f8e"), looks := false }, kinds := [], alts := [], laidByText := true, laidKinds := [.data, .pinned], laidTests := true, laidLooks := .later }
def FnRunesCardSaid : Prop := Claim7.holds Tryd.pinned (.plain (OpenSpec.ofChange fnRunesSpec)) fnRunesCard

/-- THE TIED CARD OF 'laws.FnExactEscaped'. -/
def fnExactEscapedCard : Claim7 := { stood := { row := fnExactEscapedRow, standIns := [], harness := (true, "5c8b7573382d51a1499a4d389b6c335b1584ce04f4243130cff54ee0f9994f8e"), looks := false }, kinds := [], alts := [], laidByText := true, laidKinds := [.data, .pinned], laidTests := true, laidLooks := .later }
def FnExactEscapedCardSaid : Prop := Claim7.holds Tryd.pinned (.plain (OpenSpec.ofChange fnExactEscapedSpec)) fnExactEscapedCard

/-- THE TIED CARD OF 'laws.FnExactUnescaped'. -/
def fnExactUnescapedCard : Claim7 := { stood := { row := fnExactUnescapedRow, standIns := [], harness := (true, "5c8b7573382d51a1499a4d389b6c335b1584ce04f4243130cff54ee0f9994f8e"), looks := false }, kinds := [], alts := [], laidByText := true, laidKinds := [.data, .pinned], laidTests := true, laidLooks := .later }
def FnExactUnescapedCardSaid : Prop := Claim7.holds Tryd.pinned (.plain (OpenSpec.ofChange fnExactUnescapedSpec)) fnExactUnescapedCard

/-- THE TIED CARD OF 'laws.FnStrings'. -/
def fnStringsCard : Claim7 := { stood := { row := fnStringsRow, standIns := [], harness := (true, "5c8b7573382d51a1499a4d389b6c335b1584ce04f4243130cff54ee0f9994f8e"), looks := false }, kinds := [], alts := [], laidByText := true, laidKinds := [.data, .pinned], laidTests := true, laidLooks := .later }
def FnStringsCardSaid : Prop := Claim7.holds Tryd.pinned (.plain (OpenSpec.ofChange fnStringsSpec)) fnStringsCard

/-- THE TIED CARD OF 'laws.FnExactTokenText'. -/
def fnExactTokenTextCard : Claim7 := { stood := { row := fnExactTokenTextRow, standIns := [], harness := (true, "5c8b7573382d51a1499a4d389b6c335b1584ce04f4243130cff54ee0f9994f8e"), looks := false }, kinds := [], alts := [], laidByText := true, laidKinds := [.data, .pinned], laidTests := true, laidLooks := .later }
def FnExactTokenTextCardSaid : Prop := Claim7.holds Tryd.pinned (.plain (OpenSpec.ofChange fnExactTokenTextSpec)) fnExactTokenTextCard

/-- THE SECOND FORM's CARD OF 'laws.FnExactRuneAt'. -/
def fnExactRuneAtUptoCard : Claim7 := { stood := { row := fnExactRuneAtUptoRow, standIns := [], harness := (true, "5c8b7573382d51a1499a4d389b6c335b1584ce04f4243130cff54ee0f9994f8e"), looks := false }, kinds := [], alts := [], laidByText := true, laidKinds := [.data, .pinned], laidTests := true, laidLooks := .later }
def FnExactRuneAtUptoCardSaid : Prop := Claim7.holds Tryd.pinned (.plain (OpenSpec.upto fnExactRuneAtSpec)) fnExactRuneAtUptoCard

/-- THE SECOND FORM's CARD OF 'laws.FnExactTextOk'. -/
def fnExactTextOkUptoCard : Claim7 := { stood := { row := fnExactTextOkUptoRow, standIns := [], harness := (true, "5c8b7573382d51a1499a4d389b6c335b1584ce04f4243130cff54ee0f9994f8e"), looks := false }, kinds := [], alts := [], laidByText := true, laidKinds := [.data, .pinned], laidTests := true, laidLooks := .later }
def FnExactTextOkUptoCardSaid : Prop := Claim7.holds Tryd.pinned (.plain (OpenSpec.upto fnExactTextOkSpec)) fnExactTextOkUptoCard

/-- THE SECOND FORM's CARD OF 'laws.FnExactRunesOf'. -/
def fnExactRunesOfUptoCard : Claim7 := { stood := { row := fnExactRunesOfUptoRow, standIns := [], harness := (true, "5c8b7573382d51a1499a4d389b6c335b1584ce04f4243130cff54ee0f9994f8e"), looks := false }, kinds := [], alts := [], laidByText := true, laidKinds := [.data, .pinned], laidTests := true, laidLooks := .later }
def FnExactRunesOfUptoCardSaid : Prop := Claim7.holds Tryd.pinned (.plain (OpenSpec.upto fnExactRunesOfSpec)) fnExactRunesOfUptoCard

/-- THE SECOND FORM's CARD OF 'laws.FnRunes'. -/
def fnRunesUptoCard : Claim7 := { stood := { row := fnRunesUptoRow, standIns := [], harness := (true, "5c8b7573382d51a1499a4d389b6c335b1584ce04f4243130cff54ee0f9994f8e"), looks := false }, kinds := [], alts := [], laidByText := true, laidKinds := [.data, .pinned], laidTests := true, laidLooks := .later }
def FnRunesUptoCardSaid : Prop := Claim7.holds Tryd.pinned (.plain (OpenSpec.upto fnRunesSpec)) fnRunesUptoCard

/-- THE SECOND FORM's CARD OF 'laws.FnExactEscaped'. -/
def fnExactEscapedUptoCard : Claim7 := { stood := { row := fnExactEscapedUptoRow, standIns := [], harness := (true, "5c8b7573382d51a1499a4d389b6c335b1584ce04f4243130cff54ee0f9994f8e"), looks := false }, kinds := [], alts := [], laidByText := true, laidKinds := [.data, .pinned], laidTests := true, laidLooks := .later }
def FnExactEscapedUptoCardSaid : Prop := Claim7.holds Tryd.pinned (.plain (OpenSpec.upto fnExactEscapedSpec)) fnExactEscapedUptoCard

/-- THE SECOND FORM's CARD OF 'laws.FnExactUnescaped'. -/
def fnExactUnescapedUptoCard : Claim7 := { stood := { row := fnExactUnescapedUptoRow, standIns := [], harness := (true, "5c8b7573382d51a1499a4d389b6c335b1584ce04f4243130cff54ee0f9994f8e"), looks := false }, kinds := [], alts := [], laidByText := true, laidKinds := [.data, .pinned], laidTests := true, laidLooks := .later }
def FnExactUnescapedUptoCardSaid : Prop := Claim7.holds Tryd.pinned (.plain (OpenSpec.upto fnExactUnescapedSpec)) fnExactUnescapedUptoCard

/-- THE SECOND FORM's CARD OF 'laws.FnStrings'. -/
def fnStringsUptoCard : Claim7 := { stood := { row := fnStringsUptoRow, standIns := [], harness := (true, "5c8b7573382d51a1499a4d389b6c335b1584ce04f4243130cff54ee0f9994f8e"), looks := false }, kinds := [], alts := [], laidByText := true, laidKinds := [.data, .pinned], laidTests := true, laidLooks := .later }
def FnStringsUptoCardSaid : Prop := Claim7.holds Tryd.pinned (.plain (OpenSpec.upto fnStringsSpec)) fnStringsUptoCard

/-- THE SECOND FORM's CARD OF 'laws.FnExactTokenText'. -/
def fnExactTokenTextUptoCard : Claim7 := { stood := { row := fnExactTokenTextUptoRow, standIns := [], harness := (true, "5c8b7573382d51a1499a4d389b6c335b1584ce04f4243130cff54ee0f9994f8e"), looks := false }, kinds := [], alts := [], laidByText := true, laidKinds := [.data, .pinned], laidTests := true, laidLooks := .later }
def FnExactTokenTextUptoCardSaid : Prop := Claim7.holds Tryd.pinned (.plain (OpenSpec.upto fnExactTokenTextSpec)) fnExactTokenTextUptoCard
end Rows
end Go.Proofs.YtlcjpfbnegjieaaDoor
