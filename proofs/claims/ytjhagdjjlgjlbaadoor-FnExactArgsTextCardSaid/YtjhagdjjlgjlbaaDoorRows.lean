/-
  NARROWER THAN 'FOR EVERY INPUT', by the rows' own cells (each row's printed sentence says how): FnExactTokenOk: laid · FnExactValueOk: loops, laid · FnExactArgsOk: loops, laid · FnExactValueText: loops, laid · FnExactDirsOk: loops, laid · FnExactArgsText: loops, laid.
  DERIVED. THE GIVEN ROWS OF THIS SEAT. 6 by the template 'for every input the law returns true; each argument reads behind the call as it read before'; 0 by the template 'total and deterministic' (their statements: YtjhagdjjlgjlbaaDoorTotals.lean).
  GIVEN WITH THE SEED: the statements are not yours to turn. If you find one false, say at which input.
  Laid BY PROGRAM, IN A SANDBOX (cutbox-rows.mjs): the forced cells as the released guide's own fill.sh prints them over the translation a1710f0c525aeeef… (all of the seat's roots in one cut). By AI agents, Wed Nov 11 2026. No macro, syntax, notation, axiom, sorry.
-/
import Derived.Test.YtjhagdjjlgjlbaaDoorChecked
import GoSem.PinnedTables
import GoSem.Claim
import GoSem.ClaimJoined
import GoSem.ClaimMapViews
import Derived.JoinedTies
import Derived.KernelRfl
namespace Go.Proofs.YtjhagdjjlgjlbaaDoor
/- THE CELL 'sum', in the pinned program and in every row, IS THE sha256 OF THE DUMP (.gsa) THAT YtjhagdjjlgjlbaaDoorProg.lean LOADS. Nothing in Lean hashes anything: it is a label: what it is worth is what the hold of that sum in a sandbox is worth. -/
noncomputable def Tryd.pinned : Pinned := { name := "ytjhagdjjlgjlbaadoor", sum := "a1710f0c525aeeefc664632679fb27bc0d31f4c3f6fca22aa2499aa354a19764", checked := Tryd.checked }
namespace Rows
def none {H : Type} : Left H := { results := [], args := [] }

/- WHAT THE LISTED PACKAGE-LEVEL VARIABLES READ AS WHEN THE CALL BEGINS. Each datum BY PROGRAM (the guide's laid-datum.mjs) off the statement by which the dump's own 'gosem.cut.vars' lays the variable. In a bare row this is a premise. The card (YtjhagdjjlgjlbaaDoorCards.lean) ties it to the program's text. -/
def laid_unicode_utf8_acceptRanges {H : Type} : DataW H := .agg [.agg [.lit (.int .u8 128), .lit (.int .u8 191)], .agg [.lit (.int .u8 160), .lit (.int .u8 191)], .agg [.lit (.int .u8 128), .lit (.int .u8 159)], .agg [.lit (.int .u8 144), .lit (.int .u8 191)], .agg [.lit (.int .u8 128), .lit (.int .u8 143)], .agg [.lit (.int .u8 0), .lit (.int .u8 0)], .agg [.lit (.int .u8 0), .lit (.int .u8 0)], .agg [.lit (.int .u8 0), .lit (.int .u8 0)], .agg [.lit (.int .u8 0), .lit (.int .u8 0)], .agg [.lit (.int .u8 0), .lit (.int .u8 0)], .agg [.lit (.int .u8 0), .lit (.int .u8 0)], .agg [.lit (.int .u8 0), .lit (.int .u8 0)], .agg [.lit (.int .u8 0), .lit (.int .u8 0)], .agg [.lit (.int .u8 0), .lit (.int .u8 0)], .agg [.lit (.int .u8 0), .lit (.int .u8 0)], .agg [.lit (.int .u8 0), .lit (.int .u8 0)]]
/-- One of Go's own tables, pinned by name: the form's constant. -/
def laid_unicode_utf8_first : DataW Unit := Go.Pinned.utf8First

/-- 'laws.FnExactTokenOk': WHATEVER THE INPUT: true; the input reads as it did. -/
def fnExactTokenOkSpec : ChangeSpec := { name := "fnExactTokenOk", fn := fun _ => fun
  | [d] => { results := [.lit (.bool true)], args := [d] }
  | _ => none }
def fnExactTokenOkRow : OpenClaim := { program := "ytjhagdjjlgjlbaadoor", sum := "a1710f0c525aeeefc664632679fb27bc0d31f4c3f6fca22aa2499aa354a19764", func := "loop.example/g00964/laws.FnExactTokenOk", spec := "fnExactTokenOk", inPlace := ["internal/bytealg.IndexByteString", "internal/bytealg.IndexString"], named := ["internal/bytealg.MaxLen", "unicode/utf8.first", "unicode/utf8.acceptRanges"], apart := false, laid := [("unicode/utf8.acceptRanges", laid_unicode_utf8_acceptRanges), ("unicode/utf8.first", laid_unicode_utf8_first)] }
def FnExactTokenOkSaid : Prop := fnExactTokenOkRow.holds Tryd.pinned (OpenSpec.ofChange fnExactTokenOkSpec)

/-- ITS FALSE NEIGHBOUR: 'it returns false'. Refute it at one input. -/
def fnExactTokenOkWrong : ChangeSpec := { name := "fnExactTokenOk", fn := fun _ => fun
  | [d] => { results := [.lit (.bool false)], args := [d] }
  | _ => none }
def FnExactTokenOkWrongFalsely : Prop := fnExactTokenOkRow.holds Tryd.pinned (OpenSpec.ofChange fnExactTokenOkWrong)

/-- 'laws.FnExactValueOk': WHATEVER THE INPUT: true; the input reads as it did. -/
def fnExactValueOkSpec : ChangeSpec := { name := "fnExactValueOk", fn := fun _ => fun
  | [d] => { results := [.lit (.bool true)], args := [d] }
  | _ => none }
def fnExactValueOkRow : OpenClaim := { program := "ytjhagdjjlgjlbaadoor", sum := "a1710f0c525aeeefc664632679fb27bc0d31f4c3f6fca22aa2499aa354a19764", func := "loop.example/g00964/laws.FnExactValueOk", spec := "fnExactValueOk", inPlace := ["internal/bytealg.IndexByteString", "internal/bytealg.IndexString"], unfollowed := true, recurses := true, named := ["internal/bytealg.MaxLen", "unicode/utf8.first", "unicode/utf8.acceptRanges"], loops := true, apart := false, laid := [("unicode/utf8.acceptRanges", laid_unicode_utf8_acceptRanges), ("unicode/utf8.first", laid_unicode_utf8_first)] }
def FnExactValueOkSaid : Prop := fnExactValueOkRow.holds Tryd.pinned (OpenSpec.ofChange fnExactValueOkSpec)

/-- ITS FALSE NEIGHBOUR: 'it returns false'. Refute it at one input. -/
def fnExactValueOkWrong : ChangeSpec := { name := "fnExactValueOk", fn := fun _ => fun
  | [d] => { results := [.lit (.bool false)], args := [d] }
  | _ => none }
def FnExactValueOkWrongFalsely : Prop := fnExactValueOkRow.holds Tryd.pinned (OpenSpec.ofChange fnExactValueOkWrong)

/-- 'laws.FnExactArgsOk': WHATEVER THE INPUT: true; the input reads as it did. -/
def fnExactArgsOkSpec : ChangeSpec := { name := "fnExactArgsOk", fn := fun _ => fun
  | [d] => { results := [.lit (.bool true)], args := [d] }
  | _ => none }
def fnExactArgsOkRow : OpenClaim := { program := "ytjhagdjjlgjlbaadoor", sum := "a1710f0c525aeeefc664632679fb27bc0d31f4c3f6fca22aa2499aa354a19764", func := "loop.example/g00964/laws.FnExactArgsOk", spec := "fnExactArgsOk", inPlace := ["internal/bytealg.IndexByteString", "internal/bytealg.IndexString"], unfollowed := true, recurses := true, named := ["internal/bytealg.MaxLen", "unicode/utf8.first", "unicode/utf8.acceptRanges"], loops := true, apart := false, laid := [("unicode/utf8.acceptRanges", laid_unicode_utf8_acceptRanges), ("unicode/utf8.first", laid_unicode_utf8_first)] }
def FnExactArgsOkSaid : Prop := fnExactArgsOkRow.holds Tryd.pinned (OpenSpec.ofChange fnExactArgsOkSpec)

/-- ITS FALSE NEIGHBOUR: 'it returns false'. Refute it at one input. -/
def fnExactArgsOkWrong : ChangeSpec := { name := "fnExactArgsOk", fn := fun _ => fun
  | [d] => { results := [.lit (.bool false)], args := [d] }
  | _ => none }
def FnExactArgsOkWrongFalsely : Prop := fnExactArgsOkRow.holds Tryd.pinned (OpenSpec.ofChange fnExactArgsOkWrong)

/-- 'laws.FnExactValueText': WHATEVER THE INPUT: true; the input reads as it did. -/
def fnExactValueTextSpec : ChangeSpec := { name := "fnExactValueText", fn := fun _ => fun
  | [d] => { results := [.lit (.bool true)], args := [d] }
  | _ => none }
def fnExactValueTextRow : OpenClaim := { program := "ytjhagdjjlgjlbaadoor", sum := "a1710f0c525aeeefc664632679fb27bc0d31f4c3f6fca22aa2499aa354a19764", func := "loop.example/g00964/laws.FnExactValueText", spec := "fnExactValueText", inPlace := ["internal/bytealg.IndexByteString", "internal/bytealg.IndexString", "internal/abi.NoEscape", "internal/bytealg.MakeNoZero"], unfollowed := true, recurses := true, named := ["internal/bytealg.MaxLen", "unicode/utf8.first", "unicode/utf8.acceptRanges"], loops := true, apart := false, laid := [("unicode/utf8.acceptRanges", laid_unicode_utf8_acceptRanges), ("unicode/utf8.first", laid_unicode_utf8_first)] }
def FnExactValueTextSaid : Prop := fnExactValueTextRow.holds Tryd.pinned (OpenSpec.ofChange fnExactValueTextSpec)

/-- ITS FALSE NEIGHBOUR: 'it returns false'. Refute it at one input. -/
def fnExactValueTextWrong : ChangeSpec := { name := "fnExactValueText", fn := fun _ => fun
  | [d] => { results := [.lit (.bool false)], args := [d] }
  | _ => none }
def FnExactValueTextWrongFalsely : Prop := fnExactValueTextRow.holds Tryd.pinned (OpenSpec.ofChange fnExactValueTextWrong)

/-- 'laws.FnExactDirsOk': WHATEVER THE INPUT: true; the input reads as it did. -/
def fnExactDirsOkSpec : ChangeSpec := { name := "fnExactDirsOk", fn := fun _ => fun
  | [d] => { results := [.lit (.bool true)], args := [d] }
  | _ => none }
def fnExactDirsOkRow : OpenClaim := { program := "ytjhagdjjlgjlbaadoor", sum := "a1710f0c525aeeefc664632679fb27bc0d31f4c3f6fca22aa2499aa354a19764", func := "loop.example/g00964/laws.FnExactDirsOk", spec := "fnExactDirsOk", inPlace := ["internal/bytealg.IndexByteString", "internal/bytealg.IndexString"], unfollowed := true, recurses := true, named := ["internal/bytealg.MaxLen", "unicode/utf8.first", "unicode/utf8.acceptRanges"], loops := true, apart := false, laid := [("unicode/utf8.acceptRanges", laid_unicode_utf8_acceptRanges), ("unicode/utf8.first", laid_unicode_utf8_first)] }
def FnExactDirsOkSaid : Prop := fnExactDirsOkRow.holds Tryd.pinned (OpenSpec.ofChange fnExactDirsOkSpec)

/-- ITS FALSE NEIGHBOUR: 'it returns false'. Refute it at one input. -/
def fnExactDirsOkWrong : ChangeSpec := { name := "fnExactDirsOk", fn := fun _ => fun
  | [d] => { results := [.lit (.bool false)], args := [d] }
  | _ => none }
def FnExactDirsOkWrongFalsely : Prop := fnExactDirsOkRow.holds Tryd.pinned (OpenSpec.ofChange fnExactDirsOkWrong)

/-- 'laws.FnExactArgsText': WHATEVER THE INPUT: true; the input reads as it did. -/
def fnExactArgsTextSpec : ChangeSpec := { name := "fnExactArgsText", fn := fun _ => fun
  | [d] => { results := [.lit (.bool true)], args := [d] }
  | _ => none }
def fnExactArgsTextRow : OpenClaim := { program := "ytjhagdjjlgjlbaadoor", sum := "a1710f0c525aeeefc664632679fb27bc0d31f4c3f6fca22aa2499aa354a19764", func := "loop.example/g00964/laws.FnExactArgsText", spec := "fnExactArgsText", inPlace := ["internal/bytealg.IndexByteString", "internal/bytealg.IndexString", "internal/abi.NoEscape", "internal/bytealg.MakeNoZero"], unfollowed := true, recurses := true, named := ["internal/bytealg.MaxLen", "unicode/utf8.first", "unicode/utf8.acceptRanges"], loops := true, apart := false, laid := [("unicode/utf8.acceptRanges", laid_unicode_utf8_acceptRanges), ("unicode/utf8.first", laid_unicode_utf8_first)] }
def FnExactArgsTextSaid : Prop := fnExactArgsTextRow.holds Tryd.pinned (OpenSpec.ofChange fnExactArgsTextSpec)

/-- ITS FALSE NEIGHBOUR: 'it returns false'. Refute it at one input. -/
def fnExactArgsTextWrong : ChangeSpec := { name := "fnExactArgsText", fn := fun _ => fun
  | [d] => { results := [.lit (.bool false)], args := [d] }
  | _ => none }
def FnExactArgsTextWrongFalsely : Prop := fnExactArgsTextRow.holds Tryd.pinned (OpenSpec.ofChange fnExactArgsTextWrong)

/- THE SECOND FORM. 'bulk': how many values and letters a reading holds, each counted each time it is reached (what is shared counts as often as it is met; a slice's spare places count too). A statement '..UptoSaid' is the law's where the arguments, and the package variables that the reading takes, are together of bulk at most 1048576: NARROWER than '..Said'. Prove '..Said' where nothing that the law and all that it calls make is longer than what came in: it says more and counts as full. Else prove '..UptoSaid'. A law counts once. -/
mutual
def uptoBulk {H : Type} : DataW H → Nat
  | .lit (.string bytes) => bytes.length + 1
  | .lit _ => 1
  | .nil => 1
  | .ptr d => uptoBulk d + 1
  | .slice elems spare => uptoBulkAll elems + uptoBulkAll spare + 1
  | .agg parts => uptoBulkAll parts + 1
  | .iface _ d => uptoBulk d + 1
  | .map entries => uptoBulkEntries entries + 1
  | .held _ => 1
def uptoBulkAll {H : Type} : List (DataW H) → Nat
  | [] => 0
  | d :: r => uptoBulk d + uptoBulkAll r
def uptoBulkEntries {H : Type} : List (Lit × DataW H) → Nat
  | [] => 0
  | x :: r => uptoBulkEntry x + uptoBulkEntries r
def uptoBulkEntry {H : Type} : Lit × DataW H → Nat
  | (.string bytes, d) => bytes.length + uptoBulk d + 1
  | (_, d) => uptoBulk d + 1
 end
def uptoSmall : (H : Type) → List (DataW H) → Bool := fun _ ds => decide (uptoBulkAll ds ≤ 1048576)
def OpenSpec.upto (s : _root_.Go.ChangeSpec) : _root_.Go.OpenSpec := { _root_.Go.OpenSpec.ofChange s with cond := some uptoSmall }

/-- 'laws.FnExactTokenOk', WHERE WHAT IT READS IS OF BULK AT MOST 1048576: true; the input reads as it did. -/
def fnExactTokenOkUptoRow : OpenClaim := { program := "ytjhagdjjlgjlbaadoor", sum := "a1710f0c525aeeefc664632679fb27bc0d31f4c3f6fca22aa2499aa354a19764", func := "loop.example/g00964/laws.FnExactTokenOk", spec := "fnExactTokenOk", inPlace := ["internal/bytealg.IndexByteString", "internal/bytealg.IndexString"], named := ["internal/bytealg.MaxLen", "unicode/utf8.first", "unicode/utf8.acceptRanges"], apart := false, laid := [("unicode/utf8.acceptRanges", laid_unicode_utf8_acceptRanges), ("unicode/utf8.first", laid_unicode_utf8_first)], narrowed := true }
def FnExactTokenOkUptoSaid : Prop := fnExactTokenOkUptoRow.holds Tryd.pinned (OpenSpec.upto fnExactTokenOkSpec)

/-- 'laws.FnExactValueOk', WHERE WHAT IT READS IS OF BULK AT MOST 1048576: true; the input reads as it did. -/
def fnExactValueOkUptoRow : OpenClaim := { program := "ytjhagdjjlgjlbaadoor", sum := "a1710f0c525aeeefc664632679fb27bc0d31f4c3f6fca22aa2499aa354a19764", func := "loop.example/g00964/laws.FnExactValueOk", spec := "fnExactValueOk", inPlace := ["internal/bytealg.IndexByteString", "internal/bytealg.IndexString"], unfollowed := true, recurses := true, named := ["internal/bytealg.MaxLen", "unicode/utf8.first", "unicode/utf8.acceptRanges"], loops := true, apart := false, laid := [("unicode/utf8.acceptRanges", laid_unicode_utf8_acceptRanges), ("unicode/utf8.first", laid_unicode_utf8_first)], narrowed := true }
def FnExactValueOkUptoSaid : Prop := fnExactValueOkUptoRow.holds Tryd.pinned (OpenSpec.upto fnExactValueOkSpec)

/-- 'laws.FnExactArgsOk', WHERE WHAT IT READS IS OF BULK AT MOST 1048576: true; the input reads as it did. -/
def fnExactArgsOkUptoRow : OpenClaim := { program := "ytjhagdjjlgjlbaadoor", sum := "a1710f0c525aeeefc664632679fb27bc0d31f4c3f6fca22aa2499aa354a19764", func := "loop.example/g00964/laws.FnExactArgsOk", spec := "fnExactArgsOk", inPlace := ["internal/bytealg.IndexByteString", "internal/bytealg.IndexString"], unfollowed := true, recurses := true, named := ["internal/bytealg.MaxLen", "unicode/utf8.first", "unicode/utf8.acceptRanges"], loops := true, apart := false, laid := [("unicode/utf8.acceptRanges", laid_unicode_utf8_acceptRanges), ("unicode/utf8.first", laid_unicode_utf8_first)], narrowed := true }
def FnExactArgsOkUptoSaid : Prop := fnExactArgsOkUptoRow.holds Tryd.pinned (OpenSpec.upto fnExactArgsOkSpec)

/-- 'laws.FnExactValueText', WHERE WHAT IT READS IS OF BULK AT MOST 1048576: true; the input reads as it did. -/
def fnExactValueTextUptoRow : OpenClaim := { program := "ytjhagdjjlgjlbaadoor", sum := "a1710f0c525aeeefc664632679fb27bc0d31f4c3f6fca22aa2499aa354a19764", func := "loop.example/g00964/laws.FnExactValueText", spec := "fnExactValueText", inPlace := ["internal/bytealg.IndexByteString", "internal/bytealg.IndexString", "internal/abi.NoEscape", "internal/bytealg.MakeNoZero"], unfollowed := true, recurses := true, named := ["internal/bytealg.MaxLen", "unicode/utf8.first", "unicode/utf8.acceptRanges"], loops := true, apart := false, laid := [("unicode/utf8.acceptRanges", laid_unicode_utf8_acceptRanges), ("unicode/utf8.first", laid_unicode_utf8_first)], narrowed := true }
def FnExactValueTextUptoSaid : Prop := fnExactValueTextUptoRow.holds Tryd.pinned (OpenSpec.upto fnExactValueTextSpec)

/-- 'laws.FnExactDirsOk', WHERE WHAT IT READS IS OF BULK AT MOST 1048576: true; the input reads as it did. -/
def fnExactDirsOkUptoRow : OpenClaim := { program := "ytjhagdjjlgjlbaadoor", sum := "a1710f0c525aeeefc664632679fb27bc0d31f4c3f6fca22aa2499aa354a19764", func := "loop.example/g00964/laws.FnExactDirsOk", spec := "fnExactDirsOk", inPlace := ["internal/bytealg.IndexByteString", "internal/bytealg.IndexString"], unfollowed := true, recurses := true, named := ["internal/bytealg.MaxLen", "unicode/utf8.first", "unicode/utf8.acceptRanges"], loops := true, apart := false, laid := [("unicode/utf8.acceptRanges", laid_unicode_utf8_acceptRanges), ("unicode/utf8.first", laid_unicode_utf8_first)], narrowed := true }
def FnExactDirsOkUptoSaid : Prop := fnExactDirsOkUptoRow.holds Tryd.pinned (OpenSpec.upto fnExactDirsOkSpec)

/-- 'laws.FnExactArgsText', WHERE WHAT IT READS IS OF BULK AT MOST 1048576: true; the input reads as it did. -/
def fnExactArgsTextUptoRow : OpenClaim := { program := "ytjhagdjjlgjlbaadoor", sum := "a1710f0c525aeeefc664632679fb27bc0d31f4c3f6fca22aa2499aa354a19764", func := "loop.example/g00964/laws.FnExactArgsText", spec := "fnExactArgsText", inPlace := ["internal/bytealg.IndexByteString", "internal/bytealg.IndexString", "internal/abi.NoEscape", "internal/bytealg.MakeNoZero"], unfollowed := true, recurses := true, named := ["internal/bytealg.MaxLen", "unicode/utf8.first", "unicode/utf8.acceptRanges"], loops := true, apart := false, laid := [("unicode/utf8.acceptRanges", laid_unicode_utf8_acceptRanges), ("unicode/utf8.first", laid_unicode_utf8_first)], narrowed := true }
def FnExactArgsTextUptoSaid : Prop := fnExactArgsTextUptoRow.holds Tryd.pinned (OpenSpec.upto fnExactArgsTextSpec)

end Rows
end Go.Proofs.YtjhagdjjlgjlbaaDoor
