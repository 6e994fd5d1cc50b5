/-
  NARROWER THAN 'FOR EVERY INPUT', by the rows' own cells (each row's printed sentence says how): FnExactIsConst: loops · FnExactSameValue: loops · FnExactVarsIn: loops · FnExactSameArgs: loops · FnExactKeyOf: loops · FnExactAllSels: loops.
  DERIVED. THE GIVEN ROWS OF THIS SEAT. 6 by the template 'for every input the law returns true; each argument reads behind the call as it read before'; 0 by the template 'total and deterministic' (their statements: YtkcomfmdcmjagaaTotals.lean).
  GIVEN WITH THE SEED: the statements are not yours to turn. If you find one false, say at which input.
  Laid BY PROGRAM, IN A SANDBOX (cutbox-rows.mjs): the forced cells as the released guide's own fill.sh prints them over the translation cf1891f0da3ac691… (all of the seat's roots in one cut). By AI agents, Wed Nov 11 2026. No macro, syntax, notation, axiom, sorry.
-/
import Derived.Test.YtkcomfmdcmjagaaChecked
import GoSem.Claim
import GoSem.ClaimJoined
import GoSem.ClaimMapViews
import Derived.JoinedTies
import Derived.KernelRfl
namespace Go.Proofs.Ytkcomfmdcmjagaa
/- THE CELL 'sum', in the pinned program and in every row, IS THE sha256 OF THE DUMP (.gsa) THAT YtkcomfmdcmjagaaProg.lean LOADS. Nothing in Lean hashes anything: it is a label: what it is worth is what the hold of that sum in a sandbox is worth. -/
noncomputable def Try.pinned : Pinned := { name := "ytkcomfmdcmjagaa", sum := "cf1891f0da3ac69124225faeeeecb1da3e34fa4d2164f07d8e69ad9f1b14cd9c", checked := Try.checked }
namespace Rows
def none {H : Type} : Left H := { results := [], args := [] }

/-- 'laws.FnExactIsConst': WHATEVER THE INPUT: true; the input reads as it did. -/
def fnExactIsConstSpec : ChangeSpec := { name := "fnExactIsConst", fn := fun _ => fun
  | [d] => { results := [.lit (.bool true)], args := [d] }
  | _ => none }
def fnExactIsConstRow : OpenClaim := { program := "ytkcomfmdcmjagaa", sum := "cf1891f0da3ac69124225faeeeecb1da3e34fa4d2164f07d8e69ad9f1b14cd9c", func := "loop.example/g00964/laws.FnExactIsConst", spec := "fnExactIsConst", unfollowed := true, recurses := true, loops := true, apart := false }
def FnExactIsConstSaid : Prop := fnExactIsConstRow.holds Try.pinned (OpenSpec.ofChange fnExactIsConstSpec)

/-- ITS FALSE NEIGHBOUR: 'it returns false'. Refute it at one input. -/
def fnExactIsConstWrong : ChangeSpec := { name := "fnExactIsConst", fn := fun _ => fun
  | [d] => { results := [.lit (.bool false)], args := [d] }
  | _ => none }
def FnExactIsConstWrongFalsely : Prop := fnExactIsConstRow.holds Try.pinned (OpenSpec.ofChange fnExactIsConstWrong)

/-- 'laws.FnExactSameValue': WHATEVER THE INPUT: true; the input reads as it did. -/
def fnExactSameValueSpec : ChangeSpec := { name := "fnExactSameValue", fn := fun _ => fun
  | [d1, d2] => { results := [.lit (.bool true)], args := [d1, d2] }
  | _ => none }
def fnExactSameValueRow : OpenClaim := { program := "ytkcomfmdcmjagaa", sum := "cf1891f0da3ac69124225faeeeecb1da3e34fa4d2164f07d8e69ad9f1b14cd9c", func := "loop.example/g00964/laws.FnExactSameValue", spec := "fnExactSameValue", unfollowed := true, recurses := true, loops := true, apart := false }
def FnExactSameValueSaid : Prop := fnExactSameValueRow.holds Try.pinned (OpenSpec.ofChange fnExactSameValueSpec)

/-- ITS FALSE NEIGHBOUR: 'it returns false'. Refute it at one input. -/
def fnExactSameValueWrong : ChangeSpec := { name := "fnExactSameValue", fn := fun _ => fun
  | [d1, d2] => { results := [.lit (.bool false)], args := [d1, d2] }
  | _ => none }
def FnExactSameValueWrongFalsely : Prop := fnExactSameValueRow.holds Try.pinned (OpenSpec.ofChange fnExactSameValueWrong)

/-- 'laws.FnExactVarsIn': WHATEVER THE INPUT: true; the input reads as it did. -/
def fnExactVarsInSpec : ChangeSpec := { name := "fnExactVarsIn", fn := fun _ => fun
  | [d] => { results := [.lit (.bool true)], args := [d] }
  | _ => none }
def fnExactVarsInRow : OpenClaim := { program := "ytkcomfmdcmjagaa", sum := "cf1891f0da3ac69124225faeeeecb1da3e34fa4d2164f07d8e69ad9f1b14cd9c", func := "loop.example/g00964/laws.FnExactVarsIn", spec := "fnExactVarsIn", recurses := true, loops := true, apart := false }
def FnExactVarsInSaid : Prop := fnExactVarsInRow.holds Try.pinned (OpenSpec.ofChange fnExactVarsInSpec)

/-- ITS FALSE NEIGHBOUR: 'it returns false'. Refute it at one input. -/
def fnExactVarsInWrong : ChangeSpec := { name := "fnExactVarsIn", fn := fun _ => fun
  | [d] => { results := [.lit (.bool false)], args := [d] }
  | _ => none }
def FnExactVarsInWrongFalsely : Prop := fnExactVarsInRow.holds Try.pinned (OpenSpec.ofChange fnExactVarsInWrong)

/-- 'laws.FnExactSameArgs': WHATEVER THE INPUT: true; the input reads as it did. -/
def fnExactSameArgsSpec : ChangeSpec := { name := "fnExactSameArgs", fn := fun _ => fun
  | [d1, d2] => { results := [.lit (.bool true)], args := [d1, d2] }
  | _ => none }
def fnExactSameArgsRow : OpenClaim := { program := "ytkcomfmdcmjagaa", sum := "cf1891f0da3ac69124225faeeeecb1da3e34fa4d2164f07d8e69ad9f1b14cd9c", func := "loop.example/g00964/laws.FnExactSameArgs", spec := "fnExactSameArgs", unfollowed := true, recurses := true, loops := true, apart := false }
def FnExactSameArgsSaid : Prop := fnExactSameArgsRow.holds Try.pinned (OpenSpec.ofChange fnExactSameArgsSpec)

/-- ITS FALSE NEIGHBOUR: 'it returns false'. Refute it at one input. -/
def fnExactSameArgsWrong : ChangeSpec := { name := "fnExactSameArgs", fn := fun _ => fun
  | [d1, d2] => { results := [.lit (.bool false)], args := [d1, d2] }
  | _ => none }
def FnExactSameArgsWrongFalsely : Prop := fnExactSameArgsRow.holds Try.pinned (OpenSpec.ofChange fnExactSameArgsWrong)

/-- 'laws.FnExactKeyOf': WHATEVER THE INPUT: true; the input reads as it did. -/
def fnExactKeyOfSpec : ChangeSpec := { name := "fnExactKeyOf", fn := fun _ => fun
  | [d] => { results := [.lit (.bool true)], args := [d] }
  | _ => none }
def fnExactKeyOfRow : OpenClaim := { program := "ytkcomfmdcmjagaa", sum := "cf1891f0da3ac69124225faeeeecb1da3e34fa4d2164f07d8e69ad9f1b14cd9c", func := "loop.example/g00964/laws.FnExactKeyOf", spec := "fnExactKeyOf", recurses := true, loops := true, apart := false }
def FnExactKeyOfSaid : Prop := fnExactKeyOfRow.holds Try.pinned (OpenSpec.ofChange fnExactKeyOfSpec)

/-- ITS FALSE NEIGHBOUR: 'it returns false'. Refute it at one input. -/
def fnExactKeyOfWrong : ChangeSpec := { name := "fnExactKeyOf", fn := fun _ => fun
  | [d] => { results := [.lit (.bool false)], args := [d] }
  | _ => none }
def FnExactKeyOfWrongFalsely : Prop := fnExactKeyOfRow.holds Try.pinned (OpenSpec.ofChange fnExactKeyOfWrong)

/-- 'laws.FnExactAllSels': WHATEVER THE INPUT: true; the input reads as it did. -/
def fnExactAllSelsSpec : ChangeSpec := { name := "fnExactAllSels", fn := fun _ => fun
  | [d] => { results := [.lit (.bool true)], args := [d] }
  | _ => none }
def fnExactAllSelsRow : OpenClaim := { program := "ytkcomfmdcmjagaa", sum := "cf1891f0da3ac69124225faeeeecb1da3e34fa4d2164f07d8e69ad9f1b14cd9c", func := "loop.example/g00964/laws.FnExactAllSels", spec := "fnExactAllSels", recurses := true, loops := true, apart := false }
def FnExactAllSelsSaid : Prop := fnExactAllSelsRow.holds Try.pinned (OpenSpec.ofChange fnExactAllSelsSpec)

/-- ITS FALSE NEIGHBOUR: 'it returns false'. Refute it at one input. -/
def fnExactAllSelsWrong : ChangeSpec := { name := "fnExactAllSels", fn := fun _ => fun
  | [d] => { results := [.lit (.bool false)], args := [d] }
  | _ => none }
def FnExactAllSelsWrongFalsely : Prop := fnExactAllSelsRow.holds Try.pinned (OpenSpec.ofChange fnExactAllSelsWrong)

/- THE SECOND FORM. 'bulk': how many values and letters a reading holds, each counted each time it is reached (what is shared counts as often as it is met; a slice's spare places count too). A statement '..UptoSaid' is the law's where the arguments, and the package variables that the reading takes, are together of bulk at most 1048576: NARROWER than '..Said'. Prove '..Said' where nothing that the law and all that it calls make is longer than what came in: it says more and counts as full. Else prove '..UptoSaid'. A law counts once. -/
mutual
def uptoBulk {H : Type} : DataW H → Nat
  | .lit (.string bytes) => bytes.length + 1
  | .lit _ => 1
  | .nil => 1
  | .ptr d => uptoBulk d + 1
  | .slice elems spare => uptoBulkAll elems + uptoBulkAll spare + 1
  | .agg parts => uptoBulkAll parts + 1
  | .iface _ d => uptoBulk d + 1
  | .map entries => uptoBulkEntries entries + 1
  | .held _ => 1
def uptoBulkAll {H : Type} : List (DataW H) → Nat
  | [] => 0
  | d :: r => uptoBulk d + uptoBulkAll r
def uptoBulkEntries {H : Type} : List (Lit × DataW H) → Nat
  | [] => 0
  | x :: r => uptoBulkEntry x + uptoBulkEntries r
def uptoBulkEntry {H : Type} : Lit × DataW H → Nat
  | (.string bytes, d) => bytes.length + uptoBulk d + 1
  | (_, d) => uptoBulk d + 1
 end
def uptoSmall : (H : Type) → List (DataW H) → Bool := fun _ ds => decide (uptoBulkAll ds ≤ 1048576)
def OpenSpec.upto (s : _root_.Go.ChangeSpec) : _root_.Go.OpenSpec := { _root_.Go.OpenSpec.ofChange s with cond := some uptoSmall }

/-- 'laws.FnExactIsConst', WHERE WHAT IT READS IS OF BULK AT MOST 1048576: true; the input reads as it did. -/
def fnExactIsConstUptoRow : OpenClaim := { program := "ytkcomfmdcmjagaa", sum := "cf1891f0da3ac69124225faeeeecb1da3e34fa4d2164f07d8e69ad9f1b14cd9c", func := "loop.example/g00964/laws.FnExactIsConst", spec := "fnExactIsConst", unfollowed := true, recurses := true, loops := true, apart := false, narrowed := true }
def FnExactIsConstUptoSaid : Prop := fnExactIsConstUptoRow.holds Try.pinned (OpenSpec.upto fnExactIsConstSpec)

/-- 'laws.FnExactSameValue', WHERE WHAT IT READS IS OF BULK AT MOST 1048576: true; the input reads as it did. -/
def fnExactSameValueUptoRow : OpenClaim := { program := "ytkcomfmdcmjagaa", sum := "cf1891f0da3ac69124225faeeeecb1da3e34fa4d2164f07d8e69ad9f1b14cd9c", func := "loop.example/g00964/laws.FnExactSameValue", spec := "fnExactSameValue", unfollowed := true, recurses := true, loops := true, apart := false, narrowed := true }
def FnExactSameValueUptoSaid : Prop := fnExactSameValueUptoRow.holds Try.pinned (OpenSpec.upto fnExactSameValueSpec)

/-- 'laws.FnExactVarsIn', WHERE WHAT IT READS IS OF BULK AT MOST 1048576: true; the input reads as it did. -/
def fnExactVarsInUptoRow : OpenClaim := { program := "ytkcomfmdcmjagaa", sum := "cf1891f0da3ac69124225faeeeecb1da3e34fa4d2164f07d8e69ad9f1b14cd9c", func := "loop.example/g00964/laws.FnExactVarsIn", spec := "fnExactVarsIn", recurses := true, loops := true, apart := false, narrowed := true }
def FnExactVarsInUptoSaid : Prop := fnExactVarsInUptoRow.holds Try.pinned (OpenSpec.upto fnExactVarsInSpec)

/-- 'laws.FnExactSameArgs', WHERE WHAT IT READS IS OF BULK AT MOST 1048576: true; the input reads as it did. -/
def fnExactSameArgsUptoRow : OpenClaim := { program := "ytkcomfmdcmjagaa", sum := "cf1891f0da3ac69124225faeeeecb1da3e34fa4d2164f07d8e69ad9f1b14cd9c", func := "loop.example/g00964/laws.FnExactSameArgs", spec := "fnExactSameArgs", unfollowed := true, recurses := true, loops := true, apart := false, narrowed := true }
def FnExactSameArgsUptoSaid : Prop := fnExactSameArgsUptoRow.holds Try.pinned (OpenSpec.upto fnExactSameArgsSpec)

/-- 'laws.FnExactKeyOf', WHERE WHAT IT READS IS OF BULK AT MOST 1048576: true; the input reads as it did. -/
def fnExactKeyOfUptoRow : OpenClaim := { program := "ytkcomfmdcmjagaa", sum := "cf1891f0da3ac69124225faeeeecb1da3e34fa4d2164f07d8e69ad9f1b14cd9c", func := "loop.example/g00964/laws.FnExactKeyOf", spec := "fnExactKeyOf", recurses := true, loops := true, apart := false, narrowed := true }
def FnExactKeyOfUptoSaid : Prop := fnExactKeyOfUptoRow.holds Try.pinned (OpenSpec.upto fnExactKeyOfSpec)

/-- 'laws.FnExactAllSels', WHERE WHAT IT READS IS OF BULK AT MOST 1048576: true; the input reads as it did. -/
def fnExactAllSelsUptoRow : OpenClaim := { program := "ytkcomfmdcmjagaa", sum := "cf1891f0da3ac69124225faeeeecb1da3e34fa4d2164f07d8e69ad9f1b14cd9c", func := "loop.example/g00964/laws.FnExactAllSels", spec := "fnExactAllSels", recurses := true, loops := true, apart := false, narrowed := true }
def FnExactAllSelsUptoSaid : Prop := fnExactAllSelsUptoRow.holds Try.pinned (OpenSpec.upto fnExactAllSelsSpec)

end Rows
end Go.Proofs.Ytkcomfmdcmjagaa
