/-
  No cell of these rows narrows 'for every input' (looked for: loops, veiled, ifaces, maps, wideKeys, modest, calm, conditions, laid).
  DERIVED. THE GIVEN ROWS OF THIS SEAT. 12 by the template 'for every input the law returns true; each argument reads behind the call as it read before'; 0 by the template 'total and deterministic' (their statements: YthkhnkgckcdleaaTotals.lean).
  GIVEN WITH THE SEED: the statements are not yours to turn. If you find one false, say at which input.
  Laid BY PROGRAM, IN A SANDBOX (cutbox-rows.mjs): the forced cells as the released guide's own fill.sh prints them over the translation 571e57cbdb5806db… (all of the seat's roots in one cut). By AI agents, Wed Nov 11 2026. No macro, syntax, notation, axiom, sorry.
-/
import Derived.Test.YthkhnkgckcdleaaChecked
import GoSem.Claim
import GoSem.ClaimJoined
import GoSem.ClaimMapViews
import Derived.JoinedTies
import Derived.KernelRfl
namespace Go.Proofs.Ythkhnkgckcdleaa
/- THE CELL 'sum', in the pinned program and in every row, IS THE sha256 OF THE DUMP (.gsa) THAT YthkhnkgckcdleaaProg.lean LOADS. Nothing in Lean hashes anything: it is a label: what it is worth is what the hold of that sum in a sandbox is worth. -/
noncomputable def Try.pinned : Pinned := { name := "ythkhnkgckcdleaa", sum := "571e57cbdb5806db417e2f38484a5eaeb6316507d20e3fef05f467e8d9b72b39", checked := Try.checked }
namespace Rows
def none {H : Type} : Left H := { results := [], args := [] }

/-- 'laws.FnExactConstants': WHATEVER THE INPUT: true; the input reads as it did. -/
def fnExactConstantsSpec : ChangeSpec := { name := "fnExactConstants", fn := fun _ => fun
  | [] => { results := [.lit (.bool true)], args := [] }
  | _ => none }
def fnExactConstantsRow : OpenClaim := { program := "ythkhnkgckcdleaa", sum := "571e57cbdb5806db417e2f38484a5eaeb6316507d20e3fef05f467e8d9b72b39", func := "loop.example/g00964/laws.FnExactConstants", spec := "fnExactConstants", apart := false }
def FnExactConstantsSaid : Prop := fnExactConstantsRow.holds Try.pinned (OpenSpec.ofChange fnExactConstantsSpec)

/-- ITS FALSE NEIGHBOUR: 'it returns false'. Refute it at one input. -/
def fnExactConstantsWrong : ChangeSpec := { name := "fnExactConstants", fn := fun _ => fun
  | [] => { results := [.lit (.bool false)], args := [] }
  | _ => none }
def FnExactConstantsWrongFalsely : Prop := fnExactConstantsRow.holds Try.pinned (OpenSpec.ofChange fnExactConstantsWrong)

/-- 'laws.FnExactWord': WHATEVER THE INPUT: true; the input reads as it did. -/
def fnExactWordSpec : ChangeSpec := { name := "fnExactWord", fn := fun _ => fun
  | [d] => { results := [.lit (.bool true)], args := [d] }
  | _ => none }
def fnExactWordRow : OpenClaim := { program := "ythkhnkgckcdleaa", sum := "571e57cbdb5806db417e2f38484a5eaeb6316507d20e3fef05f467e8d9b72b39", func := "loop.example/g00964/laws.FnExactWord", spec := "fnExactWord", apart := false }
def FnExactWordSaid : Prop := fnExactWordRow.holds Try.pinned (OpenSpec.ofChange fnExactWordSpec)

/-- ITS FALSE NEIGHBOUR: 'it returns false'. Refute it at one input. -/
def fnExactWordWrong : ChangeSpec := { name := "fnExactWord", fn := fun _ => fun
  | [d] => { results := [.lit (.bool false)], args := [d] }
  | _ => none }
def FnExactWordWrongFalsely : Prop := fnExactWordRow.holds Try.pinned (OpenSpec.ofChange fnExactWordWrong)

/-- 'laws.FnExactBrought': WHATEVER THE INPUT: true; the input reads as it did. -/
def fnExactBroughtSpec : ChangeSpec := { name := "fnExactBrought", fn := fun _ => fun
  | [d1, d2, d3] => { results := [.lit (.bool true)], args := [d1, d2, d3] }
  | _ => none }
def fnExactBroughtRow : OpenClaim := { program := "ythkhnkgckcdleaa", sum := "571e57cbdb5806db417e2f38484a5eaeb6316507d20e3fef05f467e8d9b72b39", func := "loop.example/g00964/laws.FnExactBrought", spec := "fnExactBrought", apart := false }
def FnExactBroughtSaid : Prop := fnExactBroughtRow.holds Try.pinned (OpenSpec.ofChange fnExactBroughtSpec)

/-- ITS FALSE NEIGHBOUR: 'it returns false'. Refute it at one input. -/
def fnExactBroughtWrong : ChangeSpec := { name := "fnExactBrought", fn := fun _ => fun
  | [d1, d2, d3] => { results := [.lit (.bool false)], args := [d1, d2, d3] }
  | _ => none }
def FnExactBroughtWrongFalsely : Prop := fnExactBroughtRow.holds Try.pinned (OpenSpec.ofChange fnExactBroughtWrong)

/-- 'laws.FnExactNeeded': WHATEVER THE INPUT: true; the input reads as it did. -/
def fnExactNeededSpec : ChangeSpec := { name := "fnExactNeeded", fn := fun _ => fun
  | [d] => { results := [.lit (.bool true)], args := [d] }
  | _ => none }
def fnExactNeededRow : OpenClaim := { program := "ythkhnkgckcdleaa", sum := "571e57cbdb5806db417e2f38484a5eaeb6316507d20e3fef05f467e8d9b72b39", func := "loop.example/g00964/laws.FnExactNeeded", spec := "fnExactNeeded", apart := false }
def FnExactNeededSaid : Prop := fnExactNeededRow.holds Try.pinned (OpenSpec.ofChange fnExactNeededSpec)

/-- ITS FALSE NEIGHBOUR: 'it returns false'. Refute it at one input. -/
def fnExactNeededWrong : ChangeSpec := { name := "fnExactNeeded", fn := fun _ => fun
  | [d] => { results := [.lit (.bool false)], args := [d] }
  | _ => none }
def FnExactNeededWrongFalsely : Prop := fnExactNeededRow.holds Try.pinned (OpenSpec.ofChange fnExactNeededWrong)

/-- 'laws.FnExactHex': WHATEVER THE INPUT: true; the input reads as it did. -/
def fnExactHexSpec : ChangeSpec := { name := "fnExactHex", fn := fun _ => fun
  | [d] => { results := [.lit (.bool true)], args := [d] }
  | _ => none }
def fnExactHexRow : OpenClaim := { program := "ythkhnkgckcdleaa", sum := "571e57cbdb5806db417e2f38484a5eaeb6316507d20e3fef05f467e8d9b72b39", func := "loop.example/g00964/laws.FnExactHex", spec := "fnExactHex", apart := false }
def FnExactHexSaid : Prop := fnExactHexRow.holds Try.pinned (OpenSpec.ofChange fnExactHexSpec)

/-- ITS FALSE NEIGHBOUR: 'it returns false'. Refute it at one input. -/
def fnExactHexWrong : ChangeSpec := { name := "fnExactHex", fn := fun _ => fun
  | [d] => { results := [.lit (.bool false)], args := [d] }
  | _ => none }
def FnExactHexWrongFalsely : Prop := fnExactHexRow.holds Try.pinned (OpenSpec.ofChange fnExactHexWrong)

/-- 'laws.FnExactNameOk': WHATEVER THE INPUT: true; the input reads as it did. -/
def fnExactNameOkSpec : ChangeSpec := { name := "fnExactNameOk", fn := fun _ => fun
  | [d] => { results := [.lit (.bool true)], args := [d] }
  | _ => none }
def fnExactNameOkRow : OpenClaim := { program := "ythkhnkgckcdleaa", sum := "571e57cbdb5806db417e2f38484a5eaeb6316507d20e3fef05f467e8d9b72b39", func := "loop.example/g00964/laws.FnExactNameOk", spec := "fnExactNameOk", apart := false }
def FnExactNameOkSaid : Prop := fnExactNameOkRow.holds Try.pinned (OpenSpec.ofChange fnExactNameOkSpec)

/-- ITS FALSE NEIGHBOUR: 'it returns false'. Refute it at one input. -/
def fnExactNameOkWrong : ChangeSpec := { name := "fnExactNameOk", fn := fun _ => fun
  | [d] => { results := [.lit (.bool false)], args := [d] }
  | _ => none }
def FnExactNameOkWrongFalsely : Prop := fnExactNameOkRow.holds Try.pinned (OpenSpec.ofChange fnExactNameOkWrong)

/-- 'laws.FnExactStringEnd': WHATEVER THE INPUT: true; the input reads as it did. -/
def fnExactStringEndSpec : ChangeSpec := { name := "fnExactStringEnd", fn := fun _ => fun
  | [d1, d2] => { results := [.lit (.bool true)], args := [d1, d2] }
  | _ => none }
def fnExactStringEndRow : OpenClaim := { program := "ythkhnkgckcdleaa", sum := "571e57cbdb5806db417e2f38484a5eaeb6316507d20e3fef05f467e8d9b72b39", func := "loop.example/g00964/laws.FnExactStringEnd", spec := "fnExactStringEnd", apart := false }
def FnExactStringEndSaid : Prop := fnExactStringEndRow.holds Try.pinned (OpenSpec.ofChange fnExactStringEndSpec)

/-- ITS FALSE NEIGHBOUR: 'it returns false'. Refute it at one input. -/
def fnExactStringEndWrong : ChangeSpec := { name := "fnExactStringEnd", fn := fun _ => fun
  | [d1, d2] => { results := [.lit (.bool false)], args := [d1, d2] }
  | _ => none }
def FnExactStringEndWrongFalsely : Prop := fnExactStringEndRow.holds Try.pinned (OpenSpec.ofChange fnExactStringEndWrong)

/-- 'laws.FnExactBlockEnd': WHATEVER THE INPUT: true; the input reads as it did. -/
def fnExactBlockEndSpec : ChangeSpec := { name := "fnExactBlockEnd", fn := fun _ => fun
  | [d1, d2] => { results := [.lit (.bool true)], args := [d1, d2] }
  | _ => none }
def fnExactBlockEndRow : OpenClaim := { program := "ythkhnkgckcdleaa", sum := "571e57cbdb5806db417e2f38484a5eaeb6316507d20e3fef05f467e8d9b72b39", func := "loop.example/g00964/laws.FnExactBlockEnd", spec := "fnExactBlockEnd", apart := false }
def FnExactBlockEndSaid : Prop := fnExactBlockEndRow.holds Try.pinned (OpenSpec.ofChange fnExactBlockEndSpec)

/-- ITS FALSE NEIGHBOUR: 'it returns false'. Refute it at one input. -/
def fnExactBlockEndWrong : ChangeSpec := { name := "fnExactBlockEnd", fn := fun _ => fun
  | [d1, d2] => { results := [.lit (.bool false)], args := [d1, d2] }
  | _ => none }
def FnExactBlockEndWrongFalsely : Prop := fnExactBlockEndRow.holds Try.pinned (OpenSpec.ofChange fnExactBlockEndWrong)

/-- 'laws.FnExactUnhex': WHATEVER THE INPUT: true; the input reads as it did. -/
def fnExactUnhexSpec : ChangeSpec := { name := "fnExactUnhex", fn := fun _ => fun
  | [d] => { results := [.lit (.bool true)], args := [d] }
  | _ => none }
def fnExactUnhexRow : OpenClaim := { program := "ythkhnkgckcdleaa", sum := "571e57cbdb5806db417e2f38484a5eaeb6316507d20e3fef05f467e8d9b72b39", func := "loop.example/g00964/laws.FnExactUnhex", spec := "fnExactUnhex", inPlace := ["internal/bytealg.IndexByteString"], apart := false }
def FnExactUnhexSaid : Prop := fnExactUnhexRow.holds Try.pinned (OpenSpec.ofChange fnExactUnhexSpec)

/-- ITS FALSE NEIGHBOUR: 'it returns false'. Refute it at one input. -/
def fnExactUnhexWrong : ChangeSpec := { name := "fnExactUnhex", fn := fun _ => fun
  | [d] => { results := [.lit (.bool false)], args := [d] }
  | _ => none }
def FnExactUnhexWrongFalsely : Prop := fnExactUnhexRow.holds Try.pinned (OpenSpec.ofChange fnExactUnhexWrong)

/-- 'laws.FnExactIntOk': WHATEVER THE INPUT: true; the input reads as it did. -/
def fnExactIntOkSpec : ChangeSpec := { name := "fnExactIntOk", fn := fun _ => fun
  | [d] => { results := [.lit (.bool true)], args := [d] }
  | _ => none }
def fnExactIntOkRow : OpenClaim := { program := "ythkhnkgckcdleaa", sum := "571e57cbdb5806db417e2f38484a5eaeb6316507d20e3fef05f467e8d9b72b39", func := "loop.example/g00964/laws.FnExactIntOk", spec := "fnExactIntOk", apart := false }
def FnExactIntOkSaid : Prop := fnExactIntOkRow.holds Try.pinned (OpenSpec.ofChange fnExactIntOkSpec)

/-- ITS FALSE NEIGHBOUR: 'it returns false'. Refute it at one input. -/
def fnExactIntOkWrong : ChangeSpec := { name := "fnExactIntOk", fn := fun _ => fun
  | [d] => { results := [.lit (.bool false)], args := [d] }
  | _ => none }
def FnExactIntOkWrongFalsely : Prop := fnExactIntOkRow.holds Try.pinned (OpenSpec.ofChange fnExactIntOkWrong)

/-- 'laws.FnExactFewer': WHATEVER THE INPUT: true; the input reads as it did. -/
def fnExactFewerSpec : ChangeSpec := { name := "fnExactFewer", fn := fun _ => fun
  | [d] => { results := [.lit (.bool true)], args := [d] }
  | _ => none }
def fnExactFewerRow : OpenClaim := { program := "ythkhnkgckcdleaa", sum := "571e57cbdb5806db417e2f38484a5eaeb6316507d20e3fef05f467e8d9b72b39", func := "loop.example/g00964/laws.FnExactFewer", spec := "fnExactFewer", apart := false }
def FnExactFewerSaid : Prop := fnExactFewerRow.holds Try.pinned (OpenSpec.ofChange fnExactFewerSpec)

/-- ITS FALSE NEIGHBOUR: 'it returns false'. Refute it at one input. -/
def fnExactFewerWrong : ChangeSpec := { name := "fnExactFewer", fn := fun _ => fun
  | [d] => { results := [.lit (.bool false)], args := [d] }
  | _ => none }
def FnExactFewerWrongFalsely : Prop := fnExactFewerRow.holds Try.pinned (OpenSpec.ofChange fnExactFewerWrong)

/-- 'laws.FnExactInner': WHATEVER THE INPUT: true; the input reads as it did. -/
def fnExactInnerSpec : ChangeSpec := { name := "fnExactInner", fn := fun _ => fun
  | [d] => { results := [.lit (.bool true)], args := [d] }
  | _ => none }
def fnExactInnerRow : OpenClaim := { program := "ythkhnkgckcdleaa", sum := "571e57cbdb5806db417e2f38484a5eaeb6316507d20e3fef05f467e8d9b72b39", func := "loop.example/g00964/laws.FnExactInner", spec := "fnExactInner", apart := false }
def FnExactInnerSaid : Prop := fnExactInnerRow.holds Try.pinned (OpenSpec.ofChange fnExactInnerSpec)

/-- ITS FALSE NEIGHBOUR: 'it returns false'. Refute it at one input. -/
def fnExactInnerWrong : ChangeSpec := { name := "fnExactInner", fn := fun _ => fun
  | [d] => { results := [.lit (.bool false)], args := [d] }
  | _ => none }
def FnExactInnerWrongFalsely : Prop := fnExactInnerRow.holds Try.pinned (OpenSpec.ofChange fnExactInnerWrong)

/- THE SECOND FORM. 'bulk': how many values and letters a reading holds, each counted each time it is reached (what is shared counts as often as it is met; a slice's spare places count too). A statement '..UptoSaid' is the law's where the arguments, and the package variables that the reading takes, are together of bulk at most 1048576: NARROWER than '..Said'. Prove '..Said' where nothing that the law and all that it calls make is longer than what came in: it says more and counts as full. Else prove '..UptoSaid'. A law counts once. -/
mutual
def uptoBulk {H : Type} : DataW H → Nat
  | .lit (.string bytes) => bytes.length + 1
  | .lit _ => 1
  | .nil => 1
  | .ptr d => uptoBulk d + 1
  | .slice elems spare => uptoBulkAll elems + uptoBulkAll spare + 1
  | .agg parts => uptoBulkAll parts + 1
  | .iface _ d => uptoBulk d + 1
  | .map entries => uptoBulkEntries entries + 1
  | .held _ => 1
def uptoBulkAll {H : Type} : List (DataW H) → Nat
  | [] => 0
  | d :: r => uptoBulk d + uptoBulkAll r
def uptoBulkEntries {H : Type} : List (Lit × DataW H) → Nat
  | [] => 0
  | x :: r => uptoBulkEntry x + uptoBulkEntries r
def uptoBulkEntry {H : Type} : Lit × DataW H → Nat
  | (.string bytes, d) => bytes.length + uptoBulk d + 1
  | (_, d) => uptoBulk d + 1
 end
def uptoSmall : (H : Type) → List (DataW H) → Bool := fun _ ds => decide (uptoBulkAll ds ≤ 1048576)
def OpenSpec.upto (s : _root_.Go.ChangeSpec) : _root_.Go.OpenSpec := { _root_.Go.OpenSpec.ofChange s with cond := some uptoSmall }

/-- 'laws.FnExactConstants', WHERE WHAT IT READS IS OF BULK AT MOST 1048576: true; the input reads as it did. -/
def fnExactConstantsUptoRow : OpenClaim := { program := "ythkhnkgckcdleaa", sum := "571e57cbdb5806db417e2f38484a5eaeb6316507d20e3fef05f467e8d9b72b39", func := "loop.example/g00964/laws.FnExactConstants", spec := "fnExactConstants", apart := false, narrowed := true }
def FnExactConstantsUptoSaid : Prop := fnExactConstantsUptoRow.holds Try.pinned (OpenSpec.upto fnExactConstantsSpec)

/-- 'laws.FnExactWord', WHERE WHAT IT READS IS OF BULK AT MOST 1048576: true; the input reads as it did. -/
def fnExactWordUptoRow : OpenClaim := { program := "ythkhnkgckcdleaa", sum := "571e57cbdb5806db417e2f38484a5eaeb6316507d20e3fef05f467e8d9b72b39", func := "loop.example/g00964/laws.FnExactWord", spec := "fnExactWord", apart := false, narrowed := true }
def FnExactWordUptoSaid : Prop := fnExactWordUptoRow.holds Try.pinned (OpenSpec.upto fnExactWordSpec)

/-- 'laws.FnExactBrought', WHERE WHAT IT READS IS OF BULK AT MOST 1048576: true; the input reads as it did. -/
def fnExactBroughtUptoRow : OpenClaim := { program := "ythkhnkgckcdleaa", sum := "571e57cbdb5806db417e2f38484a5eaeb6316507d20e3fef05f467e8d9b72b39", func := "loop.example/g00964/laws.FnExactBrought", spec := "fnExactBrought", apart := false, narrowed := true }
def FnExactBroughtUptoSaid : Prop := fnExactBroughtUptoRow.holds Try.pinned (OpenSpec.upto fnExactBroughtSpec)

/-- 'laws.FnExactNeeded', WHERE WHAT IT READS IS OF BULK AT MOST 1048576: true; the input reads as it did. -/
def fnExactNeededUptoRow : OpenClaim := { program := "ythkhnkgckcdleaa", sum := "571e57cbdb5806db417e2f38484a5eaeb6316507d20e3fef05f467e8d9b72b39", func := "loop.example/g00964/laws.FnExactNeeded", spec := "fnExactNeeded", apart := false, narrowed := true }
def FnExactNeededUptoSaid : Prop := fnExactNeededUptoRow.holds Try.pinned (OpenSpec.upto fnExactNeededSpec)

/-- 'laws.FnExactHex', WHERE WHAT IT READS IS OF BULK AT MOST 1048576: true; the input reads as it did. -/
def fnExactHexUptoRow : OpenClaim := { program := "ythkhnkgckcdleaa", sum := "571e57cbdb5806db417e2f38484a5eaeb6316507d20e3fef05f467e8d9b72b39", func := "loop.example/g00964/laws.FnExactHex", spec := "fnExactHex", apart := false, narrowed := true }
def FnExactHexUptoSaid : Prop := fnExactHexUptoRow.holds Try.pinned (OpenSpec.upto fnExactHexSpec)

/-- 'laws.FnExactNameOk', WHERE WHAT IT READS IS OF BULK AT MOST 1048576: true; the input reads as it did. -/
def fnExactNameOkUptoRow : OpenClaim := { program := "ythkhnkgckcdleaa", sum := "571e57cbdb5806db417e2f38484a5eaeb6316507d20e3fef05f467e8d9b72b39", func := "loop.example/g00964/laws.FnExactNameOk", spec := "fnExactNameOk", apart := false, narrowed := true }
def FnExactNameOkUptoSaid : Prop := fnExactNameOkUptoRow.holds Try.pinned (OpenSpec.upto fnExactNameOkSpec)

/-- 'laws.FnExactStringEnd', WHERE WHAT IT READS IS OF BULK AT MOST 1048576: true; the input reads as it did. -/
def fnExactStringEndUptoRow : OpenClaim := { program := "ythkhnkgckcdleaa", sum := "571e57cbdb5806db417e2f38484a5eaeb6316507d20e3fef05f467e8d9b72b39", func := "loop.example/g00964/laws.FnExactStringEnd", spec := "fnExactStringEnd", apart := false, narrowed := true }
def FnExactStringEndUptoSaid : Prop := fnExactStringEndUptoRow.holds Try.pinned (OpenSpec.upto fnExactStringEndSpec)

/-- 'laws.FnExactBlockEnd', WHERE WHAT IT READS IS OF BULK AT MOST 1048576: true; the input reads as it did. -/
def fnExactBlockEndUptoRow : OpenClaim := { program := "ythkhnkgckcdleaa", sum := "571e57cbdb5806db417e2f38484a5eaeb6316507d20e3fef05f467e8d9b72b39", func := "loop.example/g00964/laws.FnExactBlockEnd", spec := "fnExactBlockEnd", apart := false, narrowed := true }
def FnExactBlockEndUptoSaid : Prop := fnExactBlockEndUptoRow.holds Try.pinned (OpenSpec.upto fnExactBlockEndSpec)

/-- 'laws.FnExactUnhex', WHERE WHAT IT READS IS OF BULK AT MOST 1048576: true; the input reads as it did. -/
def fnExactUnhexUptoRow : OpenClaim := { program := "ythkhnkgckcdleaa", sum := "571e57cbdb5806db417e2f38484a5eaeb6316507d20e3fef05f467e8d9b72b39", func := "loop.example/g00964/laws.FnExactUnhex", spec := "fnExactUnhex", inPlace := ["internal/bytealg.IndexByteString"], apart := false, narrowed := true }
def FnExactUnhexUptoSaid : Prop := fnExactUnhexUptoRow.holds Try.pinned (OpenSpec.upto fnExactUnhexSpec)

/-- 'laws.FnExactIntOk', WHERE WHAT IT READS IS OF BULK AT MOST 1048576: true; the input reads as it did. -/
def fnExactIntOkUptoRow : OpenClaim := { program := "ythkhnkgckcdleaa", sum := "571e57cbdb5806db417e2f38484a5eaeb6316507d20e3fef05f467e8d9b72b39", func := "loop.example/g00964/laws.FnExactIntOk", spec := "fnExactIntOk", apart := false, narrowed := true }
def FnExactIntOkUptoSaid : Prop := fnExactIntOkUptoRow.holds Try.pinned (OpenSpec.upto fnExactIntOkSpec)

/-- 'laws.FnExactFewer', WHERE WHAT IT READS IS OF BULK AT MOST 1048576: true; the input reads as it did. -/
def fnExactFewerUptoRow : OpenClaim := { program := "ythkhnkgckcdleaa", sum := "571e57cbdb5806db417e2f38484a5eaeb6316507d20e3fef05f467e8d9b72b39", func := "loop.example/g00964/laws.FnExactFewer", spec := "fnExactFewer", apart := false, narrowed := true }
def FnExactFewerUptoSaid : Prop := fnExactFewerUptoRow.holds Try.pinned (OpenSpec.upto fnExactFewerSpec)

/-- 'laws.FnExactInner', WHERE WHAT IT READS IS OF BULK AT MOST 1048576: true; the input reads as it did. -/
def fnExactInnerUptoRow : OpenClaim := { program := "ythkhnkgckcdleaa", sum := "571e57cbdb5806db417e2f38484a5eaeb6316507d20e3fef05f467e8d9b72b39", func := "loop.example/g00964/laws.FnExactInner", spec := "fnExactInner", apart := false, narrowed := true }
def FnExactInnerUptoSaid : Prop := fnExactInnerUptoRow.holds Try.pinned (OpenSpec.upto fnExactInnerSpec)

end Rows
end Go.Proofs.Ythkhnkgckcdleaa
