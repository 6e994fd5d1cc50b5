/- The machine side of one law, written by a program of this session out of Lean's print of the translation: for each Go function that is reached a plain Lean function and the proof that the call comes to just its answer; each under the condition that the plain function answers 'some'. -/
import Derived.Test.YthkhnkgckcdleaaProg
import Derived.Below
import Derived.Deep.Draws
import Derived.Deep.AppendLies
import Derived.Maps.AppendAt
import Derived.OwnWalk
import Derived.Laws.BytesArg
import Derived.Laws.MakeOwn
import Derived.Laws.OwnMore
import Derived.Deep.OwnRows
import Derived.Tactics
import Derived.Lib.ConvBytes
import Derived.Laws.Slices
import Derived.WalkKit
import Derived.KernelRfl
import Derived.RowKit3
import Derived.Deep.LoopGhost
import Derived.Deep.QuietTactic
import Derived.BigQuiet
import Derived.WideLaws
import Derived.Deep.DeepCutAuto
import Derived.Deep.CutBlock
import Derived.Deep.RegionHeld3
import Derived.Laws.Rows
import Derived.Lib.AppendStr
import Derived.ArgAppend
import Derived.Laws.IdiomCopy
import Derived.OrdersHeld
import Derived.Laws.BitsLemmas
import Derived.RowKit
import Derived.Test.YthkhnkgckcdleaaShelf
import Derived.Test.YthkhnkgckcdleaaWWords
import Derived.Test.YthkhnkgckcdleaaWLast
import Derived.Test.YthkhnkgckcdleaaWTab
import Derived.Test.YthkhnkgckcdleaaWFour
import Derived.Test.YthkhnkgckcdleaaWQPut
import Derived.Test.YthkhnkgckcdleaaWApart
import Derived.Test.YthkhnkgckcdleaaWArr
import Derived.Test.YthkhnkgckcdleaaWZeros
import Derived.Test.YthkhnkgckcdleaaWFoot
import Derived.Test.YthkhnkgckcdleaaWKept
import Derived.Test.YthkhnkgckcdleaaWShare
import Derived.Test.YthkhnkgckcdleaaWN
import Derived.Test.YthkhnkgckcdleaaWFootNe
import Derived.Test.YthkhnkgckcdleaaWAt
import Derived.Test.YthkhnkgckcdleaaWEqStruct
import Derived.Test.YthkhnkgckcdleaaWRepsOne
import Derived.Test.YthkhnkgckcdleaaWInv
import Derived.Test.YthkhnkgckcdleaaWInvWords
import Derived.Test.YthkhnkgckcdleaaWGuard
import Derived.Test.YthkhnkgckcdleaaWNEv
import Derived.Test.YthkhnkgckcdleaaWMore
namespace Go.Proofs.Ythkhnkgckcdleaa.OFnExactInner
open Go.RowKit Go.Proofs.YthkhnkgckcdleaaW.PrintWords Go.Proofs.YthkhnkgckcdleaaW.PrintLast Go.Proofs.YthkhnkgckcdleaaW.PrintMore
attribute [local go_sem] max2_int min2_int max_two min_two max_three min_three max_four min_four   -- for this text's walks alone
set_option linter.unusedVariables false
set_option linter.unusedSimpArgs false



def errW : Option Int → Value
  | none => .nilIface
  | some c => .iface 0 (.int .i64 c)
theorem errW_none : errW none = .nilIface := rfl
theorem errW_some (c : Int) : errW (some c) = .iface 0 (.int .i64 c) := rfl

-- the values' own types

end Go.Proofs.Ythkhnkgckcdleaa.OFnExactInner
