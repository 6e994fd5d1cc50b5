/- The machine side of one law, written by a program of this session out of Lean's print of the translation: for each Go function that is reached a plain Lean function and the proof that the call comes to just its answer; each under the condition that the plain function answers 'some'. -/
import Derived.Test.YtnlhpjapdklfgaaProg
import Derived.Lib.OthersKept
import Derived.Lib.TrimU
import Derived.Laws.Runes
import Derived.WalkMore
import Derived.ScopeJumps
import Derived.Deep.WholeRow
import Derived.Below
import Derived.Deep.Draws
import Derived.Deep.AppendLies
import Derived.Maps.AppendAt
import Derived.OwnWalk
import Derived.Laws.BytesArg
import Derived.Laws.MakeOwn
import Derived.Laws.OwnMore
import Derived.Deep.OwnRows
import Derived.Tactics
import Derived.Lib.ConvBytes
import Derived.Laws.Slices
import Derived.WalkKit
import Derived.KernelRfl
import Derived.RowKit3
import Derived.Deep.LoopGhost
import Derived.Deep.QuietTactic
import Derived.BigQuiet
import Derived.WideLaws
import Derived.Deep.DeepCutAuto
import Derived.Deep.CutBlock
import Derived.Deep.RegionHeld3
import Derived.Laws.Rows
import Derived.Lib.AppendStr
import Derived.ArgAppend
import Derived.Laws.IdiomCopy
import Derived.OrdersHeld
import Derived.Laws.BitsLemmas
import Derived.RowKit
import Derived.Test.YtnlhpjapdklfgaaShelf
import Derived.Test.YtnlhpjapdklfgaaWWords
import Derived.Test.YtnlhpjapdklfgaaWLast
import Derived.Test.YtnlhpjapdklfgaaWTab
import Derived.Test.YtnlhpjapdklfgaaWFour
import Derived.Test.YtnlhpjapdklfgaaWQPut
import Derived.Test.YtnlhpjapdklfgaaWApart
import Derived.Test.YtnlhpjapdklfgaaWArr
import Derived.Test.YtnlhpjapdklfgaaWZeros
import Derived.Test.YtnlhpjapdklfgaaWFoot
import Derived.Test.YtnlhpjapdklfgaaWKept
import Derived.Test.YtnlhpjapdklfgaaWShare
import Derived.Test.YtnlhpjapdklfgaaWN
import Derived.Test.YtnlhpjapdklfgaaWFootNe
import Derived.Test.YtnlhpjapdklfgaaWAt
import Derived.Test.YtnlhpjapdklfgaaWEqStruct
import Derived.Test.YtnlhpjapdklfgaaWRepsOne
import Derived.Test.YtnlhpjapdklfgaaWInv
import Derived.Test.YtnlhpjapdklfgaaWInvWords
import Derived.Test.YtnlhpjapdklfgaaWGuard
import Derived.Test.YtnlhpjapdklfgaaWNEv
import Derived.Test.YtnlhpjapdklfgaaWMore
namespace Go.Proofs.Ytnlhpjapdklfgaa.OFnExactFloatOk
open Go.RowKit Go.Proofs.YtnlhpjapdklfgaaW.PrintWords Go.Proofs.YtnlhpjapdklfgaaW.PrintLast Go.Proofs.YtnlhpjapdklfgaaW.PrintMore
attribute [local go_sem] max2_int min2_int max_two min_two max_three min_three max_four min_four   -- for this text's walks alone
set_option linter.unusedVariables false
set_option linter.unusedSimpArgs false



def errW : Option Int → Value
  | none => .nilIface
  | some c => .iface 0 (.int .i64 c)
theorem errW_none : errW none = .nilIface := rfl
theorem errW_some (c : Int) : errW (some c) = .iface 0 (.int .i64 c) := rfl

-- the values' own types

end Go.Proofs.Ytnlhpjapdklfgaa.OFnExactFloatOk
