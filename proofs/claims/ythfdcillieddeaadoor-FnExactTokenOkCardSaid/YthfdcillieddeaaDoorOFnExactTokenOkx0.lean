/- The machine side of one law, written by a program of this session out of Lean's print of the translation: for each Go function that is reached a plain Lean function and the proof that the call comes to just its answer; each under the condition that the plain function answers 'some'. -/
import Derived.Test.YthfdcillieddeaaDoorProg
import Derived.Lib.OthersKept
import Derived.Lib.TrimU
import Derived.Laws.Runes
import Derived.WalkMore
import Derived.ScopeJumps
import Derived.Deep.WholeRow
import Derived.Below
import Derived.Deep.Draws
import Derived.Deep.AppendLies
import Derived.Maps.AppendAt
import Derived.OwnWalk
import Derived.Laws.BytesArg
import Derived.Laws.MakeOwn
import Derived.Laws.OwnMore
import Derived.Deep.OwnRows
import Derived.Tactics
import Derived.Lib.ConvBytes
import Derived.Laws.Slices
import Derived.WalkKit
import Derived.KernelRfl
import Derived.RowKit3
import Derived.Deep.LoopGhost
import Derived.Deep.QuietTactic
import Derived.BigQuiet
import Derived.WideLaws
import Derived.Deep.DeepCutAuto
import Derived.Deep.CutBlock
import Derived.Deep.RegionHeld3
import Derived.Laws.Rows
import Derived.Lib.AppendStr
import Derived.ArgAppend
import Derived.Laws.IdiomCopy
import Derived.OrdersHeld
import Derived.Laws.BitsLemmas
import Derived.RowKit
import Derived.Test.YthfdcillieddeaaDoorShelf
import Derived.Test.YthfdcillieddeaaDoorGlU
import Derived.Test.YthfdcillieddeaaDoorWWords
import Derived.Test.YthfdcillieddeaaDoorWLast
import Derived.Test.YthfdcillieddeaaDoorWTab
import Derived.Test.YthfdcillieddeaaDoorWFour
import Derived.Test.YthfdcillieddeaaDoorWQPut
import Derived.Test.YthfdcillieddeaaDoorWApart
import Derived.Test.YthfdcillieddeaaDoorWArr
import Derived.Test.YthfdcillieddeaaDoorWZeros
import Derived.Test.YthfdcillieddeaaDoorWFoot
import Derived.Test.YthfdcillieddeaaDoorWKept
import Derived.Test.YthfdcillieddeaaDoorWShare
import Derived.Test.YthfdcillieddeaaDoorWN
import Derived.Test.YthfdcillieddeaaDoorWFootNe
import Derived.Test.YthfdcillieddeaaDoorWAt
import Derived.Test.YthfdcillieddeaaDoorWEqStruct
import Derived.Test.YthfdcillieddeaaDoorWRepsOne
import Derived.Test.YthfdcillieddeaaDoorWInv
import Derived.Test.YthfdcillieddeaaDoorWInvWords
import Derived.Test.YthfdcillieddeaaDoorWGuard
import Derived.Test.YthfdcillieddeaaDoorWNEv
import Derived.Test.YthfdcillieddeaaDoorWMore
namespace Go.Proofs.YthfdcillieddeaaDoor.OFnExactTokenOk
open Go.Proofs.YthfdcillieddeaaDoor.GlU
open Go.RowKit Go.Proofs.YthfdcillieddeaaDoorW.PrintWords Go.Proofs.YthfdcillieddeaaDoorW.PrintLast Go.Proofs.YthfdcillieddeaaDoorW.PrintMore
attribute [local go_sem] max2_int min2_int max_two min_two max_three min_three max_four min_four   -- for this text's walks alone
set_option linter.unusedVariables false
set_option linter.unusedSimpArgs false



def errW : Option Int → Value
  | none => .nilIface
  | some c => .iface 0 (.int .i64 c)
theorem errW_none : errW none = .nilIface := rfl
theorem errW_some (c : Int) : errW (some c) = .iface 0 (.int .i64 c) := rfl

theorem info5 : (Tryd.prog.info? 5).map (fun i => (i.zero, i.size, i.bytes)) = some (some (.int .u8 0), 1, 1) := by kernel_rfl
-- the values' own types

end Go.Proofs.YthfdcillieddeaaDoor.OFnExactTokenOk
