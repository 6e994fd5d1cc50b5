/- The machine side of one law, written by a program of this session out of Lean's print of the translation: for each Go function that is reached a plain Lean function and the proof that the call comes to just its answer; each under the condition that the plain function answers 'some'. -/
import Derived.Test.YtnlhpjapdklfgaaDoorProg
import Derived.Lib.OthersKept
import Derived.Lib.TrimU
import Derived.Laws.Runes
import Derived.WalkMore
import Derived.ScopeJumps
import Derived.Deep.WholeRow
import Derived.Below
import Derived.Deep.Draws
import Derived.Deep.AppendLies
import Derived.Maps.AppendAt
import Derived.OwnWalk
import Derived.Laws.BytesArg
import Derived.Laws.MakeOwn
import Derived.Laws.OwnMore
import Derived.Deep.OwnRows
import Derived.Tactics
import Derived.Lib.ConvBytes
import Derived.Laws.Slices
import Derived.WalkKit
import Derived.KernelRfl
import Derived.RowKit3
import Derived.Deep.LoopGhost
import Derived.Deep.QuietTactic
import Derived.BigQuiet
import Derived.WideLaws
import Derived.Deep.DeepCutAuto
import Derived.Deep.CutBlock
import Derived.Deep.RegionHeld3
import Derived.Laws.Rows
import Derived.Lib.AppendStr
import Derived.ArgAppend
import Derived.Laws.IdiomCopy
import Derived.OrdersHeld
import Derived.Laws.BitsLemmas
import Derived.RowKit
import Derived.Test.YtnlhpjapdklfgaaDoorShelf
import Derived.Test.YtnlhpjapdklfgaaDoorGlE
import Derived.Test.YtnlhpjapdklfgaaDoorWWords
import Derived.Test.YtnlhpjapdklfgaaDoorWLast
import Derived.Test.YtnlhpjapdklfgaaDoorWTab
import Derived.Test.YtnlhpjapdklfgaaDoorWFour
import Derived.Test.YtnlhpjapdklfgaaDoorWQPut
import Derived.Test.YtnlhpjapdklfgaaDoorWApart
import Derived.Test.YtnlhpjapdklfgaaDoorWArr
import Derived.Test.YtnlhpjapdklfgaaDoorWZeros
import Derived.Test.YtnlhpjapdklfgaaDoorWFoot
import Derived.Test.YtnlhpjapdklfgaaDoorWKept
import Derived.Test.YtnlhpjapdklfgaaDoorWShare
import Derived.Test.YtnlhpjapdklfgaaDoorWN
import Derived.Test.YtnlhpjapdklfgaaDoorWFootNe
import Derived.Test.YtnlhpjapdklfgaaDoorWAt
import Derived.Test.YtnlhpjapdklfgaaDoorWEqStruct
import Derived.Test.YtnlhpjapdklfgaaDoorWRepsOne
import Derived.Test.YtnlhpjapdklfgaaDoorWInv
import Derived.Test.YtnlhpjapdklfgaaDoorWInvWords
import Derived.Test.YtnlhpjapdklfgaaDoorWGuard
import Derived.Test.YtnlhpjapdklfgaaDoorWNEv
import Derived.Test.YtnlhpjapdklfgaaDoorWMore
namespace Go.Proofs.YtnlhpjapdklfgaaDoor.OFnFigures
open Go.Proofs.YtnlhpjapdklfgaaDoor.GlE
open Go.RowKit Go.Proofs.YtnlhpjapdklfgaaDoorW.PrintWords Go.Proofs.YtnlhpjapdklfgaaDoorW.PrintLast Go.Proofs.YtnlhpjapdklfgaaDoorW.PrintMore
attribute [local go_sem] max2_int min2_int max_two min_two max_three min_three max_four min_four   -- for this text's walks alone
set_option linter.unusedVariables false
set_option linter.unusedSimpArgs false



def errW : Option Int → Value
  | none => .nilIface
  | some c => .iface 0 (.int .i64 c)
theorem errW_none : errW none = .nilIface := rfl
theorem errW_some (c : Int) : errW (some c) = .iface 0 (.int .i64 c) := rfl

theorem info3 : (Tryd.prog.info? 3).map (fun i => (i.zero, i.size, i.bytes)) = some (some (.int .i64 0), 1, 8) := by kernel_rfl
theorem info5 : (Tryd.prog.info? 5).map (fun i => (i.zero, i.size, i.bytes)) = some (some (.int .u8 0), 1, 1) := by kernel_rfl
-- the values' own types

end Go.Proofs.YtnlhpjapdklfgaaDoor.OFnFigures
