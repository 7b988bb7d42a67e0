-- Written by a program of this session (patch_print.py over the kit print)
import Derived.Test.YtknlpjoidjgciaaDoorProg
import Derived.Below
import Derived.Deep.Draws
import Derived.Deep.AppendLies
import Derived.Maps.AppendAt
import Derived.OwnWalk
import Derived.Laws.BytesArg
import Derived.Laws.MakeOwn
import Derived.Laws.OwnMore
import Derived.Deep.OwnRows
import Derived.Tactics
import Derived.Lib.ConvBytes
import Derived.Laws.Slices
import Derived.WalkKit
import Derived.KernelRfl
import Derived.RowKit3
import Derived.Deep.LoopGhost
import Derived.Deep.QuietTactic
import Derived.BigQuiet
import Derived.WideLaws
import Derived.Deep.DeepCutAuto
import Derived.Deep.CutBlock
import Derived.Deep.RegionHeld3
import Derived.Laws.Rows
import Derived.Lib.AppendStr
import Derived.ArgAppend
import Derived.Laws.IdiomCopy
import Derived.OrdersHeld
import Derived.Laws.BitsLemmas
import Derived.RowKit
import Derived.Test.YtknlpjoidjgciaaDoorWWords
import Derived.Test.YtknlpjoidjgciaaDoorWLast
import Derived.Test.YtknlpjoidjgciaaDoorWTab
import Derived.Test.YtknlpjoidjgciaaDoorWFour
import Derived.Test.YtknlpjoidjgciaaDoorWQPut
import Derived.Test.YtknlpjoidjgciaaDoorWApart
import Derived.Test.YtknlpjoidjgciaaDoorWArr
import Derived.Test.YtknlpjoidjgciaaDoorWZeros
import Derived.Test.YtknlpjoidjgciaaDoorWFoot
import Derived.Test.YtknlpjoidjgciaaDoorWKept
import Derived.Test.YtknlpjoidjgciaaDoorWShare
import Derived.Test.YtknlpjoidjgciaaDoorWN
import Derived.Test.YtknlpjoidjgciaaDoorWFootNe
import Derived.Test.YtknlpjoidjgciaaDoorWAt
import Derived.Test.YtknlpjoidjgciaaDoorWEqStruct
import Derived.Test.YtknlpjoidjgciaaDoorWRepsOne
import Derived.Test.YtknlpjoidjgciaaDoorWInv
import Derived.Test.YtknlpjoidjgciaaDoorWInvWords
import Derived.Test.YtknlpjoidjgciaaDoorWGuard
import Derived.Test.YtknlpjoidjgciaaDoorWNEv
import Derived.Test.YtknlpjoidjgciaaDoorWMore
import Derived.Test.YtknlpjoidjgciaaDoorWHand
import Derived.Test.YtknlpjoidjgciaaDoorWHx
import Derived.Test.YtknlpjoidjgciaaDoorWQTail
import Derived.Test.YtknlpjoidjgciaaDoorWHxS
import Derived.Test.YtknlpjoidjgciaaDoorWLe
import Derived.Test.YtknlpjoidjgciaaDoorWSps
import Derived.Test.YtknlpjoidjgciaaDoorWShelf
import Derived.Test.YtknlpjoidjgciaaDoorWEa
namespace Go.Proofs.YtknlpjoidjgciaaDoor.PFnExactSplitPath
open Go.RowKit Go.Proofs.YtknlpjoidjgciaaDoorW.PrintWords Go.Proofs.YtknlpjoidjgciaaDoorW.PrintLast Go.Proofs.YtknlpjoidjgciaaDoorW.PrintMore
attribute [local go_sem] max2_int min2_int max_two min_two max_three min_three max_four min_four   -- for this text's walks alone
set_option linter.unusedVariables false
set_option linter.unusedSimpArgs false



def errW : Option Int → Value
  | none => .nilIface
  | some c => .iface 0 (.int .i64 c)
theorem errW_none : errW none = .nilIface := rfl
theorem errW_some (c : Int) : errW (some c) = .iface 0 (.int .i64 c) := rfl

theorem info5 : (Tryd.prog.info? 5).map (fun i => (i.zero, i.size, i.bytes)) = some (some (.int .u8 0), 1, 1) := by kernel_rfl
theorem info9 : (Tryd.prog.info? 9).map (fun i => (i.zero, i.size, i.bytes)) = some (some (.string ⟨#[]⟩), 1, 16) := by kernel_rfl
-- the values' own types

end Go.Proofs.YtknlpjoidjgciaaDoor.PFnExactSplitPath
