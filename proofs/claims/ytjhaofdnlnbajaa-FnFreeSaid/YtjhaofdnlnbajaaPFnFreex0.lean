-- Written by a program of this session (patch_print.py over the kit print)
import Derived.Test.YtjhaofdnlnbajaaProg
import Derived.Below
import Derived.Deep.Draws
import Derived.Deep.AppendLies
import Derived.Maps.AppendAt
import Derived.OwnWalk
import Derived.Laws.BytesArg
import Derived.Laws.MakeOwn
import Derived.Laws.OwnMore
import Derived.Deep.OwnRows
import Derived.Tactics
import Derived.Lib.ConvBytes
import Derived.Laws.Slices
import Derived.WalkKit
import Derived.KernelRfl
import Derived.RowKit3
import Derived.Deep.LoopGhost
import Derived.Deep.QuietTactic
import Derived.BigQuiet
import Derived.WideLaws
import Derived.Deep.DeepCutAuto
import Derived.Deep.CutBlock
import Derived.Deep.RegionHeld3
import Derived.Laws.Rows
import Derived.Lib.AppendStr
import Derived.ArgAppend
import Derived.Laws.IdiomCopy
import Derived.OrdersHeld
import Derived.Laws.BitsLemmas
import Derived.RowKit
import Derived.Test.YtjhaofdnlnbajaaWWords
import Derived.Test.YtjhaofdnlnbajaaWLast
import Derived.Test.YtjhaofdnlnbajaaWTab
import Derived.Test.YtjhaofdnlnbajaaWFour
import Derived.Test.YtjhaofdnlnbajaaWQPut
import Derived.Test.YtjhaofdnlnbajaaWApart
import Derived.Test.YtjhaofdnlnbajaaWArr
import Derived.Test.YtjhaofdnlnbajaaWZeros
import Derived.Test.YtjhaofdnlnbajaaWFoot
import Derived.Test.YtjhaofdnlnbajaaWKept
import Derived.Test.YtjhaofdnlnbajaaWShare
import Derived.Test.YtjhaofdnlnbajaaWN
import Derived.Test.YtjhaofdnlnbajaaWFootNe
import Derived.Test.YtjhaofdnlnbajaaWAt
import Derived.Test.YtjhaofdnlnbajaaWEqStruct
import Derived.Test.YtjhaofdnlnbajaaWRepsOne
import Derived.Test.YtjhaofdnlnbajaaWInv
import Derived.Test.YtjhaofdnlnbajaaWInvWords
import Derived.Test.YtjhaofdnlnbajaaWGuard
import Derived.Test.YtjhaofdnlnbajaaWNEv
import Derived.Test.YtjhaofdnlnbajaaWMore
import Derived.Test.YtjhaofdnlnbajaaWHand
import Derived.Test.YtjhaofdnlnbajaaWHx
import Derived.Test.YtjhaofdnlnbajaaWQTail
import Derived.Test.YtjhaofdnlnbajaaWHxS
import Derived.Test.YtjhaofdnlnbajaaWLe
import Derived.Test.YtjhaofdnlnbajaaWRf
namespace Go.Proofs.Ytjhaofdnlnbajaa.PFnFree
open Go.RowKit Go.Proofs.YtjhaofdnlnbajaaW.PrintWords Go.Proofs.YtjhaofdnlnbajaaW.PrintLast Go.Proofs.YtjhaofdnlnbajaaW.PrintMore
attribute [local go_sem] max2_int min2_int max_two min_two max_three min_three max_four min_four   -- for this text's walks alone
set_option linter.unusedVariables false
set_option linter.unusedSimpArgs false



def errW : Option Int → Value
  | none => .nilIface
  | some c => .iface 0 (.int .i64 c)
theorem errW_none : errW none = .nilIface := rfl
theorem errW_some (c : Int) : errW (some c) = .iface 0 (.int .i64 c) := rfl

theorem info3 : (Try.prog.info? 3).map (fun i => (i.zero, i.size, i.bytes)) = some (some (.int .i64 0), 1, 8) := by kernel_rfl
-- the values' own types

end Go.Proofs.Ytjhaofdnlnbajaa.PFnFree
