-- Written by a program of this session (patch_print.py over the kit print)
import Derived.Test.YtkghgjehjchajaaProg
import Derived.Below
import Derived.Deep.Draws
import Derived.Deep.AppendLies
import Derived.Maps.AppendAt
import Derived.OwnWalk
import Derived.Laws.BytesArg
import Derived.Laws.MakeOwn
import Derived.Laws.OwnMore
import Derived.Deep.OwnRows
import Derived.Tactics
import Derived.Lib.ConvBytes
import Derived.Laws.Slices
import Derived.WalkKit
import Derived.KernelRfl
import Derived.RowKit3
import Derived.Deep.LoopGhost
import Derived.Deep.QuietTactic
import Derived.BigQuiet
import Derived.WideLaws
import Derived.Deep.DeepCutAuto
import Derived.Deep.CutBlock
import Derived.Deep.RegionHeld3
import Derived.Laws.Rows
import Derived.Lib.AppendStr
import Derived.ArgAppend
import Derived.Laws.IdiomCopy
import Derived.OrdersHeld
import Derived.Laws.BitsLemmas
import Derived.RowKit
import Derived.Test.YtkghgjehjchajaaWWords
import Derived.Test.YtkghgjehjchajaaWLast
import Derived.Test.YtkghgjehjchajaaWTab
import Derived.Test.YtkghgjehjchajaaWFour
import Derived.Test.YtkghgjehjchajaaWQPut
import Derived.Test.YtkghgjehjchajaaWApart
import Derived.Test.YtkghgjehjchajaaWArr
import Derived.Test.YtkghgjehjchajaaWZeros
import Derived.Test.YtkghgjehjchajaaWFoot
import Derived.Test.YtkghgjehjchajaaWKept
import Derived.Test.YtkghgjehjchajaaWShare
import Derived.Test.YtkghgjehjchajaaWN
import Derived.Test.YtkghgjehjchajaaWFootNe
import Derived.Test.YtkghgjehjchajaaWAt
import Derived.Test.YtkghgjehjchajaaWEqStruct
import Derived.Test.YtkghgjehjchajaaWRepsOne
import Derived.Test.YtkghgjehjchajaaWInv
import Derived.Test.YtkghgjehjchajaaWInvWords
import Derived.Test.YtkghgjehjchajaaWGuard
import Derived.Test.YtkghgjehjchajaaWNEv
import Derived.Test.YtkghgjehjchajaaWMore
import Derived.Test.YtkghgjehjchajaaWHand
import Derived.Test.YtkghgjehjchajaaWHx
import Derived.Test.YtkghgjehjchajaaWQTail
import Derived.Test.YtkghgjehjchajaaWHxS
import Derived.Test.YtkghgjehjchajaaWLe
import Derived.Test.YtkghgjehjchajaaWGrowL
import Derived.Test.YtkghgjehjchajaaWDec
import Derived.Test.YtkghgjehjchajaaWRaw
import Derived.Test.YtkghgjehjchajaaWDec2
namespace Go.Proofs.Ytkghgjehjchajaa.PFnExactDecodeRoot
open Go.RowKit Go.Proofs.YtkghgjehjchajaaW.PrintWords Go.Proofs.YtkghgjehjchajaaW.PrintLast Go.Proofs.YtkghgjehjchajaaW.PrintMore
attribute [local go_sem] max2_int min2_int max_two min_two max_three min_three max_four min_four   -- for this text's walks alone
set_option linter.unusedVariables false
set_option linter.unusedSimpArgs false



def errW : Option Int → Value
  | none => .nilIface
  | some c => .iface 0 (.int .i64 c)
theorem errW_none : errW none = .nilIface := rfl
theorem errW_some (c : Int) : errW (some c) = .iface 0 (.int .i64 c) := rfl

theorem info5 : (Try.prog.info? 5).map (fun i => (i.zero, i.size, i.bytes)) = some (some (.int .u8 0), 1, 1) := by kernel_rfl
-- the values' own types

end Go.Proofs.Ytkghgjehjchajaa.PFnExactDecodeRoot
