-- Written by a program of this session (patch_print.py over the kit print)
import Derived.Test.YtkghgjehjchajaaDoorProg
import Derived.Below
import Derived.Deep.Draws
import Derived.Deep.AppendLies
import Derived.Maps.AppendAt
import Derived.OwnWalk
import Derived.Laws.BytesArg
import Derived.Laws.MakeOwn
import Derived.Laws.OwnMore
import Derived.Deep.OwnRows
import Derived.Tactics
import Derived.Lib.ConvBytes
import Derived.Laws.Slices
import Derived.WalkKit
import Derived.KernelRfl
import Derived.RowKit3
import Derived.Deep.LoopGhost
import Derived.Deep.QuietTactic
import Derived.BigQuiet
import Derived.WideLaws
import Derived.Deep.DeepCutAuto
import Derived.Deep.CutBlock
import Derived.Deep.RegionHeld3
import Derived.Laws.Rows
import Derived.Lib.AppendStr
import Derived.ArgAppend
import Derived.Laws.IdiomCopy
import Derived.OrdersHeld
import Derived.Laws.BitsLemmas
import Derived.RowKit
import Derived.Test.YtkghgjehjchajaaDoorWWords
import Derived.Test.YtkghgjehjchajaaDoorWLast
import Derived.Test.YtkghgjehjchajaaDoorWTab
import Derived.Test.YtkghgjehjchajaaDoorWFour
import Derived.Test.YtkghgjehjchajaaDoorWQPut
import Derived.Test.YtkghgjehjchajaaDoorWApart
import Derived.Test.YtkghgjehjchajaaDoorWArr
import Derived.Test.YtkghgjehjchajaaDoorWZeros
import Derived.Test.YtkghgjehjchajaaDoorWFoot
import Derived.Test.YtkghgjehjchajaaDoorWKept
import Derived.Test.YtkghgjehjchajaaDoorWShare
import Derived.Test.YtkghgjehjchajaaDoorWN
import Derived.Test.YtkghgjehjchajaaDoorWFootNe
import Derived.Test.YtkghgjehjchajaaDoorWAt
import Derived.Test.YtkghgjehjchajaaDoorWEqStruct
import Derived.Test.YtkghgjehjchajaaDoorWRepsOne
import Derived.Test.YtkghgjehjchajaaDoorWInv
import Derived.Test.YtkghgjehjchajaaDoorWInvWords
import Derived.Test.YtkghgjehjchajaaDoorWGuard
import Derived.Test.YtkghgjehjchajaaDoorWNEv
import Derived.Test.YtkghgjehjchajaaDoorWMore
import Derived.Test.YtkghgjehjchajaaDoorWHand
import Derived.Test.YtkghgjehjchajaaDoorWHx
import Derived.Test.YtkghgjehjchajaaDoorWQTail
import Derived.Test.YtkghgjehjchajaaDoorWHxS
import Derived.Test.YtkghgjehjchajaaDoorWLe
import Derived.Test.YtkghgjehjchajaaDoorWGrow
import Derived.Test.YtkghgjehjchajaaDoorWGrowT
import Derived.Test.YtkghgjehjchajaaDoorWDec
import Derived.Test.YtkghgjehjchajaaDoorWDec3
import Derived.Test.YtkghgjehjchajaaDoorWEqW
import Derived.Test.YtkghgjehjchajaaDoorWRaw
import Derived.Test.YtkghgjehjchajaaDoorWTab2
import Derived.Test.YtkghgjehjchajaaDoorWTab3
import Derived.Test.YtkghgjehjchajaaDoorWFsi
import Derived.Test.YtkghgjehjchajaaDoorWGrowS
import Derived.Test.YtkghgjehjchajaaDoorWOrd
import Derived.Test.YtkghgjehjchajaaDoorWCrc
import Derived.Test.YtkghgjehjchajaaDoorWFsb
import Derived.Test.YtkghgjehjchajaaDoorWIno
import Derived.Test.YtkghgjehjchajaaDoorWFsd
import Derived.Test.YtkghgjehjchajaaDoorWChs
import Derived.Test.YtkghgjehjchajaaDoorWEa
import Derived.Test.YtkghgjehjchajaaDoorWCps
namespace Go.Proofs.YtkghgjehjchajaaDoor.PFnExactChooseFsinfo
open Go.RowKit Go.Proofs.YtkghgjehjchajaaDoorW.PrintWords Go.Proofs.YtkghgjehjchajaaDoorW.PrintLast Go.Proofs.YtkghgjehjchajaaDoorW.PrintMore
attribute [local go_sem] max2_int min2_int max_two min_two max_three min_three max_four min_four   -- for this text's walks alone
set_option linter.unusedVariables false
set_option linter.unusedSimpArgs false



def errW : Option Int → Value
  | none => .nilIface
  | some c => .iface 0 (.int .i64 c)
theorem errW_none : errW none = .nilIface := rfl
theorem errW_some (c : Int) : errW (some c) = .iface 0 (.int .i64 c) := rfl

theorem info5 : (Tryd.prog.info? 5).map (fun i => (i.zero, i.size, i.bytes)) = some (some (.int .u8 0), 1, 1) := by kernel_rfl
-- the values' own types
def rd_L1 (xs : List (List Int)) (i : Int) : (List Int) := xs.getD i.toNat ([] : List Int)
theorem at_L1 {w : World} {A : Option Addr} {n : Nat} {xs : List (List Int)} (h : Kd.C (Kd.slice 5 (Kd.int .u8)) w A n xs) (i : Int) (h0 : 0 ≤ i) (h1 : i < n) : ∃ ad A0 c0, A = some ad ∧ w.cell? (ad.add i.toNat) = some (.slice A0 (rd_L1 xs i).length c0) ∧ (rd_L1 xs i).length ≤ c0 ∧ (Kd.int .u8).C w A0 (rd_L1 xs i).length (rd_L1 xs i) := by
  obtain ⟨ad, c, e, _, hK, hc0⟩ := Kd.C_get h ([] : List Int) i h0 h1
  have hc : ∀ j u, c[j]? = some u → w.cell? (ad.add (i.toNat * 1 + j)) = some u := hc0
  obtain ⟨A0, c0, rfl, l0, g0⟩ := hK
  exact ⟨ad, A0, c0, e, by have hq := hc 0 _ rfl; rwa [Nat.mul_one, Nat.add_zero] at hq, l0, g0⟩

end Go.Proofs.YtkghgjehjchajaaDoor.PFnExactChooseFsinfo
