/- The last inode in use of a table. No condition. -/
import Derived.Test.YtkghgjehjchajaaDoorWDec4
namespace Go.Proofs.YtkghgjehjchajaaDoorW.PrintTabl
open Go.RowKit Go.Proofs.YtkghgjehjchajaaDoorW.PrintWords Go.Proofs.YtkghgjehjchajaaDoorW.PrintHand Go.Proofs.YtkghgjehjchajaaDoorW.PrintHx Go.Proofs.YtkghgjehjchajaaDoorW.PrintLe Go.Proofs.YtkghgjehjchajaaDoorW.PrintIno
set_option linter.unusedVariables false
/-- The last place of the first k that is in use; 1 where none is. -/
def lastK (l : List (List Int)) : Nat → Int
  | 0 => 1
  | k + 1 => if (l.getD k []).getD 0 0 = 0 then lastK l k else (k : Int)
def lastOf (l : List (List Int)) : Int := if lastK l l.length < 1 then 1 else lastK l l.length
theorem lastK_range (l : List (List Int)) : ∀ k, 0 ≤ lastK l k ∧ lastK l k ≤ max 1 ((k : Int) - 1)
  | 0 => by
    show (0 : Int) ≤ 1 ∧ (1 : Int) ≤ max 1 (((0 : Nat) : Int) - 1)
    omega
  | k + 1 => by
    have := lastK_range l k
    unfold lastK
    split <;> omega
theorem lastOf_pos (l : List (List Int)) : 1 ≤ lastOf l := by
  unfold lastOf
  split <;> omega
end Go.Proofs.YtkghgjehjchajaaDoorW.PrintTabl
