/- FnTable: what the law needs to know of a table. -/
import Derived.Test.YtkghgjehjchajaaPFnTablex10
import Derived.Test.YtkghgjehjchajaaPFnTablex9
import Derived.Test.YtkghgjehjchajaaPFnTablex8
import Derived.OrdersHeld
import Derived.Test.YtkghgjehjchajaaWTab3
namespace Go.Proofs.Ytkghgjehjchajaa.PFnTable
open Go.RowKit Go.Proofs.YtkghgjehjchajaaW.PrintWords Go.Proofs.YtkghgjehjchajaaW.PrintLast Go.Proofs.YtkghgjehjchajaaW.PrintMore
open Go.Proofs.YtkghgjehjchajaaW Go.Proofs.YtkghgjehjchajaaW.PrintHand Go.Proofs.YtkghgjehjchajaaW.PrintHx
open Go.Proofs.YtkghgjehjchajaaW.PrintEqW Go.Proofs.YtkghgjehjchajaaW.PrintTab2 Go.Proofs.YtkghgjehjchajaaW.PrintTab3
attribute [local go_sem] max2_int min2_int max_two min_two max_three min_three max_four min_four
set_option linter.unusedVariables false
set_option linter.unusedSimpArgs false

/-- What the law needs to know of a table. -/
def TF (l : List (List Int)) : Prop := ∃ (B : List Int) (c1 k : Int) (R : List (List Int)), impl_EncodeTable.f l = some (B, c1) ∧ spec_EncodeTable.f l = some (B, c1) ∧ impl_LowestInode.f l = some k ∧
  (∀ n : Nat, 2 ≤ n → n < l.length → (n : Int) < k → ¬ (l.getD n []).getD 0 0 = 0) ∧
  ((k = 0) ∨ (∃ q : Nat, k = (q : Int) ∧ 2 ≤ q ∧ q ≤ 1000 ∧ l.length ≤ q) ∨ (∃ q : Nat, k = (q : Int) ∧ 2 ≤ q ∧ q ≤ 1000 ∧ q < l.length ∧ (l.getD q []).getD 0 0 = 0)) ∧
  ((c1 = 7 ∧ (¬ k = 0 ∨ 1000 < l.length)) ∨
   (c1 = 0 ∧ laws_cp.f B = some B ∧ impl_DecodeTable.f B = some (R, 0) ∧ impl_EncodeTable.f R = some (B, 0) ∧ laws_smBytes.f B B = some true ∧ R.length ≤ 1100 ∧ 256 ≤ B.length ∧
    (∀ n, n < R.length → (n < l.length → l.getD n [] = R.getD n []) ∧ (l.length ≤ n → R.getD n [] = zInode))))

end Go.Proofs.Ytkghgjehjchajaa.PFnTable
