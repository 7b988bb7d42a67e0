/- FnTable: the law answers true. -/
import Derived.Test.YtkghgjehjchajaaTbg
import Derived.Test.YtkghgjehjchajaaTbp
import Derived.OpenShut
namespace Go.Proofs.Ytkghgjehjchajaa.PureTable
open Go.RowKit Go.Proofs.YtkghgjehjchajaaW.PrintWords Go.Proofs.YtkghgjehjchajaaW.PrintLast Go.Proofs.YtkghgjehjchajaaW.PrintMore Go.Proofs.YtkghgjehjchajaaW Go.Proofs.Ytkghgjehjchajaa.PFnTable
set_option linter.unusedVariables false
set_option maxHeartbeats 8000000 in
set_option maxRecDepth 100000 in
theorem fnTable_big (A0 : Option Addr) (c0 : Nat) (l0 : List Int) (w : World) (h0 : (l0.length : Int) > 1048576) :
    Calls Try.prog 9 #[.slice A0 l0.length c0] w fun e w' => e = .returned (.bool true) ∧ Below w.heap.size w w' := by
  have h0a : decide (1048576 < (l0.length : Int)) = true := decide_eq_true h0
  have h0b : decide (1048576 < l0.length) = true := decide_eq_true (by omega)
  go_enter Try.func9, Try.ntmps9
  go_wp2
  go_ret
  exact ⟨rfl, Below.refl _ _⟩
theorem walk (a0 : Option Addr) (len0 cap0 : Nat) (z0 : List Int) (w : World) (w0 : (a0 = none ∧ len0 = 0 ∧ cap0 = 0 ∧ z0 = []) ∨ ∃ x, a0 = some x ∧ len0 ≤ cap0 ∧ cap0 ≤ maxLen ∧ z0.length = cap0 ∧ (∀ i, i < z0.length → w.cell? (x.add i) = some (.int .u8 (z0.getD i 0))) ∧ ∀ n ∈ z0, (Lit.int .u8 n).wf = true) :
    Calls Try.prog 9 #[.slice a0 len0 cap0] w fun e w' => e = .returned (.bool true) ∧ Below w.heap.size w w' := by
  obtain ⟨l0, rfl, hr0, hm0, hw0, hc0⟩ := ReadsInt.ofRowC w0
  by_cases h : (l0.length : Int) > 1048576
  · exact fnTable_big _ _ l0 w h
  · exact laws_FnTable.walk _ _ l0 w (Kd.C_of_reads (d := (0 : Int)) (h1 := fun _ => rfl) hr0) hc0 h table_ok
end Go.Proofs.Ytkghgjehjchajaa.PureTable
