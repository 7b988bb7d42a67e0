/- The law's marks on a state; no condition. -/
import Derived.Test.YtknlpjoidjgciaaPmns
namespace Go.Proofs.Ytknlpjoidjgciaa.PFnExactNewState
open Go.RowKit Go.Proofs.YtknlpjoidjgciaaW.PrintWords Go.Proofs.YtknlpjoidjgciaaW.PrintLast Go.Proofs.YtknlpjoidjgciaaW.PrintMore
open Go.Proofs.YtknlpjoidjgciaaW Go.Proofs.YtknlpjoidjgciaaW.PrintHand Go.Proofs.YtknlpjoidjgciaaW.PrintHx
attribute [local go_sem] max2_int min2_int max_two min_two max_three min_three max_four min_four
set_option linter.unusedVariables false
set_option linter.unusedSimpArgs false
set_option maxRecDepth 100000 in
set_option maxHeartbeats 4000000 in
theorem ms_raw (g cap : Nat) (w : World) (hg0 : w.heap[g]? = some (.cells (mns_st 0).toArray 27 (0, 0))) :
    Calls Try.prog 15 #[.agg #[.int .i64 1, .slice (some ⟨g, 0, none⟩) 2 cap], .int .i64 1] w fun e w' => e = .returned (.int .i64 19) ∧ MT g w w' ∧ w'.heap[g]? = some (.cells (mns_st 2).toArray 27 (0, 0)) := by
  have hu33 := Try.underlying33
  have HG := Aside0.mk hg0
  clear hg0
  go_enter Try.func15, Try.ntmps15
  go_wp2_with (first | (go_at_call 33; refine (mns_raw g cap _ ((Below.heap_alloc w _ g (Array.getElem?_eq_some_iff.1 HG.out).1).trans HG.out)).mono ?_; rintro e_ w1 ⟨rfl, M1, G1⟩))
  go_ret
  exact ⟨rfl, ⟨M1.os, M1.tape, M1.output, Nat.le_trans (by simp) M1.size, fun j hj hg => (M1.other j (by simp; omega) hg).trans (Below.heap_alloc w _ j hj)⟩, G1⟩
end Go.Proofs.Ytknlpjoidjgciaa.PFnExactNewState
