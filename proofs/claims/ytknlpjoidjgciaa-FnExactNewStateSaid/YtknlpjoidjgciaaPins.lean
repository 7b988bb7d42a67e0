/- The two new states, as they lie; no condition. -/
import Derived.Test.YtknlpjoidjgciaaPmc
namespace Go.Proofs.Ytknlpjoidjgciaa.PFnExactNewState
open Go.RowKit Go.Proofs.YtknlpjoidjgciaaW.PrintWords Go.Proofs.YtknlpjoidjgciaaW.PrintLast Go.Proofs.YtknlpjoidjgciaaW.PrintMore
open Go.Proofs.YtknlpjoidjgciaaW Go.Proofs.YtknlpjoidjgciaaW.PrintHand Go.Proofs.YtknlpjoidjgciaaW.PrintHx
attribute [local go_sem] max2_int min2_int max_two min_two max_three min_three max_four min_four
set_option linter.unusedVariables false
set_option linter.unusedSimpArgs false
set_option maxRecDepth 100000 in
set_option maxHeartbeats 4000000 in
theorem ins_raw (w : World) : Calls Try.prog 13 #[] w fun e w' => e = .returned (.agg #[.int .i64 1, .slice (some ⟨w.heap.size + 1, 0, none⟩) 2 2]) ∧ w'.heap[w.heap.size + 1]? = some (.cells (mns_st 0).toArray 27 (0, 0)) ∧ Below w.heap.size w w' := by
  have hu33 := Try.underlying33
  have hu27 := Try.underlying27
  go_enter Try.func13, Try.ntmps13
  have nw : ∀ (W : World) (o : Obj) (n : Nat), n = W.heap.size → (W.alloc o).heap[n]? = some o := by intro W o n h; subst h; show (W.heap.push o)[W.heap.size]? = some o; exact Array.getElem?_push_size
  have od : ∀ (W : World) (o x : Obj) (n : Nat), n < W.heap.size → W.heap[n]? = some x → (W.alloc o).heap[n]? = some x := fun W o x n h hx => (Below.heap_alloc W o n h).trans hx
  go_wp2
  refine bodyPost_ret (results_cell_row rfl _ _ w.heap.size 33 #[.int .i64 1, .slice (some ⟨w.heap.size + 1, 0, none⟩) 2 2] (0, 0) _ rfl (od _ _ _ _ (by simp <;> omega) (nw _ _ _ rfl)) Try.underlying33 rfl (by kernel_rfl)) rfl ?_
  refine ⟨rfl, nw _ _ _ (by simp <;> omega), ?_⟩
  repeat (first | exact Below.refl _ _ | apply below_alloc)
set_option maxRecDepth 100000 in
set_option maxHeartbeats 4000000 in
theorem sns_raw (w : World) : Calls Try.prog 12 #[] w fun e w' => e = .returned (.agg #[.int .i64 1, .slice (some ⟨w.heap.size + 1 + 1, 0, none⟩) 2 2]) ∧ w'.heap[w.heap.size + 1 + 1]? = some (.cells (mns_st 0).toArray 27 (0, 0)) ∧ Below w.heap.size w w' := by
  have hu33 := Try.underlying33
  have hu27 := Try.underlying27
  go_enter Try.func12, Try.ntmps12
  have nw : ∀ (W : World) (o : Obj) (n : Nat), n = W.heap.size → (W.alloc o).heap[n]? = some o := by intro W o n h; subst h; show (W.heap.push o)[W.heap.size]? = some o; exact Array.getElem?_push_size
  have od : ∀ (W : World) (o x : Obj) (n : Nat), n < W.heap.size → W.heap[n]? = some x → (W.alloc o).heap[n]? = some x := fun W o x n h hx => (Below.heap_alloc W o n h).trans hx
  go_wp2
  refine bodyPost_ret (results_cell_row rfl _ _ w.heap.size 33 #[.int .i64 1, .slice (some ⟨w.heap.size + 1 + 1, 0, none⟩) 2 2] (0, 0) _ rfl (od _ _ _ _ (by simp <;> omega) (od _ _ _ _ (by simp <;> omega) (nw _ _ _ rfl))) Try.underlying33 rfl (by kernel_rfl)) rfl ?_
  refine ⟨rfl, nw _ _ _ (by simp <;> omega), ?_⟩
  repeat (first | exact Below.refl _ _ | apply below_alloc)
end Go.Proofs.Ytknlpjoidjgciaa.PFnExactNewState
