/- Two nodes without bytes, read as a row; no condition. -/
import Derived.Test.YtknlpjoidjgciaaPms
namespace Go.Proofs.Ytknlpjoidjgciaa.PFnExactNewState
open Go.RowKit Go.Proofs.YtknlpjoidjgciaaW.PrintWords Go.Proofs.YtknlpjoidjgciaaW.PrintLast Go.Proofs.YtknlpjoidjgciaaW.PrintMore
open Go.Proofs.YtknlpjoidjgciaaW Go.Proofs.YtknlpjoidjgciaaW.PrintHand Go.Proofs.YtknlpjoidjgciaaW.PrintHx
attribute [local go_sem] max2_int min2_int max_two min_two max_three min_three max_four min_four
set_option linter.unusedVariables false
set_option linter.unusedSimpArgs false
def ncells (x : S27) : List Value := [.int .i64 x.f0, .int .i64 x.f1, .int .i64 x.f2, .int .i64 x.f3, .int .i64 x.f4, .int .i64 x.f5, .int .i64 x.f6, .int .i64 x.f7, .int .i64 x.f8, .slice none 0 0]
theorem ncells_len (x : S27) : (ncells x).length = 10 := rfl
theorem raw_C {w : World} {g : Nat} (x y : S27) (hx : x.f9 = []) (hy : y.f9 = []) (h : w.heap[g]? = some (.cells (ncells x ++ ncells y).toArray 27 (0, 0))) : Kd.C k27 w (some ⟨g, 0, none⟩) 2 [x, y] := by
  have hk : ∀ z : S27, z.f9 = [] → k27.K w z (ncells z) := by
    intro z hz
    have := k27_mk w z (A9 := none) (c9 := 0) (by rw [hz]; exact Nat.le_refl _) (by rw [hz]; exact Kd.C_nil _ _)
    rw [hz] at this
    exact this
  have hc : ∀ i u, (ncells x ++ ncells y)[i]? = some u → w.cell? ⟨g, i, none⟩ = some u := by
    intro i u hi
    unfold World.cell?
    rw [h]
    simpa using hi
  refine ⟨rfl, by decide, fun _ => ⟨⟨g, 0, none⟩, rfl, fun j p hj => ?_⟩⟩
  rcases j with _ | _ | j
  · obtain rfl : x = p := by simpa using hj
    refine ⟨_, ncells_len x, hk x hx, fun i u hi => ?_⟩
    rw [add_plain]
    refine hc _ _ ?_
    have hl : i < (ncells x).length := (List.getElem?_eq_some_iff.1 hi).1
    rw [List.getElem?_append_left (by omega), show 0 * k27.sz + i = i by omega]
    exact hi
  · obtain rfl : y = p := by simpa using hj
    refine ⟨_, ncells_len y, hk y hy, fun i u hi => ?_⟩
    rw [add_plain]
    refine hc _ _ ?_
    rw [show (0 + 1) * k27.sz + i = (ncells x).length + i by rw [ncells_len]; show (0 + 1) * 10 + i = 10 + i; omega, List.getElem?_append_right (by omega), Nat.add_sub_cancel_left]
    exact hi
  · simp at hj
end Go.Proofs.Ytknlpjoidjgciaa.PFnExactNewState
