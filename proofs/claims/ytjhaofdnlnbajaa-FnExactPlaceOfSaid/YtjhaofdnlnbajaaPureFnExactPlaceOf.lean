/- The law of PlaceOf answers true for every number; no condition. -/
import Derived.Test.YtjhaofdnlnbajaaPFnExactPlaceOfx1
namespace Go.Proofs.Ytjhaofdnlnbajaa.Pure
open Go.RowKit Go.Proofs.Ytjhaofdnlnbajaa.PFnExactPlaceOf Go.Proofs.YtjhaofdnlnbajaaW.PrintWords Go.Proofs.YtjhaofdnlnbajaaW.PrintLast

theorem w64 {x : Int} (h0 : -9223372036854775808 ≤ x) (h1 : x ≤ 9223372036854775807) : wrap64 x = x := by unfold wrap64; omega
theorem FnExactPlaceOf : laws_FnExactPlaceOf.Pure := by
  intro a _
  refine ⟨1, ?_⟩
  unfold laws_FnExactPlaceOf.f spec_PlaceOf.f impl_PlaceOf.f impl_within.f laws_eqPlace.f
  simp only [spec_PlaceOf.j0]
  by_cases h1 : a < 0
  · rw [if_pos h1, if_neg (show ¬ a ≥ 0 by omega)]
    simp
  · rw [if_neg h1, if_pos (show a ≥ 0 by omega)]
    by_cases h2 : a ≥ 512
    · have h3 : ¬ a ≤ 511 := by omega
      simp [h2, h3]
    · have h3 : a ≤ 511 := by omega
      have e1 : wrap64 (a - 12) = a - 12 := w64 (by omega) (by omega)
      have e2 : wrap64 (a - 140) = a - 140 := w64 (by omega) (by omega)
      have e3 : wrap64 (a - 12 - 128) = a - 140 := by unfold wrap64; omega
      simp only [e1, e2, e3, h2, h3, decide_true, decide_false, Bool.false_eq_true, if_false, if_true, Option.bind_some]
      split
      · simp
      · split <;> simp

end Go.Proofs.Ytjhaofdnlnbajaa.Pure
