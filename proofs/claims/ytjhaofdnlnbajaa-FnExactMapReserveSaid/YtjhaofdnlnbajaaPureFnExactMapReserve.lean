/- The law of MapReserve answers true for every number; no condition. -/
import Derived.Test.YtjhaofdnlnbajaaPFnExactMapReservex1
namespace Go.Proofs.Ytjhaofdnlnbajaa.Pure
open Go.RowKit Go.Proofs.Ytjhaofdnlnbajaa.PFnExactMapReserve Go.Proofs.YtjhaofdnlnbajaaW.PrintWords Go.Proofs.YtjhaofdnlnbajaaW.PrintLast

theorem w64 {x : Int} (h0 : -9223372036854775808 ≤ x) (h1 : x ≤ 9223372036854775807) : wrap64 x = x := by unfold wrap64; omega
theorem FnExactMapReserve : laws_FnExactMapReserve.Pure := by
  intro a _
  refine ⟨1, ?_⟩
  unfold laws_FnExactMapReserve.f spec_MapReserve.f impl_MapReserve.f impl_within.f
  simp only [spec_MapReserve.j0]
  by_cases h1 : a < 64
  · rw [if_pos h1, if_neg (show ¬ a ≥ 64 by omega)]
    simp
  · rw [if_neg h1, if_pos (show a ≥ 64 by omega)]
    by_cases h2 : a > 2048
    · have h3 : ¬ a ≤ 2048 := by omega
      simp [h2, h3]
    · have h3 : a ≤ 2048 := by omega
      have e1 : wrap64 (a + 127) = a + 127 := w64 (by omega) (by omega)
      have e2 : wrap64 (a + 128) = a + 128 := w64 (by omega) (by omega)
      have e3 : wrap64 (a + 128 - 1) = a + 127 := by unfold wrap64; omega
      simp only [e1, e2, e3, h2, h3, decide_true, decide_false, Bool.false_eq_true, if_false, if_true, Option.bind_some]
      split <;> simp

end Go.Proofs.Ytjhaofdnlnbajaa.Pure
