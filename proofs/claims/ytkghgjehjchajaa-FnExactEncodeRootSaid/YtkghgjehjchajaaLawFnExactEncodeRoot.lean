-- Written by a program of this session (patch_print.py over the kit print)
import Derived.Test.YtkghgjehjchajaaRows
import Derived.Test.YtkghgjehjchajaaWOpen
import Derived.Test.YtkghgjehjchajaaWHx2
import Derived.Test.YtkghgjehjchajaaPFnExactEncodeRootx12
import Derived.Test.YtkghgjehjchajaaPureFnExactEncodeRoot
import Derived.WalkKit
import Derived.ProofKit
import Derived.OpenShut
import Derived.ShutString
import Derived.ChangeOld
import Derived.Below
import Derived.SizedLaws
namespace Go.Proofs.Ytkghgjehjchajaa.fnExactEncodeRoot
open Go.ChangeShapes Go.WideShapes Go.ChangeAt Go.RowKit Go.Proofs.YtkghgjehjchajaaW.PrintOpen Go.Proofs.YtkghgjehjchajaaW.PrintHx Go.Proofs.Ytkghgjehjchajaa.PFnExactEncodeRoot Go.Proofs.YtkghgjehjchajaaW.PrintWords
open Go.ChangeMaps (open_string shut_string)
set_option linter.unusedVariables false
theorem own : ownKnob Try.prog.godebug = none := by kernel_rfl
theorem laidOut : laidOutB Try.prog = true := by kernel_rfl
set_option maxRecDepth 100000 in
theorem opens0 (W : World) : Opens Try.prog W 24 (Go.Proofs.YtkghgjehjchajaaW.PrintHx.wide 15) (fun x => (x.length = 15 ∧ ∀ y ∈ x, (Lit.int .i64 y).wf = true)) := (opens_struct (l := [(3, 0), (22, 1), (3, 13), (3, 14)]) Try.underlying24 rfl (by kernel_rfl) (opensT_widec rfl (by kernel_rfl) (opens_wide1 Try.underlying3) (opensT_widec rfl (by kernel_rfl) (opens_widea (a := 1) (m := 11) Try.underlying22 (by kernel_rfl) (by kernel_rfl) (opens_wide1 Try.underlying3)) (opensT_widec rfl (by kernel_rfl) (opens_wide1 Try.underlying3) (opensT_wide1 rfl (by kernel_rfl) (opens_wide1 Try.underlying3))))))
set_option maxRecDepth 100000 in
theorem lifted (os : Os) (started : os.Started) (H : Type) (enc : TypeId × Value → H) :
    ReturnsInHanded {} Try.checked os 3 .any (Rows.fnExactEncodeRootSpec.pre6 enc Try.prog Try.f3 Rows.fnExactEncodeRootRow.domain false) (Rows.fnExactEncodeRootSpec.post enc Try.prog Try.f3 false true false false) := by
  refine returnsInHanded_of_change_sized (C := Try.checked) own started (by kernel_rfl) Try.func3
    (ChangeSpec.witness6 (enc := enc) (C := Try.checked) false ⟨#[], #[.agg #[.int .i64 0, .int .i64 0, .int .i64 0, .int .i64 0, .int .i64 0, .int .i64 0, .int .i64 0, .int .i64 0, .int .i64 0, .int .i64 0, .int .i64 0, .int .i64 0, .int .i64 0, .int .i64 0, .int .i64 0]], []⟩ 8 (by kernel_rfl) (by kernel_rfl) (by kernel_rfl) (by kernel_rfl)) ?_
  intro W base args ds gs before hval0 hW hcnd hsz0 _
  have hval : ∀ (j : Nat) t v, Try.f3.params[j]? = some t → args[j]? = some v → Value.okWide Try.prog W .any base t v := hval0
  have hW' := hW
  obtain ⟨p, q, hA0, hV, rfl, hfz, hnd⟩ := hW
  have hA : DataW.TrodAll enc Try.prog W 0 (fun _ => true) true Try.f3.params.toList args.toList ds p := hA0
  rw [Try.params3] at hA hval
  obtain ⟨v0, vs0, d0, ds0, p0, q0, hargs, rfl, rfl, h0, r0⟩ := trodAll_cons hA
  obtain ⟨rfl, rfl, rfl⟩ := trodAll_nil r0
  obtain rfl : args = #[v0] := by cases args; simp_all
  obtain ⟨rfl, rfl⟩ := trodVars_none hV
  have k0 := h0
  have lt0 : ∀ x ∈ p0, x.block < W.heap.size := by obtain ⟨m, hm⟩ := k0; exact DataW.trod_lt m _ _ _ hm
  obtain ⟨x0, cs0, rfl, K0, G0⟩ := opens_agg (opens0 W) Try.underlying24 (hval 0 24 v0 rfl rfl) h0
  obtain ⟨y0, rfl⟩ := K0
  clear hA0 hval0 hsz0
  have h := Pure.FnExactEncodeRoot x0 G0
  refine (laws_FnExactEncodeRoot.calls x0 y0 W h).mono ?_
  rintro e W' ⟨rfl, bel⟩
  exact ⟨_, rfl, _, _, _, [], _, [], hW', trodAll_mk1 (shut_bool Try.underlying4 _), (trodAll_cons_mk (Below.trod laidOut (by kernel_rfl) (of_decide_eq_true (by kernel_rfl)) k0 bel lt0) trodAll_mk0), rfl, bel.frame _, fun h => by cases h⟩
theorem over : Rows.fnExactEncodeRootRow.holds Try.pinned (OpenSpec.ofChange Rows.fnExactEncodeRootSpec) :=
  OpenClaim.holds_of_wide 3 Try.f3 rfl rfl rfl rfl rfl rfl rfl ⟨rfl, rfl, rfl, rfl, rfl⟩ rfl rfl rfl rfl rfl (by kernel_rfl) Try.func3 (by kernel_rfl)
    (of_decide_eq_true (by kernel_rfl)) (by unfold Func.isWrapper; first | (rw [if_pos (by decide +kernel)]; kernel_rfl) | (rw [if_neg (by decide +kernel)]; exact ⟨rfl, rfl⟩))
    (fun os started H enc _ => lifted os started H enc)
theorem proved : Rows.FnExactEncodeRootSaid := over
#print axioms proved
end Go.Proofs.Ytkghgjehjchajaa.fnExactEncodeRoot
namespace Go.Proofs.Ytkghgjehjchajaa
/-- The row, under a short name, for the claim. -/
theorem fnExactEncodeRoot_holds : Rows.FnExactEncodeRootSaid := fnExactEncodeRoot.proved
end Go.Proofs.Ytkghgjehjchajaa
