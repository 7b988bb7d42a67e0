-- Written by a program of this session (patch_print.py over the kit print)
import Derived.Test.YtknlpjoidjgciaaRows
import Derived.Test.YtknlpjoidjgciaaWOpen
import Derived.Test.YtknlpjoidjgciaaPFnExactMayAccessx2
import Derived.Test.YtknlpjoidjgciaaPureFnExactMayAccess
import Derived.WalkKit
import Derived.ProofKit
import Derived.OpenShut
import Derived.ShutString
import Derived.ChangeOld
import Derived.Below
import Derived.SizedLaws
namespace Go.Proofs.Ytknlpjoidjgciaa.fnExactMayAccess
open Go.ChangeShapes Go.WideShapes Go.ChangeAt Go.RowKit Go.Proofs.YtknlpjoidjgciaaW.PrintOpen Go.Proofs.Ytknlpjoidjgciaa.PFnExactMayAccess Go.Proofs.YtknlpjoidjgciaaW.PrintWords
open Go.ChangeMaps (open_string shut_string)
set_option linter.unusedVariables false
theorem own : ownKnob Try.prog.godebug = none := by kernel_rfl
theorem laidOut : laidOutB Try.prog = true := by kernel_rfl
set_option maxRecDepth 100000 in
theorem opens0 (W : World) : Opens Try.prog W 24 k24 (fun x => (((Lit.int .i64 x.f0).wf = true) ∧ (((Lit.int .i64 x.f1).wf = true) ∧ (((Lit.int .i64 x.f2).wf = true) ∧ (((Lit.int .i64 x.f3).wf = true) ∧ (((Lit.int .i64 x.f4).wf = true) ∧ (((Lit.int .i64 x.f5).wf = true) ∧ (((Lit.int .i64 x.f6).wf = true) ∧ (((Lit.int .i64 x.f7).wf = true) ∧ (((Lit.int .i64 x.f8).wf = true) ∧ ((x.f9.length ≤ maxLen ∧ ∀ q168 ∈ x.f9, (Lit.int .u8 q168).wf = true)))))))))))) := (opens_iso (opens_struct (l := [(3, 0), (3, 1), (3, 2), (3, 3), (3, 4), (3, 5), (3, 6), (3, 7), (3, 8), (22, 9)]) Try.underlying24 rfl (by kernel_rfl) (opensT_cons rfl (by kernel_rfl) (opens_int Try.underlying3) (opensT_cons rfl (by kernel_rfl) (opens_int Try.underlying3) (opensT_cons rfl (by kernel_rfl) (opens_int Try.underlying3) (opensT_cons rfl (by kernel_rfl) (opens_int Try.underlying3) (opensT_cons rfl (by kernel_rfl) (opens_int Try.underlying3) (opensT_cons rfl (by kernel_rfl) (opens_int Try.underlying3) (opensT_cons rfl (by kernel_rfl) (opens_int Try.underlying3) (opensT_cons rfl (by kernel_rfl) (opens_int Try.underlying3) (opensT_cons rfl (by kernel_rfl) (opens_int Try.underlying3) (opensT_one rfl (by kernel_rfl) (opens_slice Try.underlying22 (by kernel_rfl) (opens_int Try.underlying5))))))))))))) (fun a => ⟨⟨a.1, a.2.1, a.2.2.1, a.2.2.2.1, a.2.2.2.2.1, a.2.2.2.2.2.1, a.2.2.2.2.2.2.1, a.2.2.2.2.2.2.2.1, a.2.2.2.2.2.2.2.2.1, a.2.2.2.2.2.2.2.2.2⟩, rfl⟩) (fun b h_ => h_))
set_option maxRecDepth 100000 in
theorem lifted (os : Os) (started : os.Started) (H : Type) (enc : TypeId × Value → H) :
    ReturnsInHanded {} Try.checked os 3 .any (Rows.fnExactMayAccessSpec.pre6 enc Try.prog Try.f3 Rows.fnExactMayAccessRow.domain false) (Rows.fnExactMayAccessSpec.post enc Try.prog Try.f3 false true false false) := by
  refine returnsInHanded_of_change_sized (C := Try.checked) own started (by kernel_rfl) Try.func3
    (ChangeSpec.witness6 (enc := enc) (C := Try.checked) false ⟨#[], #[.agg #[.int .i64 0, .int .i64 0, .int .i64 0, .int .i64 0, .int .i64 0, .int .i64 0, .int .i64 0, .int .i64 0, .int .i64 0, .slice none 0 0], .int .i64 0, .int .i64 0, .int .i64 0], []⟩ 8 (by kernel_rfl) (by kernel_rfl) (by kernel_rfl) (by kernel_rfl)) ?_
  intro W base args ds gs before hval0 hW hcnd hsz0 _
  have hval : ∀ (j : Nat) t v, Try.f3.params[j]? = some t → args[j]? = some v → Value.okWide Try.prog W .any base t v := hval0
  have hW' := hW
  obtain ⟨p, q, hA0, hV, rfl, hfz, hnd⟩ := hW
  have hA : DataW.TrodAll enc Try.prog W 0 (fun _ => true) true Try.f3.params.toList args.toList ds p := hA0
  rw [Try.params3] at hA hval
  obtain ⟨v0, vs0, d0, ds0, p0, q0, hargs, rfl, rfl, h0, r0⟩ := trodAll_cons hA
  obtain ⟨v1, vs1, d1, ds1, p1, q1, rfl, rfl, rfl, h1, r1⟩ := trodAll_cons r0
  obtain ⟨v2, vs2, d2, ds2, p2, q2, rfl, rfl, rfl, h2, r2⟩ := trodAll_cons r1
  obtain ⟨v3, vs3, d3, ds3, p3, q3, rfl, rfl, rfl, h3, r3⟩ := trodAll_cons r2
  obtain ⟨rfl, rfl, rfl⟩ := trodAll_nil r3
  obtain rfl : args = #[v0, v1, v2, v3] := by cases args; simp_all
  obtain ⟨rfl, rfl⟩ := trodVars_none hV
  have k0 := h0
  have lt0 : ∀ x ∈ p0, x.block < W.heap.size := by obtain ⟨m, hm⟩ := k0; exact DataW.trod_lt m _ _ _ hm
  obtain ⟨x0, cs0, rfl, K0, G0⟩ := opens_agg (opens0 W) Try.underlying24 (hval 0 24 v0 rfl rfl) h0
  obtain ⟨A0_9, c0_9, rfl, m0_9, g0_9⟩ := k24_open K0
  skip
  obtain ⟨a1, rfl, rfl, rfl, w1⟩ := open_int Try.underlying3 (hval 1 3 v1 rfl rfl) h1
  obtain ⟨a2, rfl, rfl, rfl, w2⟩ := open_int Try.underlying3 (hval 2 3 v2 rfl rfl) h2
  obtain ⟨a3, rfl, rfl, rfl, w3⟩ := open_int Try.underlying3 (hval 3 3 v3 rfl rfl) h3
  clear hA0 hval0 hsz0
  obtain ⟨k, h⟩ := Pure.FnExactMayAccess x0.f0 x0.f1 x0.f2 x0.f3 x0.f4 x0.f5 x0.f6 x0.f7 x0.f8 x0.f9 a1 a2 a3 G0.1 G0.2.1 G0.2.2.1 G0.2.2.2.1 G0.2.2.2.2.1 G0.2.2.2.2.2.1 G0.2.2.2.2.2.2.1 G0.2.2.2.2.2.2.2.1 G0.2.2.2.2.2.2.2.2.1 G0.2.2.2.2.2.2.2.2.2 w1 w2 w3
  refine (laws_FnExactMayAccess.calls k x0.f0 x0.f1 x0.f2 x0.f3 x0.f4 x0.f5 x0.f6 x0.f7 x0.f8 A0_9 c0_9 x0.f9 a1 a2 a3 true W g0_9 m0_9 h).mono ?_
  rintro e W' ⟨rfl, hd⟩
  have bel := hd
  exact ⟨_, rfl, _, _, _, [], _, [], hW', trodAll_mk1 (shut_bool Try.underlying4 _), (trodAll_cons_mk (Below.trod laidOut (by kernel_rfl) (of_decide_eq_true (by kernel_rfl)) k0 bel lt0) (trodAll_cons_mk (shut_int Try.underlying3 w1) (trodAll_cons_mk (shut_int Try.underlying3 w2) (trodAll_cons_mk (shut_int Try.underlying3 w3) trodAll_mk0)))), rfl, bel.frame _, fun h => by cases h⟩
theorem over : Rows.fnExactMayAccessRow.holds Try.pinned (OpenSpec.ofChange Rows.fnExactMayAccessSpec) :=
  OpenClaim.holds_of_wide 3 Try.f3 rfl rfl rfl rfl rfl rfl rfl ⟨rfl, rfl, rfl, rfl, rfl⟩ rfl rfl rfl rfl rfl (by kernel_rfl) Try.func3 (by kernel_rfl)
    (of_decide_eq_true (by kernel_rfl)) (by unfold Func.isWrapper; first | (rw [if_pos (by decide +kernel)]; kernel_rfl) | (rw [if_neg (by decide +kernel)]; exact ⟨rfl, rfl⟩))
    (fun os started H enc _ => lifted os started H enc)
theorem proved : Rows.FnExactMayAccessSaid := over
#print axioms proved
end Go.Proofs.Ytknlpjoidjgciaa.fnExactMayAccess
namespace Go.Proofs.Ytknlpjoidjgciaa
/-- The row, under a short name, for the claim. -/
theorem fnExactMayAccess_holds : Rows.FnExactMayAccessSaid := fnExactMayAccess.proved
end Go.Proofs.Ytknlpjoidjgciaa
