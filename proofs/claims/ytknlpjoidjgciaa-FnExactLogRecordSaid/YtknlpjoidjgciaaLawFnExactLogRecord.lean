-- Written by a program of this session (patch_print.py over the kit print)
import Derived.Test.YtknlpjoidjgciaaRows
import Derived.Test.YtknlpjoidjgciaaWOpen
import Derived.Test.YtknlpjoidjgciaaPFnExactLogRecordx17
import Derived.Test.YtknlpjoidjgciaaPureFnExactLogRecord
import Derived.WalkKit
import Derived.ProofKit
import Derived.OpenShut
import Derived.ShutString
import Derived.ChangeOld
import Derived.Below
import Derived.SizedLaws
namespace Go.Proofs.Ytknlpjoidjgciaa.fnExactLogRecord
open Go.ChangeShapes Go.WideShapes Go.ChangeAt Go.RowKit Go.Proofs.YtknlpjoidjgciaaW.PrintOpen Go.Proofs.Ytknlpjoidjgciaa.PFnExactLogRecord Go.Proofs.YtknlpjoidjgciaaW.PrintWords
open Go.ChangeMaps (open_string shut_string)
set_option linter.unusedVariables false
theorem own : ownKnob Try.prog.godebug = none := by kernel_rfl
theorem laidOut : laidOutB Try.prog = true := by kernel_rfl
set_option maxRecDepth 100000 in
theorem opens1 (W : World) : Opens Try.prog W 39 k39 (fun x => (((Lit.int .i64 x.f0).wf = true) ∧ (((Lit.int .i64 x.f1).wf = true) ∧ (((Lit.int .i64 x.f2).wf = true) ∧ (((Lit.int .i64 x.f3).wf = true) ∧ (((Lit.int .i64 x.f4).wf = true) ∧ ((x.f5.size ≤ maxLen) ∧ ((x.f6.size ≤ maxLen) ∧ ((x.f7.length ≤ maxLen ∧ ∀ q220 ∈ x.f7, (Lit.int .u8 q220).wf = true)))))))))) := (opens_iso (opens_struct (l := [(3, 0), (3, 1), (3, 2), (3, 3), (3, 4), (9, 5), (9, 6), (22, 7)]) Try.underlying39 rfl (by kernel_rfl) (opensT_cons rfl (by kernel_rfl) (opens_int Try.underlying3) (opensT_cons rfl (by kernel_rfl) (opens_int Try.underlying3) (opensT_cons rfl (by kernel_rfl) (opens_int Try.underlying3) (opensT_cons rfl (by kernel_rfl) (opens_int Try.underlying3) (opensT_cons rfl (by kernel_rfl) (opens_int Try.underlying3) (opensT_cons rfl (by kernel_rfl) (opens_string Try.underlying9) (opensT_cons rfl (by kernel_rfl) (opens_string Try.underlying9) (opensT_one rfl (by kernel_rfl) (opens_slice Try.underlying22 (by kernel_rfl) (opens_int Try.underlying5))))))))))) (fun a => ⟨⟨a.1, a.2.1, a.2.2.1, a.2.2.2.1, a.2.2.2.2.1, a.2.2.2.2.2.1, a.2.2.2.2.2.2.1, a.2.2.2.2.2.2.2⟩, rfl⟩) (fun b h_ => h_))
set_option maxRecDepth 100000 in
theorem lifted (os : Os) (started : os.Started) (H : Type) (enc : TypeId × Value → H) :
    ReturnsInHanded {} Try.checked os 6 .any (Rows.fnExactLogRecordSpec.pre6 enc Try.prog Try.f6 Rows.fnExactLogRecordRow.domain false) (Rows.fnExactLogRecordSpec.post enc Try.prog Try.f6 false true false false) := by
  refine returnsInHanded_of_change_sized (C := Try.checked) own started (by kernel_rfl) Try.func6
    (ChangeSpec.witness6 (enc := enc) (C := Try.checked) false ⟨#[], #[.int .i64 0, .agg #[.int .i64 0, .int .i64 0, .int .i64 0, .int .i64 0, .int .i64 0, .string ByteArray.empty, .string ByteArray.empty, .slice none 0 0]], []⟩ 8 (by kernel_rfl) (by kernel_rfl) (by kernel_rfl) (by kernel_rfl)) ?_
  intro W base args ds gs before hval0 hW hcnd hsz0 _
  have hval : ∀ (j : Nat) t v, Try.f6.params[j]? = some t → args[j]? = some v → Value.okWide Try.prog W .any base t v := hval0
  have hW' := hW
  obtain ⟨p, q, hA0, hV, rfl, hfz, hnd⟩ := hW
  have hA : DataW.TrodAll enc Try.prog W 0 (fun _ => true) true Try.f6.params.toList args.toList ds p := hA0
  rw [Try.params6] at hA hval
  obtain ⟨v0, vs0, d0, ds0, p0, q0, hargs, rfl, rfl, h0, r0⟩ := trodAll_cons hA
  obtain ⟨v1, vs1, d1, ds1, p1, q1, rfl, rfl, rfl, h1, r1⟩ := trodAll_cons r0
  obtain ⟨rfl, rfl, rfl⟩ := trodAll_nil r1
  obtain rfl : args = #[v0, v1] := by cases args; simp_all
  obtain ⟨rfl, rfl⟩ := trodVars_none hV
  obtain ⟨a0, rfl, rfl, rfl, w0⟩ := open_int Try.underlying3 (hval 0 3 v0 rfl rfl) h0
  have k1 := h1
  have lt1 : ∀ x ∈ p1, x.block < W.heap.size := by obtain ⟨m, hm⟩ := k1; exact DataW.trod_lt m _ _ _ hm
  obtain ⟨x1, cs1, rfl, K1, G1⟩ := opens_agg (opens1 W) Try.underlying39 (hval 1 39 v1 rfl rfl) h1
  obtain ⟨A1_7, c1_7, rfl, m1_7, g1_7⟩ := k39_open K1
  skip
  clear hA0 hval0 hsz0
  obtain ⟨k, h⟩ := Pure.FnExactLogRecord a0 x1.f0 x1.f1 x1.f2 x1.f3 x1.f4 x1.f5 x1.f6 x1.f7 w0 G1.1 G1.2.1 G1.2.2.1 G1.2.2.2.1 G1.2.2.2.2.1 G1.2.2.2.2.2.1 G1.2.2.2.2.2.2.1 G1.2.2.2.2.2.2.2
  refine (laws_FnExactLogRecord.calls k a0 x1.f0 x1.f1 x1.f2 x1.f3 x1.f4 x1.f5 x1.f6 A1_7 c1_7 x1.f7 true W g1_7 m1_7 h).mono ?_
  rintro e W' ⟨rfl, hd⟩
  have bel := hd
  exact ⟨_, rfl, _, _, _, [], _, [], hW', trodAll_mk1 (shut_bool Try.underlying4 _), (trodAll_cons_mk (shut_int Try.underlying3 w0) (trodAll_cons_mk (Below.trod laidOut (by kernel_rfl) (of_decide_eq_true (by kernel_rfl)) k1 bel lt1) trodAll_mk0)), rfl, bel.frame _, fun h => by cases h⟩
theorem over : Rows.fnExactLogRecordRow.holds Try.pinned (OpenSpec.ofChange Rows.fnExactLogRecordSpec) :=
  OpenClaim.holds_of_wide 6 Try.f6 rfl rfl rfl rfl rfl rfl rfl ⟨rfl, rfl, rfl, rfl, rfl⟩ rfl rfl rfl rfl rfl (by kernel_rfl) Try.func6 (by kernel_rfl)
    (of_decide_eq_true (by kernel_rfl)) (by unfold Func.isWrapper; first | (rw [if_pos (by decide +kernel)]; kernel_rfl) | (rw [if_neg (by decide +kernel)]; exact ⟨rfl, rfl⟩))
    (fun os started H enc _ => lifted os started H enc)
theorem proved : Rows.FnExactLogRecordSaid := over
#print axioms proved
end Go.Proofs.Ytknlpjoidjgciaa.fnExactLogRecord
namespace Go.Proofs.Ytknlpjoidjgciaa
/-- The row, under a short name, for the claim. -/
theorem fnExactLogRecord_holds : Rows.FnExactLogRecordSaid := fnExactLogRecord.proved
end Go.Proofs.Ytknlpjoidjgciaa
