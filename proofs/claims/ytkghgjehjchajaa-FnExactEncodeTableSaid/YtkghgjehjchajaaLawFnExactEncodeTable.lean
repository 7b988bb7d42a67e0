-- Written by a program of this session (patch_print.py over the kit print)
import Derived.Test.YtkghgjehjchajaaRows
import Derived.Test.YtkghgjehjchajaaWOpen
import Derived.Test.YtkghgjehjchajaaWHx2
import Derived.Test.YtkghgjehjchajaaPFnExactEncodeTablex14
import Derived.Test.YtkghgjehjchajaaPureFnExactEncodeTable
import Derived.WalkKit
import Derived.ProofKit
import Derived.OpenShut
import Derived.ShutString
import Derived.ChangeOld
import Derived.Below
import Derived.SizedLaws
namespace Go.Proofs.Ytkghgjehjchajaa.fnExactEncodeTable
open Go.ChangeShapes Go.WideShapes Go.ChangeAt Go.RowKit Go.Proofs.YtkghgjehjchajaaW.PrintOpen Go.Proofs.YtkghgjehjchajaaW.PrintHx Go.Proofs.Ytkghgjehjchajaa.PFnExactEncodeTable Go.Proofs.YtkghgjehjchajaaW.PrintWords
open Go.ChangeMaps (open_string shut_string)
set_option linter.unusedVariables false
theorem own : ownKnob Try.prog.godebug = none := by kernel_rfl
theorem laidOut : laidOutB Try.prog = true := by kernel_rfl
set_option maxRecDepth 100000 in
theorem opens0 (W : World) : Opens Try.prog W 48 (Kd.slice 39 (Go.Proofs.YtkghgjehjchajaaW.PrintHx.wide 24)) (fun x => (x.length ≤ maxLen ∧ ∀ q130 ∈ x, (q130.length = 24 ∧ ∀ y ∈ q130, (Lit.int .i64 y).wf = true))) := (opens_slice Try.underlying48 (by kernel_rfl) (opens_struct (l := [(3, 0), (3, 1), (3, 2), (3, 3), (3, 4), (3, 5), (3, 6), (3, 7), (3, 8), (24, 9)]) Try.underlying39 rfl (by kernel_rfl) (opensT_widec rfl (by kernel_rfl) (opens_wide1 Try.underlying3) (opensT_widec rfl (by kernel_rfl) (opens_wide1 Try.underlying3) (opensT_widec rfl (by kernel_rfl) (opens_wide1 Try.underlying3) (opensT_widec rfl (by kernel_rfl) (opens_wide1 Try.underlying3) (opensT_widec rfl (by kernel_rfl) (opens_wide1 Try.underlying3) (opensT_widec rfl (by kernel_rfl) (opens_wide1 Try.underlying3) (opensT_widec rfl (by kernel_rfl) (opens_wide1 Try.underlying3) (opensT_widec rfl (by kernel_rfl) (opens_wide1 Try.underlying3) (opensT_widec rfl (by kernel_rfl) (opens_wide1 Try.underlying3) (opensT_wide1 rfl (by kernel_rfl) (opens_struct (l := [(3, 0), (22, 1), (3, 13), (3, 14)]) Try.underlying24 rfl (by kernel_rfl) (opensT_widec rfl (by kernel_rfl) (opens_wide1 Try.underlying3) (opensT_widec rfl (by kernel_rfl) (opens_widea (a := 1) (m := 11) Try.underlying22 (by kernel_rfl) (by kernel_rfl) (opens_wide1 Try.underlying3)) (opensT_widec rfl (by kernel_rfl) (opens_wide1 Try.underlying3) (opensT_wide1 rfl (by kernel_rfl) (opens_wide1 Try.underlying3))))))))))))))))))
set_option maxRecDepth 100000 in
theorem lifted (os : Os) (started : os.Started) (H : Type) (enc : TypeId × Value → H) :
    ReturnsInHanded {} Try.checked os 7 .any (Rows.fnExactEncodeTableSpec.pre6 enc Try.prog Try.f7 Rows.fnExactEncodeTableRow.domain false) (Rows.fnExactEncodeTableSpec.post enc Try.prog Try.f7 false true false false) := by
  refine returnsInHanded_of_change_sized (C := Try.checked) own started (by kernel_rfl) Try.func7
    (ChangeSpec.witness6 (enc := enc) (C := Try.checked) false ⟨#[], #[.slice none 0 0], []⟩ 8 (by kernel_rfl) (by kernel_rfl) (by kernel_rfl) (by kernel_rfl)) ?_
  intro W base args ds gs before hval0 hW hcnd hsz0 _
  have hval : ∀ (j : Nat) t v, Try.f7.params[j]? = some t → args[j]? = some v → Value.okWide Try.prog W .any base t v := hval0
  have hW' := hW
  obtain ⟨p, q, hA0, hV, rfl, hfz, hnd⟩ := hW
  have hA : DataW.TrodAll enc Try.prog W 0 (fun _ => true) true Try.f7.params.toList args.toList ds p := hA0
  rw [Try.params7] at hA hval
  obtain ⟨v0, vs0, d0, ds0, p0, q0, hargs, rfl, rfl, h0, r0⟩ := trodAll_cons hA
  obtain ⟨rfl, rfl, rfl⟩ := trodAll_nil r0
  obtain rfl : args = #[v0] := by cases args; simp_all
  obtain ⟨rfl, rfl⟩ := trodVars_none hV
  have k0 := h0
  have lt0 : ∀ x ∈ p0, x.block < W.heap.size := by obtain ⟨m, hm⟩ := k0; exact DataW.trod_lt m _ _ _ hm
  obtain ⟨l0, A0, c0, rfl, m0, g0, G0⟩ := opens_slice_val (opens0 W) Try.underlying48 (hval 0 48 v0 rfl rfl) h0
  clear hA0 hval0 hsz0
  have h := Pure.FnExactEncodeTable l0 G0
  refine (laws_FnExactEncodeTable.calls A0 c0 l0 W g0 m0 h).mono ?_
  rintro e W' ⟨rfl, bel⟩
  exact ⟨_, rfl, _, _, _, [], _, [], hW', trodAll_mk1 (shut_bool Try.underlying4 _), (trodAll_cons_mk (Below.trod laidOut (by kernel_rfl) (of_decide_eq_true (by kernel_rfl)) k0 bel lt0) trodAll_mk0), rfl, bel.frame _, fun h => by cases h⟩
theorem over : Rows.fnExactEncodeTableRow.holds Try.pinned (OpenSpec.ofChange Rows.fnExactEncodeTableSpec) :=
  OpenClaim.holds_of_wide 7 Try.f7 rfl rfl rfl rfl rfl rfl rfl ⟨rfl, rfl, rfl, rfl, rfl⟩ rfl rfl rfl rfl rfl (by kernel_rfl) Try.func7 (by kernel_rfl)
    (of_decide_eq_true (by kernel_rfl)) (by unfold Func.isWrapper; first | (rw [if_pos (by decide +kernel)]; kernel_rfl) | (rw [if_neg (by decide +kernel)]; exact ⟨rfl, rfl⟩))
    (fun os started H enc _ => lifted os started H enc)
theorem proved : Rows.FnExactEncodeTableSaid := over
#print axioms proved
end Go.Proofs.Ytkghgjehjchajaa.fnExactEncodeTable
namespace Go.Proofs.Ytkghgjehjchajaa
/-- The row, under a short name, for the claim. -/
theorem fnExactEncodeTable_holds : Rows.FnExactEncodeTableSaid := fnExactEncodeTable.proved
end Go.Proofs.Ytkghgjehjchajaa
