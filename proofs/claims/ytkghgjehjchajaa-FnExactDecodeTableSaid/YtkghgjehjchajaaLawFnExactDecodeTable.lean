-- Written by a program of this session (patch_print.py over the kit print)
import Derived.Test.YtkghgjehjchajaaRows
import Derived.Test.YtkghgjehjchajaaWOpen
import Derived.Test.YtkghgjehjchajaaWHx2
import Derived.Test.YtkghgjehjchajaaPFnExactDecodeTablex12
import Derived.Test.YtkghgjehjchajaaPureFnExactDecodeTable
import Derived.WalkKit
import Derived.ProofKit
import Derived.OpenShut
import Derived.ShutString
import Derived.ChangeOld
import Derived.Below
import Derived.SizedLaws
namespace Go.Proofs.Ytkghgjehjchajaa.fnExactDecodeTable
open Go.ChangeShapes Go.WideShapes Go.ChangeAt Go.RowKit Go.Proofs.YtkghgjehjchajaaW.PrintOpen Go.Proofs.YtkghgjehjchajaaW.PrintHx Go.Proofs.Ytkghgjehjchajaa.PFnExactDecodeTable Go.Proofs.YtkghgjehjchajaaW.PrintWords
open Go.ChangeMaps (open_string shut_string)
set_option linter.unusedVariables false
theorem own : ownKnob Try.prog.godebug = none := by kernel_rfl
theorem laidOut : laidOutB Try.prog = true := by kernel_rfl
set_option maxRecDepth 100000 in
theorem opens0 (W : World) : Opens Try.prog W 25 (Kd.slice 5 (Kd.int .u8)) (fun x => (x.length ≤ maxLen ∧ ∀ q136 ∈ x, (Lit.int .u8 q136).wf = true)) := (opens_slice Try.underlying25 (by kernel_rfl) (opens_int Try.underlying5))
set_option maxRecDepth 100000 in
theorem lifted (os : Os) (started : os.Started) (H : Type) (enc : TypeId × Value → H) :
    ReturnsInHanded {} Try.checked os 8 .any (Rows.fnExactDecodeTableSpec.pre6 enc Try.prog Try.f8 Rows.fnExactDecodeTableRow.domain false) (Rows.fnExactDecodeTableSpec.post enc Try.prog Try.f8 false true false false) := by
  refine returnsInHanded_of_change_sized (C := Try.checked) own started (by kernel_rfl) Try.func8
    (ChangeSpec.witness6 (enc := enc) (C := Try.checked) false ⟨#[], #[.slice none 0 0], []⟩ 8 (by kernel_rfl) (by kernel_rfl) (by kernel_rfl) (by kernel_rfl)) ?_
  intro W base args ds gs before hval0 hW hcnd hsz0 _
  have hval : ∀ (j : Nat) t v, Try.f8.params[j]? = some t → args[j]? = some v → Value.okWide Try.prog W .any base t v := hval0
  have hW' := hW
  obtain ⟨p, q, hA0, hV, rfl, hfz, hnd⟩ := hW
  have hA : DataW.TrodAll enc Try.prog W 0 (fun _ => true) true Try.f8.params.toList args.toList ds p := hA0
  rw [Try.params8] at hA hval
  obtain ⟨v0, vs0, d0, ds0, p0, q0, hargs, rfl, rfl, h0, r0⟩ := trodAll_cons hA
  obtain ⟨rfl, rfl, rfl⟩ := trodAll_nil r0
  obtain rfl : args = #[v0] := by cases args; simp_all
  obtain ⟨rfl, rfl⟩ := trodVars_none hV
  have k0 := h0
  have lt0 : ∀ x ∈ p0, x.block < W.heap.size := by obtain ⟨m, hm⟩ := k0; exact DataW.trod_lt m _ _ _ hm
  obtain ⟨l0, A0, c0, rfl, m0, g0, G0⟩ := opens_slice_val (opens0 W) Try.underlying25 (hval 0 25 v0 rfl rfl) h0
  clear hA0 hval0 hsz0
  have h := Pure.FnExactDecodeTable l0 G0
  refine (laws_FnExactDecodeTable.calls A0 c0 l0 W g0 m0 h).mono ?_
  rintro e W' ⟨rfl, bel⟩
  exact ⟨_, rfl, _, _, _, [], _, [], hW', trodAll_mk1 (shut_bool Try.underlying4 _), (trodAll_cons_mk (Below.trod laidOut (by kernel_rfl) (of_decide_eq_true (by kernel_rfl)) k0 bel lt0) trodAll_mk0), rfl, bel.frame _, fun h => by cases h⟩
theorem over : Rows.fnExactDecodeTableRow.holds Try.pinned (OpenSpec.ofChange Rows.fnExactDecodeTableSpec) :=
  OpenClaim.holds_of_wide 8 Try.f8 rfl rfl rfl rfl rfl rfl rfl ⟨rfl, rfl, rfl, rfl, rfl⟩ rfl rfl rfl rfl rfl (by kernel_rfl) Try.func8 (by kernel_rfl)
    (of_decide_eq_true (by kernel_rfl)) (by unfold Func.isWrapper; first | (rw [if_pos (by decide +kernel)]; kernel_rfl) | (rw [if_neg (by decide +kernel)]; exact ⟨rfl, rfl⟩))
    (fun os started H enc _ => lifted os started H enc)
theorem proved : Rows.FnExactDecodeTableSaid := over
#print axioms proved
end Go.Proofs.Ytkghgjehjchajaa.fnExactDecodeTable
namespace Go.Proofs.Ytkghgjehjchajaa
/-- The row, under a short name, for the claim. -/
theorem fnExactDecodeTable_holds : Rows.FnExactDecodeTableSaid := fnExactDecodeTable.proved
end Go.Proofs.Ytkghgjehjchajaa
