-- Written by a program of this session (patch_print.py over the kit print)
import Derived.Test.YtkghgjehjchajaaDoorRows
import Derived.Test.YtkghgjehjchajaaDoorWOpen
import Derived.Test.YtkghgjehjchajaaDoorWHx2
import Derived.Test.YtkghgjehjchajaaDoorPFnExactEncodeSnapx2
import Derived.Test.YtkghgjehjchajaaDoorPureFnExactEncodeSnap
import Derived.WalkKit
import Derived.ProofKit
import Derived.OpenShut
import Derived.ShutString
import Derived.ChangeOld
import Derived.Below
import Derived.SizedLaws
import Derived.Handed
import Derived.LaidLaws
import Derived.LaidHandle
import Derived.ChangeVars
import Derived.OpenVars
import Derived.SevenTiedAt
import Derived.Test.YtkghgjehjchajaaDoorWDoor
import Derived.Test.YtkghgjehjchajaaDoorWSnp
import Derived.Test.YtkghgjehjchajaaDoorCards
import Derived.Test.YtkghgjehjchajaaDoorTie
namespace Go.Proofs.YtkghgjehjchajaaDoor.fnExactEncodeSnap
open Go.ChangeShapes Go.WideShapes Go.ChangeAt Go.RowKit Go.Proofs.YtkghgjehjchajaaDoorW.PrintOpen Go.Proofs.YtkghgjehjchajaaDoorW.PrintHx Go.Proofs.YtkghgjehjchajaaDoor.PFnExactEncodeSnap Go.Proofs.YtkghgjehjchajaaDoorW.PrintWords
open Go.ChangeMaps (open_string shut_string)
set_option linter.unusedVariables false
theorem own : ownKnob Tryd.prog.godebug = none := by kernel_rfl
theorem laidOut : laidOutB Tryd.prog = true := by kernel_rfl
set_option maxRecDepth 100000 in
theorem opens0 (W : World) : Opens Tryd.prog W 26 k26 (fun x => (((Lit.int .i64 x.f0).wf = true) ∧ ((x.f1.size ≤ maxLen) ∧ (((Lit.int .i64 x.f2).wf = true) ∧ (((Lit.int .i64 x.f3).wf = true) ∧ ((((Lit.int .i64 x.f4.f0).wf = true) ∧ (((((Lit.int .i64 x.f4.f1.f0).wf = true) ∧ (((Lit.int .i64 x.f4.f1.f1).wf = true) ∧ (((Lit.int .i64 x.f4.f1.f2).wf = true) ∧ (((Lit.int .i64 x.f4.f1.f3).wf = true) ∧ (((Lit.int .i64 x.f4.f1.f4).wf = true) ∧ (((Lit.int .i64 x.f4.f1.f5).wf = true) ∧ (((Lit.int .i64 x.f4.f1.f6).wf = true) ∧ (((Lit.int .i64 x.f4.f1.f7).wf = true) ∧ (((Lit.int .i64 x.f4.f1.f8).wf = true) ∧ (((Lit.int .i64 x.f4.f1.f9).wf = true) ∧ (((Lit.int .i64 x.f4.f1.f10).wf = true) ∧ ((Lit.int .i64 x.f4.f1.f11).wf = true))))))))))))) ∧ (((Lit.int .i64 x.f4.f2).wf = true) ∧ ((Lit.int .i64 x.f4.f3).wf = true)))))))))) := (opens_iso (opens_struct (l := [(3, 0), (9, 1), (3, 2), (3, 3), (24, 4)]) Tryd.underlying26 rfl (by kernel_rfl) (opensT_cons rfl (by kernel_rfl) (opens_int Tryd.underlying3) (opensT_cons rfl (by kernel_rfl) (opens_string Tryd.underlying9) (opensT_cons rfl (by kernel_rfl) (opens_int Tryd.underlying3) (opensT_cons rfl (by kernel_rfl) (opens_int Tryd.underlying3) (opensT_one rfl (by kernel_rfl) (opens_iso (opens_struct (l := [(3, 0), (22, 1), (3, 13), (3, 14)]) Tryd.underlying24 rfl (by kernel_rfl) (opensT_cons rfl (by kernel_rfl) (opens_int Tryd.underlying3) (opensT_cons rfl (by kernel_rfl) (opens_iso (opens_array (l := [(3, 0), (3, 1), (3, 2), (3, 3), (3, 4), (3, 5), (3, 6), (3, 7), (3, 8), (3, 9), (3, 10), (3, 11)]) Tryd.underlying22 rfl (by kernel_rfl) (opensT_cons rfl (by kernel_rfl) (opens_int Tryd.underlying3) (opensT_cons rfl (by kernel_rfl) (opens_int Tryd.underlying3) (opensT_cons rfl (by kernel_rfl) (opens_int Tryd.underlying3) (opensT_cons rfl (by kernel_rfl) (opens_int Tryd.underlying3) (opensT_cons rfl (by kernel_rfl) (opens_int Tryd.underlying3) (opensT_cons rfl (by kernel_rfl) (opens_int Tryd.underlying3) (opensT_cons rfl (by kernel_rfl) (opens_int Tryd.underlying3) (opensT_cons rfl (by kernel_rfl) (opens_int Tryd.underlying3) (opensT_cons rfl (by kernel_rfl) (opens_int Tryd.underlying3) (opensT_cons rfl (by kernel_rfl) (opens_int Tryd.underlying3) (opensT_cons rfl (by kernel_rfl) (opens_int Tryd.underlying3) (opensT_one rfl (by kernel_rfl) (opens_int Tryd.underlying3)))))))))))))) (fun a => ⟨⟨a.1, a.2.1, a.2.2.1, a.2.2.2.1, a.2.2.2.2.1, a.2.2.2.2.2.1, a.2.2.2.2.2.2.1, a.2.2.2.2.2.2.2.1, a.2.2.2.2.2.2.2.2.1, a.2.2.2.2.2.2.2.2.2.1, a.2.2.2.2.2.2.2.2.2.2.1, a.2.2.2.2.2.2.2.2.2.2.2⟩, rfl⟩) (fun b h_ => h_)) (opensT_cons rfl (by kernel_rfl) (opens_int Tryd.underlying3) (opensT_one rfl (by kernel_rfl) (opens_int Tryd.underlying3)))))) (fun a => ⟨⟨a.1, a.2.1, a.2.2.1, a.2.2.2⟩, rfl⟩) (fun b h_ => h_)))))))) (fun a => ⟨⟨a.1, a.2.1, a.2.2.1, a.2.2.2.1, a.2.2.2.2⟩, rfl⟩) (fun b h_ => h_))
theorem gT : Tryd.prog.globalNamed "loop.example/s02533/impl.snapMagic" = some 0 := by kernel_rfl
theorem gTT : (Tryd.prog.globals[0]?).map (·.type) = some 82 := by kernel_rfl
theorem cE : Tryd.prog.cellsOf 5 = 1 := by kernel_rfl
theorem cT : Tryd.prog.cellsOf 82 = 8 := by kernel_rfl
/-- A start that meets the condition. -/
noncomputable def laidWorld (os : Os) : World :=
  { World.holding Tryd.prog os ⟨#[], #[], []⟩ with heap := (World.holding Tryd.prog os ⟨#[], #[], []⟩).heap.modify 0 fun
      | .cells _ t frozen => .cells (Go.Proofs.YtkghgjehjchajaaDoorW.PrintSnp.magicS.map fun z => Value.int .u8 z).toArray t frozen
      | o => o }
theorem laidWorld_met (os : Os) (args : Array Value) : laidMetH Tryd.prog Rows.fnExactEncodeSnapRow.laid ((laidWorld os).forCall (fun _ _ => 0) ⟨#[], args, []⟩).memory :=
  show laidMet Tryd.prog Rows.fnExactEncodeSnapRow.laid _ from laidMet_of_run' 8 (by kernel_rfl) (by kernel_rfl)
set_option maxRecDepth 100000 in
theorem lifted (os : Os) (started : os.Started) (H : Type) (enc : TypeId × Value → H) :
    ReturnsInHanded {} Tryd.checked os 3 .any (fun w args => (Rows.fnExactEncodeSnapSpec.pre enc Tryd.prog Tryd.f3 [] false w args ∧ laidMetH Tryd.prog Rows.fnExactEncodeSnapRow.laid w) ∧ sizedMet enc Tryd.prog Tryd.f3 (OpenSpec.ofChange Rows.fnExactEncodeSnapSpec) false w args) (Rows.fnExactEncodeSnapSpec.post enc Tryd.prog Tryd.f3 false true false false) := by
  refine returnsInHanded_of_change_and (C := Tryd.checked) (X := fun w _ => laidMetH Tryd.prog Rows.fnExactEncodeSnapRow.laid w) (fun _ _ _ hh h => h.of_heap hh) own started (by kernel_rfl) Tryd.func3
    (ChangeSpec.witness_at (enc := enc) (C := Tryd.checked) (os := os) (X := fun w _ => laidMetH Tryd.prog Rows.fnExactEncodeSnapRow.laid w) false (laidWorld os) #[.agg #[.int .i64 0, .string ByteArray.empty, .int .i64 0, .int .i64 0, .int .i64 0, .int .i64 0, .int .i64 0, .int .i64 0, .int .i64 0, .int .i64 0, .int .i64 0, .int .i64 0, .int .i64 0, .int .i64 0, .int .i64 0, .int .i64 0, .int .i64 0, .int .i64 0, .int .i64 0]] 8 rfl (by kernel_rfl) (by kernel_rfl) (by kernel_rfl) (by kernel_rfl) (by kernel_rfl) (laidWorld_met os _)) ?_
  intro W base args ds gs before hval0 hW hcnd hsz0 hL _
  have hval : ∀ (j : Nat) t v, Tryd.f3.params[j]? = some t → args[j]? = some v → Value.okWide Tryd.prog W .any base t v := hval0
  have hW' := hW
  obtain ⟨p, q, hA0, hV, rfl, hfz, hnd⟩ := hW
  have hA : DataW.TrodAll enc Tryd.prog W 0 (fun _ => true) true Tryd.f3.params.toList args.toList ds p := hA0
  rw [Tryd.params3] at hA hval
  obtain ⟨v0, vs0, d0, ds0, p0, q0, hargs, rfl, rfl, h0, r0⟩ := trodAll_cons hA
  obtain ⟨rfl, rfl, rfl⟩ := trodAll_nil r0
  obtain rfl : args = #[v0] := by cases args; simp_all
  have hL' : laidMet Tryd.prog [("loop.example/s02533/impl.snapMagic", Lib.tabData .u8 Go.Proofs.YtkghgjehjchajaaDoorW.PrintSnp.magicS)] W := hL
  have hv := Go.Proofs.YtkghgjehjchajaaDoorW.PrintDoor.tab_reads (Lib.tabIs_of_head gT gTT Tryd.underlying82 Tryd.underlying5 cE cT hL') gT (by decide)
  clear hL hL'
  have hV2 := hV
  obtain ⟨g1_, t1_, cs1_, f1_, d1_, p1_, rfl, hg1_, ht1_, hvar1_, hd1_, rfl⟩ := trodVars_one hV
  have k0 := h0
  have lt0 : ∀ x ∈ p0, x.block < W.heap.size := by obtain ⟨m, hm⟩ := k0; exact DataW.trod_lt m _ _ _ hm
  obtain ⟨x0, cs0, rfl, K0, G0⟩ := opens_agg (opens0 W) Tryd.underlying26 (hval 0 26 v0 rfl rfl) h0
  obtain rfl := k26_open K0
  clear hA0 hval0 hsz0
  have h := Pure.FnExactEncodeSnap x0.f0 x0.f1 x0.f2 x0.f3 [x0.f4.f0, x0.f4.f1.f0, x0.f4.f1.f1, x0.f4.f1.f2, x0.f4.f1.f3, x0.f4.f1.f4, x0.f4.f1.f5, x0.f4.f1.f6, x0.f4.f1.f7, x0.f4.f1.f8, x0.f4.f1.f9, x0.f4.f1.f10, x0.f4.f1.f11, x0.f4.f2, x0.f4.f3] G0.2.1 rfl
  refine (laws_FnExactEncodeSnap.calls x0.f0 x0.f1 x0.f2 x0.f3 [x0.f4.f0, x0.f4.f1.f0, x0.f4.f1.f1, x0.f4.f1.f2, x0.f4.f1.f3, x0.f4.f1.f4, x0.f4.f1.f5, x0.f4.f1.f6, x0.f4.f1.f7, x0.f4.f1.f8, x0.f4.f1.f9, x0.f4.f1.f10, x0.f4.f1.f11, x0.f4.f2, x0.f4.f3] rfl W hv h).mono ?_
  rintro e W' ⟨rfl, bel⟩
  exact ⟨_, rfl, _, _, _, [], _, _, hW', trodAll_mk1 (shut_bool Tryd.underlying4 _), (trodAll_cons_mk (Below.trod laidOut (by kernel_rfl) (of_decide_eq_true (by kernel_rfl)) k0 bel lt0) trodAll_mk0), Below.trodVars laidOut bel (by kernel_rfl) hV2, bel.frame _, fun h => by cases h⟩
theorem over : Rows.fnExactEncodeSnapRow.holds Tryd.pinned (OpenSpec.ofChange Rows.fnExactEncodeSnapSpec) :=
  OpenClaim.holds_of_wide 3 Tryd.f3 rfl rfl rfl rfl rfl rfl rfl ⟨rfl, rfl, rfl, rfl, rfl⟩ rfl rfl rfl rfl rfl (by kernel_rfl) Tryd.func3 (by kernel_rfl)
    (of_decide_eq_true (by kernel_rfl)) (by unfold Func.isWrapper; first | (rw [if_pos (by decide +kernel)]; kernel_rfl) | (rw [if_neg (by decide +kernel)]; exact ⟨rfl, rfl⟩))
    (fun os started H enc _ => lifted os started H enc)
theorem proved : Rows.FnExactEncodeSnapSaid := over
theorem card : Rows.FnExactEncodeSnapCardSaid :=
  Claim7.holds_tied_plain_at .later [] [.widerDeep] true (true, "d4253d86f6627405cdd3b038557e2eb81f28eab9c55d1e1756113dc26823e38c") true
    over (fun _ h => by cases h) (by kernel_rfl) (fun _ h => by cases h) fnExactEncodeSnap_row_tie rfl ⟨rfl, rfl⟩ (by kernel_rfl) rfl
    (fun f fn hf hfn => by
      obtain rfl : f = 3 := Option.some.inj ((show Tryd.prog.funcNamed Rows.fnExactEncodeSnapRow.func = some 3 by kernel_rfl).symm.trans hf) |>.symm
      obtain rfl : fn = Tryd.f3 := (Option.some.inj (Tryd.func3.symm.trans hfn)).symm
      exact ⟨by kernel_rfl, fun j t ht => by
        rw [Tryd.params3] at ht
        have h3 : t = 26 := by
          rcases j with _ | j
          · simpa using ht.symm
          · simp at ht
        subst h3
        exact (show Tryd.prog.wantsStandIn 26 = false by kernel_rfl)⟩)
    (by kernel_rfl)
#print axioms card
end Go.Proofs.YtkghgjehjchajaaDoor.fnExactEncodeSnap
namespace Go.Proofs.YtkghgjehjchajaaDoor
/-- The tied card, under a short name, for the claim. -/
theorem fnExactEncodeSnap_holds : Rows.FnExactEncodeSnapCardSaid := fnExactEncodeSnap.card
end Go.Proofs.YtkghgjehjchajaaDoor
