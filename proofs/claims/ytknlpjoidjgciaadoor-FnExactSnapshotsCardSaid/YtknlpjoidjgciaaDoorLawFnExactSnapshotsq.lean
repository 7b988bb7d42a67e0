/- FnExactSnapshots: the law answers true at every image; no condition but the laid variables. -/
import Derived.Test.YtknlpjoidjgciaaDoorRows
import Derived.Test.YtknlpjoidjgciaaDoorQW1
import Derived.Test.YtknlpjoidjgciaaDoorQSng
import Derived.WalkKit
import Derived.ProofKit
import Derived.OpenShut
import Derived.ShutString
import Derived.ChangeOld
import Derived.Below
import Derived.SizedLaws
import Derived.Handed
import Derived.LaidLaws
import Derived.LaidHandle
import Derived.ChangeVars
import Derived.OpenVars
import Derived.SevenTiedAt
import Derived.Lib.LaidTab
import Derived.Stop.LaidErr
import Derived.Test.YtknlpjoidjgciaaDoorQW2
import Derived.Test.YtknlpjoidjgciaaDoorCards
import Derived.Test.YtknlpjoidjgciaaDoorTie
namespace Go.Proofs.YtknlpjoidjgciaaDoor.fnExactSnapshots
open Go.ChangeShapes Go.WideShapes Go.ChangeAt Go.RowKit Go.Proofs.YtknlpjoidjgciaaDoorW.PrintOpen Go.Proofs.YtknlpjoidjgciaaDoorW.PrintHx Go.Proofs.YtknlpjoidjgciaaDoor.PFnExactSnapshots Go.Proofs.YtknlpjoidjgciaaDoorW.PrintWords
open Go.ChangeMaps (open_string shut_string)
set_option linter.unusedVariables false
theorem own : ownKnob Tryd.prog.godebug = none := by kernel_rfl
theorem laidOut : laidOutB Tryd.prog = true := by kernel_rfl
set_option maxRecDepth 100000 in
theorem opens0 (W : World) : Opens Tryd.prog W 22 (Kd.slice 5 (Kd.int .u8)) (fun x => (x.length ≤ maxLen ∧ ∀ q155 ∈ x, (Lit.int .u8 q155).wf = true)) := (opens_slice Tryd.underlying22 (by kernel_rfl) (opens_int Tryd.underlying5))
theorem gT0 : Tryd.prog.globalNamed "loop.example/s02533/impl.recordMagic" = some 1 := by kernel_rfl
theorem gTT0 : (Tryd.prog.globals[1]?).map (·.type) = some 254 := by kernel_rfl
theorem cE0 : Tryd.prog.cellsOf 5 = 1 := by kernel_rfl
theorem cT0 : Tryd.prog.cellsOf 254 = 8 := by kernel_rfl
theorem gT1 : Tryd.prog.globalNamed "loop.example/s02533/impl.snapMagic" = some 2 := by kernel_rfl
theorem gTT1 : (Tryd.prog.globals[2]?).map (·.type) = some 254 := by kernel_rfl
theorem eT : Tryd.prog.globalNamed "errors.errorType" = some 0 := by kernel_rfl
theorem eRt : (Tryd.prog.cutTypes.find? (·.1 == "internal/reflectlite.rtype")).map (·.2) = some 237 := by kernel_rfl
theorem eOne : ((List.range 309).filter fun t => Tryd.prog.rowNamed t [101, 114, 114, 111, 114]) = [93] := by kernel_rfl
theorem eSize : Tryd.prog.types.size = 309 := by kernel_rfl
/-- What the condition says of the handle's one cell. -/
theorem handle_cell {W : World} (h : handlesMet Tryd.prog [("errors.errorType", Rows.laid_errors_errorType)] W) : W.cell? ⟨0, 0, none⟩ = some (.iface 237 (.agg #[.pointer (some ⟨9, 93, none⟩)])) := by
  obtain ⟨name, u, ty, e1, e2, e3, e4, e5⟩ := h _ (List.mem_singleton.2 rfl)
  have en : name = [101, 114, 114, 111, 114] := (Option.some.inj e1).symm
  subst en
  obtain rfl := Option.some.inj (eRt.symm.trans e2)
  have hm : ty ∈ (List.range 309).filter fun t => Tryd.prog.rowNamed t [101, 114, 114, 111, 114] := List.mem_filter.2 ⟨List.mem_range.2 (by rw [← eSize]; exact e3), e4⟩
  rw [eOne] at hm
  obtain rfl := List.mem_singleton.1 hm
  have hh : typeHandle Tryd.prog 93 = .pointer (some ⟨9, 93, none⟩) := by kernel_rfl
  rw [hh] at e5
  simpa using World.var?_cell eT e5 0
/-- A start that meets the condition. -/
noncomputable def laidWorld (os : Os) : World :=
  { World.holding Tryd.prog os ⟨#[], #[], []⟩ with heap := ((((World.holding Tryd.prog os ⟨#[], #[], []⟩).heap.modify 1 fun
      | .cells _ t frozen => .cells (Go.Proofs.YtknlpjoidjgciaaDoorW.PrintFsb.magicF.map fun z => Value.int .u8 z).toArray t frozen
      | o => o).modify 2 fun
      | .cells _ t frozen => .cells (Go.Proofs.YtknlpjoidjgciaaDoorW.PrintSnp.magicS.map fun z => Value.int .u8 z).toArray t frozen
      | o => o).modify 0 fun
      | .cells _ t frozen => .cells #[.iface 237 (.agg #[.pointer (some ⟨9, 93, none⟩)])] t frozen
      | o => o) }
theorem laidWorld_met (os : Os) (args : Array Value) : laidMetH Tryd.prog Rows.fnExactSnapshotsRow.laid ((laidWorld os).forCall (fun _ _ => 0) ⟨#[], args, []⟩).memory :=
  laidMetH_of_parts (laidMet_of_run' 8 (by kernel_rfl) (by kernel_rfl)) (by kernel_rfl)
set_option maxRecDepth 100000 in
theorem lifted (os : Os) (started : os.Started) (H : Type) (enc : TypeId × Value → H) :
    ReturnsInHanded {} Tryd.checked os 7 .any (fun w args => (Rows.fnExactSnapshotsSpec.pre enc Tryd.prog Tryd.f7 [] false w args ∧ laidMetH Tryd.prog Rows.fnExactSnapshotsRow.laid w) ∧ sizedMet enc Tryd.prog Tryd.f7 (OpenSpec.ofChange Rows.fnExactSnapshotsSpec) false w args) (Rows.fnExactSnapshotsSpec.post enc Tryd.prog Tryd.f7 false true false false) := by
  refine returnsInHanded_of_change_and (C := Tryd.checked) (X := fun w _ => laidMetH Tryd.prog Rows.fnExactSnapshotsRow.laid w) (fun _ _ _ hh h => h.of_heap hh) own started (by kernel_rfl) Tryd.func7
    (ChangeSpec.witness_at (enc := enc) (C := Tryd.checked) (os := os) (X := fun w _ => laidMetH Tryd.prog Rows.fnExactSnapshotsRow.laid w) false (laidWorld os) #[.slice none 0 0] 8 rfl (by kernel_rfl) (by kernel_rfl) (by kernel_rfl) (by kernel_rfl) (by kernel_rfl) (laidWorld_met os _)) ?_
  intro W base args ds gs before hval0 hW hcnd hsz0 hL _
  have hval : ∀ (j : Nat) t v, Tryd.f7.params[j]? = some t → args[j]? = some v → Value.okWide Tryd.prog W .any base t v := hval0
  have hW' := hW
  obtain ⟨p, q, hA0, hV, rfl, hfz, hnd⟩ := hW
  have hA : DataW.TrodAll enc Tryd.prog W 0 (fun _ => true) true Tryd.f7.params.toList args.toList ds p := hA0
  rw [Tryd.params7] at hA hval
  obtain ⟨v0, vs0, d0, ds0, p0, q0, hargs, rfl, rfl, h0, r0⟩ := trodAll_cons hA
  obtain ⟨rfl, rfl, rfl⟩ := trodAll_nil r0
  obtain rfl : args = #[v0] := by cases args; simp_all
  have hLH : laidMet Tryd.prog [("loop.example/s02533/impl.recordMagic", Lib.tabData .u8 Go.Proofs.YtknlpjoidjgciaaDoorW.PrintFsb.magicF), ("loop.example/s02533/impl.snapMagic", Lib.tabData .u8 Go.Proofs.YtknlpjoidjgciaaDoorW.PrintSnp.magicS)] W ∧ handlesMet Tryd.prog [("errors.errorType", Rows.laid_errors_errorType)] W := hL
  have hL' := hLH.1
  have hgE := handle_cell hLH.2
  clear hLH
  have hv := Go.Proofs.YtknlpjoidjgciaaDoorW.PrintDoor.tab_reads (Lib.tabIs_of_head gT0 gTT0 Tryd.underlying254 Tryd.underlying5 cE0 cT0 hL') gT0 (by decide)
  have hv2 := Go.Proofs.YtknlpjoidjgciaaDoorW.PrintDoor.tab_reads (Lib.tabIs_of_head gT1 gTT1 Tryd.underlying254 Tryd.underlying5 cE0 cT0 hL'.tail) gT1 (by decide)
  clear hL hL'
  have hV2 := hV
  obtain ⟨g1_, t1_, cs1_, f1_, d1_, p1_, g2_, t2_, cs2_, f2_, d2_, p2_, rfl, hg1_, ht1_, hvar1_, hd1_, hg2_, ht2_, hvar2_, hd2_, rfl⟩ := trodVars_two hV
  have k0 := h0
  have lt0 : ∀ x ∈ p0, x.block < W.heap.size := by obtain ⟨m, hm⟩ := k0; exact DataW.trod_lt m _ _ _ hm
  obtain ⟨l0, A0, c0, rfl, m0, g0, G0⟩ := opens_slice_val (opens0 W) Tryd.underlying22 (hval 0 22 v0 rfl rfl) h0
  clear hA0 hval0 hsz0
  refine (law_told A0 c0 l0 W hv hv2 hgE g0 m0 (fun x hx => by have := bounds_u8 (G0.2 x hx); omega)).mono ?_
  rintro e W' ⟨rfl, bel⟩
  exact ⟨_, rfl, _, _, _, [], _, _, hW', trodAll_mk1 (shut_bool Tryd.underlying4 _), (trodAll_cons_mk (Below.trod laidOut (by kernel_rfl) (of_decide_eq_true (by kernel_rfl)) k0 bel lt0) trodAll_mk0), Below.trodVars laidOut bel (by kernel_rfl) hV2, bel.frame _, fun h => by cases h⟩
theorem over : Rows.fnExactSnapshotsRow.holds Tryd.pinned (OpenSpec.ofChange Rows.fnExactSnapshotsSpec) :=
  OpenClaim.holds_of_wide 7 Tryd.f7 rfl rfl rfl rfl rfl rfl rfl ⟨rfl, rfl, rfl, rfl, rfl⟩ rfl rfl rfl rfl rfl (by kernel_rfl) Tryd.func7 (by kernel_rfl)
    (of_decide_eq_true (by kernel_rfl)) (by unfold Func.isWrapper; first | (rw [if_pos (by decide +kernel)]; kernel_rfl) | (rw [if_neg (by decide +kernel)]; exact ⟨rfl, rfl⟩))
    (fun os started H enc _ => lifted os started H enc)
theorem proved : Rows.FnExactSnapshotsSaid := over
theorem card : Rows.FnExactSnapshotsCardSaid :=
  Claim7.holds_tied_plain_at .later [] [.handle, .widerDeep, .widerDeep] true (true, "eb0911b871f1ee252f46cfadba8cf0bd9f72c828f77fcde7ee53193799ddb601") true
    over (fun _ h => by cases h) (by kernel_rfl) (fun _ h => by cases h) fnExactSnapshots_row_tie rfl ⟨rfl, rfl⟩ (by kernel_rfl) rfl
    (fun f fn hf hfn => by
      obtain rfl : f = 7 := Option.some.inj ((show Tryd.prog.funcNamed Rows.fnExactSnapshotsRow.func = some 7 by kernel_rfl).symm.trans hf) |>.symm
      obtain rfl : fn = Tryd.f7 := (Option.some.inj (Tryd.func7.symm.trans hfn)).symm
      exact ⟨by kernel_rfl, fun j t ht => by
        rw [Tryd.params7] at ht
        have h3 : t = 22 := by
          rcases j with _ | j
          · simpa using ht.symm
          · simp at ht
        subst h3
        exact (show Tryd.prog.wantsStandIn 22 = false by kernel_rfl)⟩)
    (by kernel_rfl)
#print axioms card
end Go.Proofs.YtknlpjoidjgciaaDoor.fnExactSnapshots
namespace Go.Proofs.YtknlpjoidjgciaaDoor
/-- The tied card, under a short name, for the claim. -/
theorem fnExactSnapshots_holds : Rows.FnExactSnapshotsCardSaid := fnExactSnapshots.card
end Go.Proofs.YtknlpjoidjgciaaDoor
