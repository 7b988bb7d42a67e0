/- FnExactTellAns: the law answers true at every argument; no condition but the laid tables. -/
import Derived.Test.YtknlpjoidjgciaaDoorRows
import Derived.Test.YtknlpjoidjgciaaDoorWOpen
import Derived.Test.YtknlpjoidjgciaaDoorWHx2
import Derived.Test.YtknlpjoidjgciaaDoorTlj
import Derived.WalkKit
import Derived.ProofKit
import Derived.OpenShut
import Derived.ShutString
import Derived.ChangeOld
import Derived.Below
import Derived.SizedLaws
import Derived.Handed
import Derived.LaidLaws
import Derived.LaidHandle
import Derived.ChangeVars
import Derived.OpenVars
import Derived.SevenTiedAt
import Derived.Lib.LaidTab
import Derived.Stop.LaidErr
import Derived.Test.YtknlpjoidjgciaaDoorCards
import Derived.Test.YtknlpjoidjgciaaDoorTie
namespace Go.Proofs.YtknlpjoidjgciaaDoor.fnExactTellAns
open Go.ChangeShapes Go.WideShapes Go.ChangeAt Go.RowKit Go.Proofs.YtknlpjoidjgciaaDoorW.PrintOpen Go.Proofs.YtknlpjoidjgciaaDoorW.PrintHx Go.Proofs.YtknlpjoidjgciaaDoor.PFnExactTellAns Go.Proofs.YtknlpjoidjgciaaDoorW.PrintWords
open Go.ChangeMaps (open_string shut_string)
set_option linter.unusedVariables false
theorem own : ownKnob Tryd.prog.godebug = none := by kernel_rfl
theorem laidOut : laidOutB Tryd.prog = true := by kernel_rfl
def kAns : Kd (Int × Int × List Int × List Int × List S142 × List Int) := Kd.pair (Kd.int .i64) (Kd.pair (Kd.int .i64) (Kd.pair (Kd.slice 5 (Kd.int .u8)) (Kd.pair (wide 10) (Kd.pair (Kd.slice 142 k142) (wide 10)))))
def GAns (x : Int × Int × List Int × List Int × List S142 × List Int) : Prop := (Lit.int .i64 x.1).wf = true ∧ (Lit.int .i64 x.2.1).wf = true ∧ (x.2.2.1.length ≤ maxLen ∧ ∀ y ∈ x.2.2.1, (Lit.int .u8 y).wf = true) ∧ Wf 10 x.2.2.2.1 ∧ (x.2.2.2.2.1.length ≤ maxLen ∧ ∀ y ∈ x.2.2.2.2.1, y.f0.size ≤ maxLen ∧ (Lit.int .i64 y.f1).wf = true ∧ (Lit.int .i64 y.f2).wf = true) ∧ Wf 10 x.2.2.2.2.2
set_option maxRecDepth 100000 in
theorem opens0 (W : World) : Opens Tryd.prog W 29 kAns GAns := opens_struct (l := [(3, 0), (3, 1), (22, 2), (24, 3), (25, 13), (27, 14)]) Tryd.underlying29 rfl (by kernel_rfl) (opensT_cons rfl (by kernel_rfl) (opens_int Tryd.underlying3) (opensT_cons rfl (by kernel_rfl) (opens_int Tryd.underlying3) (opensT_cons rfl (by kernel_rfl) (opens_slice Tryd.underlying22 (by kernel_rfl) (opens_int Tryd.underlying5)) (opensT_cons rfl (by kernel_rfl) (opens_struct (l := [(3, 0), (3, 1), (3, 2), (3, 3), (3, 4), (3, 5), (3, 6), (3, 7), (3, 8), (3, 9)]) Tryd.underlying24 rfl (by kernel_rfl) (opensT_widec rfl (by kernel_rfl) (opens_wide1 Tryd.underlying3) (opensT_widec rfl (by kernel_rfl) (opens_wide1 Tryd.underlying3) (opensT_widec rfl (by kernel_rfl) (opens_wide1 Tryd.underlying3) (opensT_widec rfl (by kernel_rfl) (opens_wide1 Tryd.underlying3) (opensT_widec rfl (by kernel_rfl) (opens_wide1 Tryd.underlying3) (opensT_widec rfl (by kernel_rfl) (opens_wide1 Tryd.underlying3) (opensT_widec rfl (by kernel_rfl) (opens_wide1 Tryd.underlying3) (opensT_widec rfl (by kernel_rfl) (opens_wide1 Tryd.underlying3) (opensT_widec rfl (by kernel_rfl) (opens_wide1 Tryd.underlying3) (opensT_wide1 rfl (by kernel_rfl) (opens_wide1 Tryd.underlying3)))))))))))) (opensT_cons rfl (by kernel_rfl) (opens_slice Tryd.underlying25 (by kernel_rfl) (opens_iso (opens_struct (l := [(9, 0), (3, 1), (3, 2)]) Tryd.underlying142 rfl (by kernel_rfl) (opensT_cons rfl (by kernel_rfl) (opens_string Tryd.underlying9) (opensT_cons rfl (by kernel_rfl) (opens_int Tryd.underlying3) (opensT_one rfl (by kernel_rfl) (opens_int Tryd.underlying3))))) (fun a => ⟨⟨a.1, a.2.1, a.2.2⟩, rfl⟩) (fun b h_ => h_))) (opensT_one rfl (by kernel_rfl) (opens_struct (l := [(3, 0), (3, 1), (3, 2), (3, 3), (3, 4), (3, 5), (3, 6), (3, 7), (3, 8), (3, 9)]) Tryd.underlying27 rfl (by kernel_rfl) (opensT_widec rfl (by kernel_rfl) (opens_wide1 Tryd.underlying3) (opensT_widec rfl (by kernel_rfl) (opens_wide1 Tryd.underlying3) (opensT_widec rfl (by kernel_rfl) (opens_wide1 Tryd.underlying3) (opensT_widec rfl (by kernel_rfl) (opens_wide1 Tryd.underlying3) (opensT_widec rfl (by kernel_rfl) (opens_wide1 Tryd.underlying3) (opensT_widec rfl (by kernel_rfl) (opens_wide1 Tryd.underlying3) (opensT_widec rfl (by kernel_rfl) (opens_wide1 Tryd.underlying3) (opensT_widec rfl (by kernel_rfl) (opens_wide1 Tryd.underlying3) (opensT_widec rfl (by kernel_rfl) (opens_wide1 Tryd.underlying3) (opensT_wide1 rfl (by kernel_rfl) (opens_wide1 Tryd.underlying3))))))))))))))))))
theorem wf64 {v : Int} (h : (Lit.int .i64 v).wf = true) : I64 v := by
  have := bounds_i64 h
  exact ⟨by omega, by omega⟩
theorem gT : Tryd.prog.globalNamed "internal/strconv.uint64pow10" = some 3 := by kernel_rfl
theorem gTT : (Tryd.prog.globals[3]?).map (·.type) = some 257 := by kernel_rfl
theorem cE : Tryd.prog.cellsOf 118 = 1 := by kernel_rfl
theorem cT : Tryd.prog.cellsOf 257 = 20 := by kernel_rfl
/-- A start that meets the condition. -/
noncomputable def laidWorld (os : Os) : World :=
  { World.holding Tryd.prog os ⟨#[], #[], []⟩ with heap := ((((World.holding Tryd.prog os ⟨#[], #[], []⟩).heap.modify 5 fun
      | .cells _ t frozen => .cells (([0, 1, 28, 2, 29, 14, 24, 3, 30, 22, 20, 15, 25, 17, 4, 8, 31, 27, 13, 23, 21, 19, 16, 7, 26, 12, 18, 6, 11, 5, 10, 9] : List Int).map fun z => Value.int .u8 z).toArray t frozen
      | o => o).modify 6 fun
      | .cells _ t frozen => .cells (([0, 1, 56, 2, 57, 49, 28, 3, 61, 58, 42, 50, 38, 29, 17, 4, 62, 47, 59, 36, 45, 43, 51, 22, 53, 39, 33, 30, 24, 18, 12, 5, 63, 55, 48, 27, 60, 41, 37, 16, 46, 35, 44, 21, 52, 32, 23, 11, 54, 26, 40, 15, 34, 20, 31, 10, 25, 14, 19, 9, 13, 8, 7, 6] : List Int).map fun z => Value.int .u8 z).toArray t frozen
      | o => o).modify 3 fun
      | .cells _ t frozen => .cells (([1, 10, 100, 1000, 10000, 100000, 1000000, 10000000, 100000000, 1000000000, 10000000000, 100000000000, 1000000000000, 10000000000000, 100000000000000, 1000000000000000, 10000000000000000, 100000000000000000, 1000000000000000000, 10000000000000000000] : List Int).map fun z => Value.int .u64 z).toArray t frozen
      | o => o) }
theorem laidWorld_met (os : Os) (args : Array Value) : laidMetH Tryd.prog Rows.fnExactTellAnsRow.laid ((laidWorld os).forCall (fun _ _ => 0) ⟨#[], args, []⟩).memory :=
  show laidMet Tryd.prog Rows.fnExactTellAnsRow.laid _ from laidMet_of_run' 8 (by kernel_rfl) (by kernel_rfl)
set_option maxRecDepth 100000 in
theorem lifted (os : Os) (started : os.Started) (H : Type) (enc : TypeId × Value → H) :
    ReturnsInHanded {} Tryd.checked os 3 .any (fun w args => (Rows.fnExactTellAnsSpec.pre enc Tryd.prog Tryd.f3 [] false w args ∧ laidMetH Tryd.prog Rows.fnExactTellAnsRow.laid w) ∧ sizedMet enc Tryd.prog Tryd.f3 (OpenSpec.ofChange Rows.fnExactTellAnsSpec) false w args) (Rows.fnExactTellAnsSpec.post enc Tryd.prog Tryd.f3 false true false false) := by
  refine returnsInHanded_of_change_and (C := Tryd.checked) (X := fun w _ => laidMetH Tryd.prog Rows.fnExactTellAnsRow.laid w) (fun _ _ _ hh h => h.of_heap hh) own started (by kernel_rfl) Tryd.func3
    (ChangeSpec.witness_at (enc := enc) (C := Tryd.checked) (os := os) (X := fun w _ => laidMetH Tryd.prog Rows.fnExactTellAnsRow.laid w) false (laidWorld os) #[.agg #[.int .i64 0, .int .i64 0, .slice none 0 0, .int .i64 0, .int .i64 0, .int .i64 0, .int .i64 0, .int .i64 0, .int .i64 0, .int .i64 0, .int .i64 0, .int .i64 0, .int .i64 0, .slice none 0 0, .int .i64 0, .int .i64 0, .int .i64 0, .int .i64 0, .int .i64 0, .int .i64 0, .int .i64 0, .int .i64 0, .int .i64 0, .int .i64 0]] 8 rfl (by kernel_rfl) (by kernel_rfl) (by kernel_rfl) (by kernel_rfl) (by kernel_rfl) (laidWorld_met os _)) ?_
  intro W base args ds gs before hval0 hW hcnd hsz0 hL _
  have hval : ∀ (j : Nat) t v, Tryd.f3.params[j]? = some t → args[j]? = some v → Value.okWide Tryd.prog W .any base t v := hval0
  have hW' := hW
  obtain ⟨p, q, hA0, hV, rfl, hfz, hnd⟩ := hW
  have hA : DataW.TrodAll enc Tryd.prog W 0 (fun _ => true) true Tryd.f3.params.toList args.toList ds p := hA0
  rw [Tryd.params3] at hA hval
  obtain ⟨v0, vs0, d0, ds0, p0, q0, hargs, rfl, rfl, h0, r0⟩ := trodAll_cons hA
  obtain ⟨rfl, rfl, rfl⟩ := trodAll_nil r0
  obtain rfl : args = #[v0] := by cases args; simp_all
  have hL' : laidMet Tryd.prog [("math/bits.deBruijn32tab", Rows.laid_math_bits_deBruijn32tab), ("math/bits.deBruijn64tab", Rows.laid_math_bits_deBruijn64tab), ("internal/strconv.uint64pow10", Lib.tabData .u64 Lib.pow10Tab)] W := hL
  have hv : Tb W := Lib.tabIs_of_head gT gTT Tryd.underlying257 Tryd.underlying118 cE cT hL'.tail.tail
  clear hL hL'
  obtain ⟨rfl, rfl⟩ := trodVars_none hV
  have k0 := h0
  have lt0 : ∀ x ∈ p0, x.block < W.heap.size := by obtain ⟨m, hm⟩ := k0; exact DataW.trod_lt m _ _ _ hm
  obtain ⟨x0, cs0, rfl, K0, G0⟩ := opens_agg (opens0 W) Tryd.underlying29 (hval 0 29 v0 rfl rfl) h0
  obtain ⟨x_c, x_n, x_2, x_st, x_13, x_us⟩ := x0
  obtain ⟨_, _, rfl, rfl, _, _, rfl, rfl, _, _, rfl, ⟨A2, c2, rfl, hc2, hr2⟩, _, _, rfl, ⟨hl1, rfl⟩, _, _, rfl, ⟨A13, c13, rfl, hc13, hr13⟩, ⟨hl2, rfl⟩⟩ := K0
  obtain ⟨g1, g2, ⟨g3, _⟩, ⟨_, g4⟩, ⟨g5, g6⟩, ⟨_, g7⟩⟩ := G0
  clear hA0 hval0 hsz0
  simp only [maxLen] at g3 g5 g6
  refine (law_told x_c x_n A2 c2 x_2 x_st A13 c13 x_13 x_us W hl1 hl2 (wf64 g1) (wf64 g2) (fun v hv_ => wf64 (g4 v hv_)) (fun v hv_ => wf64 (g7 v hv_)) hr2 hc2 (by omega) hr13 hc13 (by omega) (fun x hx => ⟨wf64 (g6 x hx).2.1, wf64 (g6 x hx).2.2⟩) (fun x hx => by have := (g6 x hx).1; omega) hv).mono ?_
  rintro e W' ⟨rfl, bel⟩
  exact ⟨_, rfl, _, _, _, [], _, [], hW', trodAll_mk1 (shut_bool Tryd.underlying4 _), (trodAll_cons_mk (Below.trod laidOut (by kernel_rfl) (of_decide_eq_true (by kernel_rfl)) k0 bel lt0) trodAll_mk0), rfl, bel.frame _, fun h => by cases h⟩
theorem over : Rows.fnExactTellAnsRow.holds Tryd.pinned (OpenSpec.ofChange Rows.fnExactTellAnsSpec) :=
  OpenClaim.holds_of_wide 3 Tryd.f3 rfl rfl rfl rfl rfl rfl rfl ⟨rfl, rfl, rfl, rfl, rfl⟩ rfl rfl rfl rfl rfl (by kernel_rfl) Tryd.func3 (by kernel_rfl)
    (of_decide_eq_true (by kernel_rfl)) (by unfold Func.isWrapper; first | (rw [if_pos (by decide +kernel)]; kernel_rfl) | (rw [if_neg (by decide +kernel)]; exact ⟨rfl, rfl⟩))
    (fun os started H enc _ => lifted os started H enc)
theorem proved : Rows.FnExactTellAnsSaid := over
theorem card : Rows.FnExactTellAnsCardSaid :=
  Claim7.holds_tied_plain_at .later [] [.data, .data, .data] true (true, "eb0911b871f1ee252f46cfadba8cf0bd9f72c828f77fcde7ee53193799ddb601") true
    over (fun _ h => by cases h) (by kernel_rfl) (fun _ h => by cases h) fnExactTellAns_row_tie rfl ⟨rfl, rfl⟩ (by kernel_rfl) rfl
    (fun f fn hf hfn => by
      obtain rfl : f = 3 := Option.some.inj ((show Tryd.prog.funcNamed Rows.fnExactTellAnsRow.func = some 3 by kernel_rfl).symm.trans hf) |>.symm
      obtain rfl : fn = Tryd.f3 := (Option.some.inj (Tryd.func3.symm.trans hfn)).symm
      exact ⟨by kernel_rfl, fun j t ht => by
        rw [Tryd.params3] at ht
        have h3 : t = 29 := by
          rcases j with _ | j
          · simpa using ht.symm
          · simp at ht
        subst h3
        exact (show Tryd.prog.wantsStandIn 29 = false by kernel_rfl)⟩)
    (by kernel_rfl)
#print axioms card
end Go.Proofs.YtknlpjoidjgciaaDoor.fnExactTellAns
namespace Go.Proofs.YtknlpjoidjgciaaDoor
/-- The tied card, under a short name, for the claim. -/
theorem fnExactTellAns_holds : Rows.FnExactTellAnsCardSaid := fnExactTellAns.card
end Go.Proofs.YtknlpjoidjgciaaDoor
