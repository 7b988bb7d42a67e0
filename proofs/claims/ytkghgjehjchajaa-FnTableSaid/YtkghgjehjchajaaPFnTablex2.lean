-- Written by a program of this session (patch_print.py over the kit print)
import Derived.Test.YtkghgjehjchajaaPFnTablex0
import Derived.Test.YtkghgjehjchajaaPFnTablex1
namespace Go.Proofs.Ytkghgjehjchajaa.PFnTable
open Go.RowKit Go.Proofs.YtkghgjehjchajaaW.PrintWords Go.Proofs.YtkghgjehjchajaaW.PrintLast Go.Proofs.YtkghgjehjchajaaW.PrintMore
attribute [local go_sem] max2_int min2_int max_two min_two max_three min_three max_four min_four   -- for this text's walks alone
set_option linter.unusedVariables false
set_option linter.unusedSimpArgs false

open Go.Proofs.YtkghgjehjchajaaW Go.Proofs.YtkghgjehjchajaaW.PrintHand Go.Proofs.YtkghgjehjchajaaW.PrintHx
/-! ### spec_l02Inode: function 50 -/
open Go.Proofs.YtkghgjehjchajaaW.PrintLe Go.Proofs.YtkghgjehjchajaaW.PrintEqW Go.Proofs.YtkghgjehjchajaaW.PrintIno
theorem eqw22 : EqW Try.prog 22 12 2 := eqw_array Try.underlying22 Try.underlying3 (by kernel_rfl) (by kernel_rfl)
theorem eqw28 : EqW Try.prog 28 15 3 := by
  refine eqw_struct Try.underlying28 (by kernel_rfl) (fun d => ?_)
  refine fw_int rfl rfl Try.underlying3 (by decide) ?_
  refine fw_wide (m := 12) (D := 2) (d := d) rfl rfl Try.underlying22 rfl (by kernel_rfl) (by decide) eqw22 ?_
  refine fw_int rfl rfl Try.underlying3 (by decide) ?_
  refine fw_int rfl rfl Try.underlying3 (by decide) ?_
  exact fw_nil
theorem eqw42 : EqW Try.prog 42 24 4 := by
  refine eqw_struct Try.underlying42 (by kernel_rfl) (fun d => ?_)
  refine fw_int rfl rfl Try.underlying3 (by decide) ?_
  refine fw_int rfl rfl Try.underlying3 (by decide) ?_
  refine fw_int rfl rfl Try.underlying3 (by decide) ?_
  refine fw_int rfl rfl Try.underlying3 (by decide) ?_
  refine fw_int rfl rfl Try.underlying3 (by decide) ?_
  refine fw_int rfl rfl Try.underlying3 (by decide) ?_
  refine fw_int rfl rfl Try.underlying3 (by decide) ?_
  refine fw_int rfl rfl Try.underlying3 (by decide) ?_
  refine fw_int rfl rfl Try.underlying3 (by decide) ?_
  refine fw_wide (m := 15) (D := 3) (d := d) rfl rfl Try.underlying28 rfl (by kernel_rfl) (by decide) eqw28 ?_
  exact fw_nil
def spec_l02Inode.f (a0 : List Int) : Option Bool := some (inodeGood a0)
theorem spec_l02Inode.win (a b c : Int) (r : Bool) (h : rng a b c = r) : spec_l02Within.f a b c = some r := by
  subst h
  unfold spec_l02Within.f rng
  by_cases h : b ≤ a <;> simp [h]
set_option maxHeartbeats 8000000 in
set_option maxRecDepth 100000 in
theorem spec_l02Inode.calls (a0 : List Int) (n0 : a0.length = 24) (r : Bool) (w : World) (h : spec_l02Inode.f a0 = some r) :
    Calls Try.prog 50 #[.agg (nums .i64 a0).toArray] w fun e w' => e = .returned (.bool r) ∧ Below w.heap.size w w' := by
  have H := Aside0.mk (Option.some.inj h)
  have N_ := Aside0.mk n0
  clear n0 h
  obtain ⟨x0, hx0⟩ : ∃ x, x = a0.getD 0 0 := ⟨_, rfl⟩
  obtain ⟨x1, hx1⟩ : ∃ x, x = a0.getD 1 0 := ⟨_, rfl⟩
  obtain ⟨x2, hx2⟩ : ∃ x, x = a0.getD 2 0 := ⟨_, rfl⟩
  obtain ⟨x3, hx3⟩ : ∃ x, x = a0.getD 3 0 := ⟨_, rfl⟩
  obtain ⟨x4, hx4⟩ : ∃ x, x = a0.getD 4 0 := ⟨_, rfl⟩
  obtain ⟨x5, hx5⟩ : ∃ x, x = a0.getD 5 0 := ⟨_, rfl⟩
  obtain ⟨x6, hx6⟩ : ∃ x, x = a0.getD 6 0 := ⟨_, rfl⟩
  obtain ⟨x7, hx7⟩ : ∃ x, x = a0.getD 7 0 := ⟨_, rfl⟩
  obtain ⟨x8, hx8⟩ : ∃ x, x = a0.getD 8 0 := ⟨_, rfl⟩
  obtain ⟨xr, hxr⟩ : ∃ x, x = seg a0 9 15 := ⟨_, rfl⟩
  have NR := Aside0.mk (show xr.length = 15 by rw [hxr]; exact part_len N_.out (by decide))
  have HIN := Aside0.mk (show inodeGood a0 = (decide (a0 = List.replicate 24 0) || inodeOk x0 x1 x2 x3 x4 x5 x6 x7 x8 xr) by rw [hx0, hx1, hx2, hx3, hx4, hx5, hx6, hx7, hx8, hxr]; rfl)
  have X0 := Aside0.mk hx0
  clear hx0
  have X1 := Aside0.mk hx1
  clear hx1
  have X2 := Aside0.mk hx2
  clear hx2
  have X3 := Aside0.mk hx3
  clear hx3
  have X4 := Aside0.mk hx4
  clear hx4
  have X5 := Aside0.mk hx5
  clear hx5
  have X6 := Aside0.mk hx6
  clear hx6
  have X7 := Aside0.mk hx7
  clear hx7
  have X8 := Aside0.mk hx8
  clear hx8
  obtain ⟨y0, hy0⟩ : ∃ x, x = a0.getD 9 0 := ⟨_, rfl⟩
  obtain ⟨y1, hy1⟩ : ∃ x, x = a0.getD 10 0 := ⟨_, rfl⟩
  obtain ⟨y2, hy2⟩ : ∃ x, x = a0.getD 11 0 := ⟨_, rfl⟩
  obtain ⟨y3, hy3⟩ : ∃ x, x = a0.getD 12 0 := ⟨_, rfl⟩
  obtain ⟨y4, hy4⟩ : ∃ x, x = a0.getD 13 0 := ⟨_, rfl⟩
  obtain ⟨y5, hy5⟩ : ∃ x, x = a0.getD 14 0 := ⟨_, rfl⟩
  obtain ⟨y6, hy6⟩ : ∃ x, x = a0.getD 15 0 := ⟨_, rfl⟩
  obtain ⟨y7, hy7⟩ : ∃ x, x = a0.getD 16 0 := ⟨_, rfl⟩
  obtain ⟨y8, hy8⟩ : ∃ x, x = a0.getD 17 0 := ⟨_, rfl⟩
  obtain ⟨y9, hy9⟩ : ∃ x, x = a0.getD 18 0 := ⟨_, rfl⟩
  obtain ⟨y10, hy10⟩ : ∃ x, x = a0.getD 19 0 := ⟨_, rfl⟩
  obtain ⟨y11, hy11⟩ : ∃ x, x = a0.getD 20 0 := ⟨_, rfl⟩
  obtain ⟨y12, hy12⟩ : ∃ x, x = a0.getD 21 0 := ⟨_, rfl⟩
  obtain ⟨y13, hy13⟩ : ∃ x, x = a0.getD 22 0 := ⟨_, rfl⟩
  obtain ⟨y14, hy14⟩ : ∃ x, x = a0.getD 23 0 := ⟨_, rfl⟩
  have XY := Aside0.mk (show xr = [y0, y1, y2, y3, y4, y5, y6, y7, y8, y9, y10, y11, y12, y13, y14] by rw [hxr, hy0, hy1, hy2, hy3, hy4, hy5, hy6, hy7, hy8, hy9, hy10, hy11, hy12, hy13, hy14]; exact seg_root N_.out)
  have Y0 := Aside0.mk hy0
  clear hy0
  have Y1 := Aside0.mk hy1
  clear hy1
  have Y2 := Aside0.mk hy2
  clear hy2
  have Y3 := Aside0.mk hy3
  clear hy3
  have Y4 := Aside0.mk hy4
  clear hy4
  have Y5 := Aside0.mk hy5
  clear hy5
  have Y6 := Aside0.mk hy6
  clear hy6
  have Y7 := Aside0.mk hy7
  clear hy7
  have Y8 := Aside0.mk hy8
  clear hy8
  have Y9 := Aside0.mk hy9
  clear hy9
  have Y10 := Aside0.mk hy10
  clear hy10
  have Y11 := Aside0.mk hy11
  clear hy11
  have Y12 := Aside0.mk hy12
  clear hy12
  have Y13 := Aside0.mk hy13
  clear hy13
  have Y14 := Aside0.mk hy14
  clear hy14
  have XR := Aside0.mk hxr
  clear hxr
  have HB0 : Aside0 (Below w.heap.size w w) := ⟨Below.refl _ _⟩
  obtain ⟨s0, Sz0⟩ : ∃ s0, Aside0 (w.heap.size = s0) := ⟨_, ⟨rfl⟩⟩
  have hw0 : w.heap.size ≤ s0 := Nat.le_of_eq Sz0.out
  have hw1 : s0 ≤ w.heap.size := Nat.le_of_eq Sz0.out.symm
  obtain ⟨zz, hzz⟩ : ∃ z, z = List.replicate 24 (0 : Int) := ⟨_, rfl⟩
  have ZZ := Aside0.mk hzz
  have NZ := Aside0.mk (show zz.length = 24 by rw [hzz]; simp)
  have CELLS : Aside0 (∀ W : World, W.heap[s0]? = some (.cells (nums .i64 a0).toArray 42 (0, 0)) → W.cell? ⟨s0, 0, none⟩ = some (.int .i64 x0) ∧ W.cell? ⟨s0, 1, none⟩ = some (.int .i64 x1) ∧ W.cell? ⟨s0, 2, none⟩ = some (.int .i64 x2) ∧ W.cell? ⟨s0, 3, none⟩ = some (.int .i64 x3) ∧ W.cell? ⟨s0, 4, none⟩ = some (.int .i64 x4) ∧ W.cell? ⟨s0, 5, none⟩ = some (.int .i64 x5) ∧ W.cell? ⟨s0, 6, none⟩ = some (.int .i64 x6) ∧ W.cell? ⟨s0, 7, none⟩ = some (.int .i64 x7) ∧ W.cell? ⟨s0, 8, none⟩ = some (.int .i64 x8)) := by
    exact ⟨fun W hW => ⟨by have h_ := row_cell hW 0 (lt_len (n := 24) N_.out (by decide)); rw [← X0.out] at h_; exact h_, by have h_ := row_cell hW 1 (lt_len (n := 24) N_.out (by decide)); rw [← X1.out] at h_; exact h_, by have h_ := row_cell hW 2 (lt_len (n := 24) N_.out (by decide)); rw [← X2.out] at h_; exact h_, by have h_ := row_cell hW 3 (lt_len (n := 24) N_.out (by decide)); rw [← X3.out] at h_; exact h_, by have h_ := row_cell hW 4 (lt_len (n := 24) N_.out (by decide)); rw [← X4.out] at h_; exact h_, by have h_ := row_cell hW 5 (lt_len (n := 24) N_.out (by decide)); rw [← X5.out] at h_; exact h_, by have h_ := row_cell hW 6 (lt_len (n := 24) N_.out (by decide)); rw [← X6.out] at h_; exact h_, by have h_ := row_cell hW 7 (lt_len (n := 24) N_.out (by decide)); rw [← X7.out] at h_; exact h_, by have h_ := row_cell hW 8 (lt_len (n := 24) N_.out (by decide)); rw [← X8.out] at h_; exact h_⟩⟩
  have CELLR : Aside0 (∀ W : World, W.heap[s0]? = some (.cells (nums .i64 a0).toArray 42 (0, 0)) → W.cell? ⟨s0, 9, none⟩ = some (.int .i64 y0) ∧ W.cell? ⟨s0, 10, none⟩ = some (.int .i64 y1) ∧ W.cell? ⟨s0, 11, none⟩ = some (.int .i64 y2) ∧ W.cell? ⟨s0, 12, none⟩ = some (.int .i64 y3) ∧ W.cell? ⟨s0, 13, none⟩ = some (.int .i64 y4) ∧ W.cell? ⟨s0, 14, none⟩ = some (.int .i64 y5) ∧ W.cell? ⟨s0, 15, none⟩ = some (.int .i64 y6) ∧ W.cell? ⟨s0, 16, none⟩ = some (.int .i64 y7) ∧ W.cell? ⟨s0, 17, none⟩ = some (.int .i64 y8) ∧ W.cell? ⟨s0, 18, none⟩ = some (.int .i64 y9) ∧ W.cell? ⟨s0, 19, none⟩ = some (.int .i64 y10) ∧ W.cell? ⟨s0, 20, none⟩ = some (.int .i64 y11) ∧ W.cell? ⟨s0, 21, none⟩ = some (.int .i64 y12) ∧ W.cell? ⟨s0, 22, none⟩ = some (.int .i64 y13) ∧ W.cell? ⟨s0, 23, none⟩ = some (.int .i64 y14)) := by
    exact ⟨fun W hW => ⟨by have h_ := row_cell hW 9 (lt_len (n := 24) N_.out (by decide)); rw [← Y0.out] at h_; exact h_, by have h_ := row_cell hW 10 (lt_len (n := 24) N_.out (by decide)); rw [← Y1.out] at h_; exact h_, by have h_ := row_cell hW 11 (lt_len (n := 24) N_.out (by decide)); rw [← Y2.out] at h_; exact h_, by have h_ := row_cell hW 12 (lt_len (n := 24) N_.out (by decide)); rw [← Y3.out] at h_; exact h_, by have h_ := row_cell hW 13 (lt_len (n := 24) N_.out (by decide)); rw [← Y4.out] at h_; exact h_, by have h_ := row_cell hW 14 (lt_len (n := 24) N_.out (by decide)); rw [← Y5.out] at h_; exact h_, by have h_ := row_cell hW 15 (lt_len (n := 24) N_.out (by decide)); rw [← Y6.out] at h_; exact h_, by have h_ := row_cell hW 16 (lt_len (n := 24) N_.out (by decide)); rw [← Y7.out] at h_; exact h_, by have h_ := row_cell hW 17 (lt_len (n := 24) N_.out (by decide)); rw [← Y8.out] at h_; exact h_, by have h_ := row_cell hW 18 (lt_len (n := 24) N_.out (by decide)); rw [← Y9.out] at h_; exact h_, by have h_ := row_cell hW 19 (lt_len (n := 24) N_.out (by decide)); rw [← Y10.out] at h_; exact h_, by have h_ := row_cell hW 20 (lt_len (n := 24) N_.out (by decide)); rw [← Y11.out] at h_; exact h_, by have h_ := row_cell hW 21 (lt_len (n := 24) N_.out (by decide)); rw [← Y12.out] at h_; exact h_, by have h_ := row_cell hW 22 (lt_len (n := 24) N_.out (by decide)); rw [← Y13.out] at h_; exact h_, by have h_ := row_cell hW 23 (lt_len (n := 24) N_.out (by decide)); rw [← Y14.out] at h_; exact h_⟩⟩
  by_cases hz : a0 = zz
  · have BE := Aside0.mk (decide_eq_true hz)
    have HZ := Aside0.mk (show a0 = List.replicate 24 0 by rw [← hzz]; exact hz)
    clear hz hzz
    go_enter Try.func50, Try.ntmps50
    go_wp2_with (first | ((with_reducible refine gate_dst (N := 1) rfl ?_); refine hx_box rfl 1 rfl 42 (.tmp 0) rfl Sz0 (.agg (nums .i64 a0).toArray) (nums .i64 a0).toArray rfl rfl ?_; intro wn s1 L1 Sz1 b1 g_; have HH := Aside0.mk g_; have HBB := Aside0.mk (below_then HB0.out HB0.out.size b1); clear g_ HB0 b1; obtain ⟨k0, k1, k2, k3, k4, k5, k6, k7, k8⟩ := CELLS.out wn HH.out) | ((with_reducible refine gate_dst (N := 4) rfl ?_); refine hx_load rfl 42 (.tmp 1) rfl s0 24 rfl Try.underlying42 rfl (by kernel_rfl) HH.out (nums_size _ _ _ N_.out) ?_) | ((with_reducible refine gate_dst (N := 6) rfl ?_); refine wpList_eqw rfl (.tmp 4) (.tmp 5) _ rfl eqw42 (by decide) (by kernel_rfl) a0 zz rfl (by rw [ZZ.out]; rfl) N_.out NZ.out ?_; rw [BE.out]))
    go_ret
    refine ⟨?_, HBB.out⟩
    have e_ : inodeGood a0 = true := by rw [HIN.out, decide_eq_true HZ.out]; rfl
    rw [← H.out, e_]; rfl
  have BE := Aside0.mk (decide_eq_false hz)
  have HZ := Aside0.mk (show ¬ a0 = List.replicate 24 0 by rw [← hzz]; exact hz)
  clear hz hzz
  by_cases hk : x0 = 2
  · have hkb : (x0 == 2) = true := beq_iff_eq.mpr hk
    obtain ⟨pb, hpb⟩ : ∃ b, b = rng x5 1 1000 := ⟨_, rfl⟩
    have hpo : parentOk x0 x5 = pb := by unfold parentOk; rw [if_pos hk, hpb]
    have WP := Aside0.mk (spec_l02Inode.win x5 1 1000 pb hpb.symm)
    clear hk hpb
    obtain ⟨b0, hb0⟩ : ∃ b, b = rng x0 1 3 := ⟨_, rfl⟩
    have R0 := Aside0.mk hb0.symm
    have W0 := Aside0.mk (spec_l02Inode.win x0 1 3 b0 R0.out)
    clear hb0
    cases b0 with
    | false =>
      go_enter Try.func50, Try.ntmps50
      go_wp2_with (first | ((with_reducible refine gate_dst (N := 1) rfl ?_); refine hx_box rfl 1 rfl 42 (.tmp 0) rfl Sz0 (.agg (nums .i64 a0).toArray) (nums .i64 a0).toArray rfl rfl ?_; intro wn s1 L1 Sz1 b1 g_; have HH := Aside0.mk g_; have HBB := Aside0.mk (below_then HB0.out HB0.out.size b1); clear g_ HB0 b1; obtain ⟨k0, k1, k2, k3, k4, k5, k6, k7, k8⟩ := CELLS.out wn HH.out) | ((with_reducible refine gate_dst (N := 4) rfl ?_); refine hx_load rfl 42 (.tmp 1) rfl s0 24 rfl Try.underlying42 rfl (by kernel_rfl) HH.out (nums_size _ _ _ N_.out) ?_) | ((with_reducible refine gate_dst (N := 6) rfl ?_); refine wpList_eqw rfl (.tmp 4) (.tmp 5) _ rfl eqw42 (by decide) (by kernel_rfl) a0 zz rfl (by rw [ZZ.out]; rfl) N_.out NZ.out ?_; rw [BE.out]) | (go_at_call 77; (first | (with_reducible refine (spec_l02Within.calls x5 1 1000 pb _ WP.out).mono ?_) | (with_reducible refine (spec_l02Within.calls x0 1 3 false _ W0.out).mono ?_)); rintro e_ wn ⟨rfl, d_⟩; have b_ := kept_drawn d_; have X_ := Aside0.mk (blk_below HH.out b_); have Y_ := Aside0.mk (below_then HBB.out HBB.out.size b_); clear b_ d_ HH HBB k0 k1 k2 k3 k4 k5 k6 k7 k8; have HH := X_; have HBB := Y_; clear X_ Y_; obtain ⟨k0, k1, k2, k3, k4, k5, k6, k7, k8⟩ := CELLS.out wn HH.out))
      go_ret
      refine ⟨?_, HBB.out⟩
      have e_ : inodeGood a0 = false := by rw [HIN.out, decide_eq_false HZ.out]; unfold inodeOk; rw [R0.out]; rfl
      rw [← H.out, e_]; rfl
    | true =>
      obtain ⟨b1, hb1⟩ : ∃ b, b = rng x1 1 1000 := ⟨_, rfl⟩
      have R1 := Aside0.mk hb1.symm
      have W1 := Aside0.mk (spec_l02Inode.win x1 1 1000 b1 R1.out)
      clear hb1
      cases b1 with
      | false =>
        go_enter Try.func50, Try.ntmps50
        go_wp2_with (first | ((with_reducible refine gate_dst (N := 1) rfl ?_); refine hx_box rfl 1 rfl 42 (.tmp 0) rfl Sz0 (.agg (nums .i64 a0).toArray) (nums .i64 a0).toArray rfl rfl ?_; intro wn s1 L1 Sz1 b1 g_; have HH := Aside0.mk g_; have HBB := Aside0.mk (below_then HB0.out HB0.out.size b1); clear g_ HB0 b1; obtain ⟨k0, k1, k2, k3, k4, k5, k6, k7, k8⟩ := CELLS.out wn HH.out) | ((with_reducible refine gate_dst (N := 4) rfl ?_); refine hx_load rfl 42 (.tmp 1) rfl s0 24 rfl Try.underlying42 rfl (by kernel_rfl) HH.out (nums_size _ _ _ N_.out) ?_) | ((with_reducible refine gate_dst (N := 6) rfl ?_); refine wpList_eqw rfl (.tmp 4) (.tmp 5) _ rfl eqw42 (by decide) (by kernel_rfl) a0 zz rfl (by rw [ZZ.out]; rfl) N_.out NZ.out ?_; rw [BE.out]) | (go_at_call 77; (first | (with_reducible refine (spec_l02Within.calls x5 1 1000 pb _ WP.out).mono ?_) | (with_reducible refine (spec_l02Within.calls x0 1 3 true _ W0.out).mono ?_) | (with_reducible refine (spec_l02Within.calls x1 1 1000 false _ W1.out).mono ?_)); rintro e_ wn ⟨rfl, d_⟩; have b_ := kept_drawn d_; have X_ := Aside0.mk (blk_below HH.out b_); have Y_ := Aside0.mk (below_then HBB.out HBB.out.size b_); clear b_ d_ HH HBB k0 k1 k2 k3 k4 k5 k6 k7 k8; have HH := X_; have HBB := Y_; clear X_ Y_; obtain ⟨k0, k1, k2, k3, k4, k5, k6, k7, k8⟩ := CELLS.out wn HH.out))
        go_ret
        refine ⟨?_, HBB.out⟩
        have e_ : inodeGood a0 = false := by rw [HIN.out, decide_eq_false HZ.out]; unfold inodeOk; rw [R0.out, R1.out]; rfl
        rw [← H.out, e_]; rfl
      | true =>
        obtain ⟨b2, hb2⟩ : ∃ b, b = rng x2 0 4095 := ⟨_, rfl⟩
        have R2 := Aside0.mk hb2.symm
        have W2 := Aside0.mk (spec_l02Inode.win x2 0 4095 b2 R2.out)
        clear hb2
        cases b2 with
        | false =>
          go_enter Try.func50, Try.ntmps50
          go_wp2_with (first | ((with_reducible refine gate_dst (N := 1) rfl ?_); refine hx_box rfl 1 rfl 42 (.tmp 0) rfl Sz0 (.agg (nums .i64 a0).toArray) (nums .i64 a0).toArray rfl rfl ?_; intro wn s1 L1 Sz1 b1 g_; have HH := Aside0.mk g_; have HBB := Aside0.mk (below_then HB0.out HB0.out.size b1); clear g_ HB0 b1; obtain ⟨k0, k1, k2, k3, k4, k5, k6, k7, k8⟩ := CELLS.out wn HH.out) | ((with_reducible refine gate_dst (N := 4) rfl ?_); refine hx_load rfl 42 (.tmp 1) rfl s0 24 rfl Try.underlying42 rfl (by kernel_rfl) HH.out (nums_size _ _ _ N_.out) ?_) | ((with_reducible refine gate_dst (N := 6) rfl ?_); refine wpList_eqw rfl (.tmp 4) (.tmp 5) _ rfl eqw42 (by decide) (by kernel_rfl) a0 zz rfl (by rw [ZZ.out]; rfl) N_.out NZ.out ?_; rw [BE.out]) | (go_at_call 77; (first | (with_reducible refine (spec_l02Within.calls x5 1 1000 pb _ WP.out).mono ?_) | (with_reducible refine (spec_l02Within.calls x0 1 3 true _ W0.out).mono ?_) | (with_reducible refine (spec_l02Within.calls x1 1 1000 true _ W1.out).mono ?_) | (with_reducible refine (spec_l02Within.calls x2 0 4095 false _ W2.out).mono ?_)); rintro e_ wn ⟨rfl, d_⟩; have b_ := kept_drawn d_; have X_ := Aside0.mk (blk_below HH.out b_); have Y_ := Aside0.mk (below_then HBB.out HBB.out.size b_); clear b_ d_ HH HBB k0 k1 k2 k3 k4 k5 k6 k7 k8; have HH := X_; have HBB := Y_; clear X_ Y_; obtain ⟨k0, k1, k2, k3, k4, k5, k6, k7, k8⟩ := CELLS.out wn HH.out))
          go_ret
          refine ⟨?_, HBB.out⟩
          have e_ : inodeGood a0 = false := by rw [HIN.out, decide_eq_false HZ.out]; unfold inodeOk; rw [R0.out, R1.out, R2.out]; rfl
          rw [← H.out, e_]; rfl
        | true =>
          obtain ⟨b3, hb3⟩ : ∃ b, b = rng x3 0 65535 := ⟨_, rfl⟩
          have R3 := Aside0.mk hb3.symm
          have W3 := Aside0.mk (spec_l02Inode.win x3 0 65535 b3 R3.out)
          clear hb3
          cases b3 with
          | false =>
            go_enter Try.func50, Try.ntmps50
            go_wp2_with (first | ((with_reducible refine gate_dst (N := 1) rfl ?_); refine hx_box rfl 1 rfl 42 (.tmp 0) rfl Sz0 (.agg (nums .i64 a0).toArray) (nums .i64 a0).toArray rfl rfl ?_; intro wn s1 L1 Sz1 b1 g_; have HH := Aside0.mk g_; have HBB := Aside0.mk (below_then HB0.out HB0.out.size b1); clear g_ HB0 b1; obtain ⟨k0, k1, k2, k3, k4, k5, k6, k7, k8⟩ := CELLS.out wn HH.out) | ((with_reducible refine gate_dst (N := 4) rfl ?_); refine hx_load rfl 42 (.tmp 1) rfl s0 24 rfl Try.underlying42 rfl (by kernel_rfl) HH.out (nums_size _ _ _ N_.out) ?_) | ((with_reducible refine gate_dst (N := 6) rfl ?_); refine wpList_eqw rfl (.tmp 4) (.tmp 5) _ rfl eqw42 (by decide) (by kernel_rfl) a0 zz rfl (by rw [ZZ.out]; rfl) N_.out NZ.out ?_; rw [BE.out]) | (go_at_call 77; (first | (with_reducible refine (spec_l02Within.calls x5 1 1000 pb _ WP.out).mono ?_) | (with_reducible refine (spec_l02Within.calls x0 1 3 true _ W0.out).mono ?_) | (with_reducible refine (spec_l02Within.calls x1 1 1000 true _ W1.out).mono ?_) | (with_reducible refine (spec_l02Within.calls x2 0 4095 true _ W2.out).mono ?_) | (with_reducible refine (spec_l02Within.calls x3 0 65535 false _ W3.out).mono ?_)); rintro e_ wn ⟨rfl, d_⟩; have b_ := kept_drawn d_; have X_ := Aside0.mk (blk_below HH.out b_); have Y_ := Aside0.mk (below_then HBB.out HBB.out.size b_); clear b_ d_ HH HBB k0 k1 k2 k3 k4 k5 k6 k7 k8; have HH := X_; have HBB := Y_; clear X_ Y_; obtain ⟨k0, k1, k2, k3, k4, k5, k6, k7, k8⟩ := CELLS.out wn HH.out))
            go_ret
            refine ⟨?_, HBB.out⟩
            have e_ : inodeGood a0 = false := by rw [HIN.out, decide_eq_false HZ.out]; unfold inodeOk; rw [R0.out, R1.out, R2.out, R3.out]; rfl
            rw [← H.out, e_]; rfl
          | true =>
            obtain ⟨b4, hb4⟩ : ∃ b, b = rng x4 0 65535 := ⟨_, rfl⟩
            have R4 := Aside0.mk hb4.symm
            have W4 := Aside0.mk (spec_l02Inode.win x4 0 65535 b4 R4.out)
            clear hb4
            cases b4 with
            | false =>
              go_enter Try.func50, Try.ntmps50
              go_wp2_with (first | ((with_reducible refine gate_dst (N := 1) rfl ?_); refine hx_box rfl 1 rfl 42 (.tmp 0) rfl Sz0 (.agg (nums .i64 a0).toArray) (nums .i64 a0).toArray rfl rfl ?_; intro wn s1 L1 Sz1 b1 g_; have HH := Aside0.mk g_; have HBB := Aside0.mk (below_then HB0.out HB0.out.size b1); clear g_ HB0 b1; obtain ⟨k0, k1, k2, k3, k4, k5, k6, k7, k8⟩ := CELLS.out wn HH.out) | ((with_reducible refine gate_dst (N := 4) rfl ?_); refine hx_load rfl 42 (.tmp 1) rfl s0 24 rfl Try.underlying42 rfl (by kernel_rfl) HH.out (nums_size _ _ _ N_.out) ?_) | ((with_reducible refine gate_dst (N := 6) rfl ?_); refine wpList_eqw rfl (.tmp 4) (.tmp 5) _ rfl eqw42 (by decide) (by kernel_rfl) a0 zz rfl (by rw [ZZ.out]; rfl) N_.out NZ.out ?_; rw [BE.out]) | (go_at_call 77; (first | (with_reducible refine (spec_l02Within.calls x5 1 1000 pb _ WP.out).mono ?_) | (with_reducible refine (spec_l02Within.calls x0 1 3 true _ W0.out).mono ?_) | (with_reducible refine (spec_l02Within.calls x1 1 1000 true _ W1.out).mono ?_) | (with_reducible refine (spec_l02Within.calls x2 0 4095 true _ W2.out).mono ?_) | (with_reducible refine (spec_l02Within.calls x3 0 65535 true _ W3.out).mono ?_) | (with_reducible refine (spec_l02Within.calls x4 0 65535 false _ W4.out).mono ?_)); rintro e_ wn ⟨rfl, d_⟩; have b_ := kept_drawn d_; have X_ := Aside0.mk (blk_below HH.out b_); have Y_ := Aside0.mk (below_then HBB.out HBB.out.size b_); clear b_ d_ HH HBB k0 k1 k2 k3 k4 k5 k6 k7 k8; have HH := X_; have HBB := Y_; clear X_ Y_; obtain ⟨k0, k1, k2, k3, k4, k5, k6, k7, k8⟩ := CELLS.out wn HH.out))
              go_ret
              refine ⟨?_, HBB.out⟩
              have e_ : inodeGood a0 = false := by rw [HIN.out, decide_eq_false HZ.out]; unfold inodeOk; rw [R0.out, R1.out, R2.out, R3.out, R4.out]; rfl
              rw [← H.out, e_]; rfl
            | true =>
              have R5 := Aside0.mk hpo
              clear hpo
              cases pb with
              | false =>
                go_enter Try.func50, Try.ntmps50
                go_wp2_with (first | ((with_reducible refine gate_dst (N := 1) rfl ?_); refine hx_box rfl 1 rfl 42 (.tmp 0) rfl Sz0 (.agg (nums .i64 a0).toArray) (nums .i64 a0).toArray rfl rfl ?_; intro wn s1 L1 Sz1 b1 g_; have HH := Aside0.mk g_; have HBB := Aside0.mk (below_then HB0.out HB0.out.size b1); clear g_ HB0 b1; obtain ⟨k0, k1, k2, k3, k4, k5, k6, k7, k8⟩ := CELLS.out wn HH.out) | ((with_reducible refine gate_dst (N := 4) rfl ?_); refine hx_load rfl 42 (.tmp 1) rfl s0 24 rfl Try.underlying42 rfl (by kernel_rfl) HH.out (nums_size _ _ _ N_.out) ?_) | ((with_reducible refine gate_dst (N := 6) rfl ?_); refine wpList_eqw rfl (.tmp 4) (.tmp 5) _ rfl eqw42 (by decide) (by kernel_rfl) a0 zz rfl (by rw [ZZ.out]; rfl) N_.out NZ.out ?_; rw [BE.out]) | (go_at_call 77; (first | (with_reducible refine (spec_l02Within.calls x5 1 1000 false _ WP.out).mono ?_) | (with_reducible refine (spec_l02Within.calls x0 1 3 true _ W0.out).mono ?_) | (with_reducible refine (spec_l02Within.calls x1 1 1000 true _ W1.out).mono ?_) | (with_reducible refine (spec_l02Within.calls x2 0 4095 true _ W2.out).mono ?_) | (with_reducible refine (spec_l02Within.calls x3 0 65535 true _ W3.out).mono ?_) | (with_reducible refine (spec_l02Within.calls x4 0 65535 true _ W4.out).mono ?_)); rintro e_ wn ⟨rfl, d_⟩; have b_ := kept_drawn d_; have X_ := Aside0.mk (blk_below HH.out b_); have Y_ := Aside0.mk (below_then HBB.out HBB.out.size b_); clear b_ d_ HH HBB k0 k1 k2 k3 k4 k5 k6 k7 k8; have HH := X_; have HBB := Y_; clear X_ Y_; obtain ⟨k0, k1, k2, k3, k4, k5, k6, k7, k8⟩ := CELLS.out wn HH.out))
                go_ret
                refine ⟨?_, HBB.out⟩
                have e_ : inodeGood a0 = false := by rw [HIN.out, decide_eq_false HZ.out]; unfold inodeOk; rw [R0.out, R1.out, R2.out, R3.out, R4.out, R5.out]; rfl
                rw [← H.out, e_]; rfl
              | true =>
                obtain ⟨b6, hb6⟩ : ∃ b, b = rng x6 1 1099511627776 := ⟨_, rfl⟩
                have R6 := Aside0.mk hb6.symm
                have W6 := Aside0.mk (spec_l02Inode.win x6 1 1099511627776 b6 R6.out)
                clear hb6
                cases b6 with
                | false =>
                  go_enter Try.func50, Try.ntmps50
                  go_wp2_with (first | ((with_reducible refine gate_dst (N := 1) rfl ?_); refine hx_box rfl 1 rfl 42 (.tmp 0) rfl Sz0 (.agg (nums .i64 a0).toArray) (nums .i64 a0).toArray rfl rfl ?_; intro wn s1 L1 Sz1 b1 g_; have HH := Aside0.mk g_; have HBB := Aside0.mk (below_then HB0.out HB0.out.size b1); clear g_ HB0 b1; obtain ⟨k0, k1, k2, k3, k4, k5, k6, k7, k8⟩ := CELLS.out wn HH.out) | ((with_reducible refine gate_dst (N := 4) rfl ?_); refine hx_load rfl 42 (.tmp 1) rfl s0 24 rfl Try.underlying42 rfl (by kernel_rfl) HH.out (nums_size _ _ _ N_.out) ?_) | ((with_reducible refine gate_dst (N := 6) rfl ?_); refine wpList_eqw rfl (.tmp 4) (.tmp 5) _ rfl eqw42 (by decide) (by kernel_rfl) a0 zz rfl (by rw [ZZ.out]; rfl) N_.out NZ.out ?_; rw [BE.out]) | (go_at_call 77; (first | (with_reducible refine (spec_l02Within.calls x5 1 1000 true _ WP.out).mono ?_) | (with_reducible refine (spec_l02Within.calls x0 1 3 true _ W0.out).mono ?_) | (with_reducible refine (spec_l02Within.calls x1 1 1000 true _ W1.out).mono ?_) | (with_reducible refine (spec_l02Within.calls x2 0 4095 true _ W2.out).mono ?_) | (with_reducible refine (spec_l02Within.calls x3 0 65535 true _ W3.out).mono ?_) | (with_reducible refine (spec_l02Within.calls x4 0 65535 true _ W4.out).mono ?_) | (with_reducible refine (spec_l02Within.calls x6 1 1099511627776 false _ W6.out).mono ?_)); rintro e_ wn ⟨rfl, d_⟩; have b_ := kept_drawn d_; have X_ := Aside0.mk (blk_below HH.out b_); have Y_ := Aside0.mk (below_then HBB.out HBB.out.size b_); clear b_ d_ HH HBB k0 k1 k2 k3 k4 k5 k6 k7 k8; have HH := X_; have HBB := Y_; clear X_ Y_; obtain ⟨k0, k1, k2, k3, k4, k5, k6, k7, k8⟩ := CELLS.out wn HH.out))
                  go_ret
                  refine ⟨?_, HBB.out⟩
                  have e_ : inodeGood a0 = false := by rw [HIN.out, decide_eq_false HZ.out]; unfold inodeOk; rw [R0.out, R1.out, R2.out, R3.out, R4.out, R5.out, R6.out]; rfl
                  rw [← H.out, e_]; rfl
                | true =>
                  obtain ⟨b7, hb7⟩ : ∃ b, b = rng x7 1 1099511627776 := ⟨_, rfl⟩
                  have R7 := Aside0.mk hb7.symm
                  have W7 := Aside0.mk (spec_l02Inode.win x7 1 1099511627776 b7 R7.out)
                  clear hb7
                  cases b7 with
                  | false =>
                    go_enter Try.func50, Try.ntmps50
                    go_wp2_with (first | ((with_reducible refine gate_dst (N := 1) rfl ?_); refine hx_box rfl 1 rfl 42 (.tmp 0) rfl Sz0 (.agg (nums .i64 a0).toArray) (nums .i64 a0).toArray rfl rfl ?_; intro wn s1 L1 Sz1 b1 g_; have HH := Aside0.mk g_; have HBB := Aside0.mk (below_then HB0.out HB0.out.size b1); clear g_ HB0 b1; obtain ⟨k0, k1, k2, k3, k4, k5, k6, k7, k8⟩ := CELLS.out wn HH.out) | ((with_reducible refine gate_dst (N := 4) rfl ?_); refine hx_load rfl 42 (.tmp 1) rfl s0 24 rfl Try.underlying42 rfl (by kernel_rfl) HH.out (nums_size _ _ _ N_.out) ?_) | ((with_reducible refine gate_dst (N := 6) rfl ?_); refine wpList_eqw rfl (.tmp 4) (.tmp 5) _ rfl eqw42 (by decide) (by kernel_rfl) a0 zz rfl (by rw [ZZ.out]; rfl) N_.out NZ.out ?_; rw [BE.out]) | (go_at_call 77; (first | (with_reducible refine (spec_l02Within.calls x5 1 1000 true _ WP.out).mono ?_) | (with_reducible refine (spec_l02Within.calls x0 1 3 true _ W0.out).mono ?_) | (with_reducible refine (spec_l02Within.calls x1 1 1000 true _ W1.out).mono ?_) | (with_reducible refine (spec_l02Within.calls x2 0 4095 true _ W2.out).mono ?_) | (with_reducible refine (spec_l02Within.calls x3 0 65535 true _ W3.out).mono ?_) | (with_reducible refine (spec_l02Within.calls x4 0 65535 true _ W4.out).mono ?_) | (with_reducible refine (spec_l02Within.calls x6 1 1099511627776 true _ W6.out).mono ?_) | (with_reducible refine (spec_l02Within.calls x7 1 1099511627776 false _ W7.out).mono ?_)); rintro e_ wn ⟨rfl, d_⟩; have b_ := kept_drawn d_; have X_ := Aside0.mk (blk_below HH.out b_); have Y_ := Aside0.mk (below_then HBB.out HBB.out.size b_); clear b_ d_ HH HBB k0 k1 k2 k3 k4 k5 k6 k7 k8; have HH := X_; have HBB := Y_; clear X_ Y_; obtain ⟨k0, k1, k2, k3, k4, k5, k6, k7, k8⟩ := CELLS.out wn HH.out))
                    go_ret
                    refine ⟨?_, HBB.out⟩
                    have e_ : inodeGood a0 = false := by rw [HIN.out, decide_eq_false HZ.out]; unfold inodeOk; rw [R0.out, R1.out, R2.out, R3.out, R4.out, R5.out, R6.out, R7.out]; rfl
                    rw [← H.out, e_]; rfl
                  | true =>
                    obtain ⟨b8, hb8⟩ : ∃ b, b = rng x8 1 1099511627776 := ⟨_, rfl⟩
                    have R8 := Aside0.mk hb8.symm
                    have W8 := Aside0.mk (spec_l02Inode.win x8 1 1099511627776 b8 R8.out)
                    clear hb8
                    cases b8 with
                    | false =>
                      go_enter Try.func50, Try.ntmps50
                      go_wp2_with (first | ((with_reducible refine gate_dst (N := 1) rfl ?_); refine hx_box rfl 1 rfl 42 (.tmp 0) rfl Sz0 (.agg (nums .i64 a0).toArray) (nums .i64 a0).toArray rfl rfl ?_; intro wn s1 L1 Sz1 b1 g_; have HH := Aside0.mk g_; have HBB := Aside0.mk (below_then HB0.out HB0.out.size b1); clear g_ HB0 b1; obtain ⟨k0, k1, k2, k3, k4, k5, k6, k7, k8⟩ := CELLS.out wn HH.out) | ((with_reducible refine gate_dst (N := 4) rfl ?_); refine hx_load rfl 42 (.tmp 1) rfl s0 24 rfl Try.underlying42 rfl (by kernel_rfl) HH.out (nums_size _ _ _ N_.out) ?_) | ((with_reducible refine gate_dst (N := 6) rfl ?_); refine wpList_eqw rfl (.tmp 4) (.tmp 5) _ rfl eqw42 (by decide) (by kernel_rfl) a0 zz rfl (by rw [ZZ.out]; rfl) N_.out NZ.out ?_; rw [BE.out]) | (go_at_call 77; (first | (with_reducible refine (spec_l02Within.calls x8 1 1099511627776 false _ W8.out).mono ?_)); rintro e_ wn ⟨rfl, d_⟩; have b_ := kept_drawn d_; have X_ := Aside0.mk (blk_below HH.out b_); have Y_ := Aside0.mk (below_then HBB.out HBB.out.size b_); clear b_ d_ HH HBB k0 k1 k2 k3 k4 k5 k6 k7 k8; have HH := X_; have HBB := Y_; clear X_ Y_; obtain ⟨k0, k1, k2, k3, k4, k5, k6, k7, k8⟩ := CELLS.out wn HH.out; obtain ⟨q0, q1, q2, q3, q4, q5, q6, q7, q8, q9, q10, q11, q12, q13, q14⟩ := CELLR.out wn HH.out) | (go_at_call 77; (first | (with_reducible refine (spec_l02Within.calls x5 1 1000 true _ WP.out).mono ?_) | (with_reducible refine (spec_l02Within.calls x0 1 3 true _ W0.out).mono ?_) | (with_reducible refine (spec_l02Within.calls x1 1 1000 true _ W1.out).mono ?_) | (with_reducible refine (spec_l02Within.calls x2 0 4095 true _ W2.out).mono ?_) | (with_reducible refine (spec_l02Within.calls x3 0 65535 true _ W3.out).mono ?_) | (with_reducible refine (spec_l02Within.calls x4 0 65535 true _ W4.out).mono ?_) | (with_reducible refine (spec_l02Within.calls x6 1 1099511627776 true _ W6.out).mono ?_) | (with_reducible refine (spec_l02Within.calls x7 1 1099511627776 true _ W7.out).mono ?_)); rintro e_ wn ⟨rfl, d_⟩; have b_ := kept_drawn d_; have X_ := Aside0.mk (blk_below HH.out b_); have Y_ := Aside0.mk (below_then HBB.out HBB.out.size b_); clear b_ d_ HH HBB k0 k1 k2 k3 k4 k5 k6 k7 k8; have HH := X_; have HBB := Y_; clear X_ Y_; obtain ⟨k0, k1, k2, k3, k4, k5, k6, k7, k8⟩ := CELLS.out wn HH.out))
                      go_ret
                      refine ⟨?_, HBB.out⟩
                      have e_ : inodeGood a0 = false := by rw [HIN.out, decide_eq_false HZ.out]; unfold inodeOk; rw [R0.out, R1.out, R2.out, R3.out, R4.out, R5.out, R6.out, R7.out, R8.out]; rfl
                      rw [← H.out, e_]; rfl
                    | true =>
                      obtain ⟨b9, hb9⟩ : ∃ b, b = rootGood xr := ⟨_, rfl⟩
                      have R9 := Aside0.mk hb9.symm
                      have WR := Aside0.mk (show spec_l02Root.f xr = some b9 by rw [← R9.out]; rfl)
                      clear hb9
                      cases b9 with
                      | false =>
                        have RC : Aside0 (∀ W : World, Calls Try.prog 41 #[.agg #[.int .i64 y0, .int .i64 y1, .int .i64 y2, .int .i64 y3, .int .i64 y4, .int .i64 y5, .int .i64 y6, .int .i64 y7, .int .i64 y8, .int .i64 y9, .int .i64 y10, .int .i64 y11, .int .i64 y12, .int .i64 y13, .int .i64 y14]] W fun e w' => e = .returned (.bool false) ∧ Below W.heap.size W w') := ⟨fun W => by have h_ := spec_l02Root.calls xr NR.out false W WR.out; rw [XY.out] at h_; exact h_⟩
                        go_enter Try.func50, Try.ntmps50
                        go_wp2_with (first | ((with_reducible refine gate_dst (N := 1) rfl ?_); refine hx_box rfl 1 rfl 42 (.tmp 0) rfl Sz0 (.agg (nums .i64 a0).toArray) (nums .i64 a0).toArray rfl rfl ?_; intro wn s1 L1 Sz1 b1 g_; have HH := Aside0.mk g_; have HBB := Aside0.mk (below_then HB0.out HB0.out.size b1); clear g_ HB0 b1; obtain ⟨k0, k1, k2, k3, k4, k5, k6, k7, k8⟩ := CELLS.out wn HH.out) | ((with_reducible refine gate_dst (N := 4) rfl ?_); refine hx_load rfl 42 (.tmp 1) rfl s0 24 rfl Try.underlying42 rfl (by kernel_rfl) HH.out (nums_size _ _ _ N_.out) ?_) | ((with_reducible refine gate_dst (N := 6) rfl ?_); refine wpList_eqw rfl (.tmp 4) (.tmp 5) _ rfl eqw42 (by decide) (by kernel_rfl) a0 zz rfl (by rw [ZZ.out]; rfl) N_.out NZ.out ?_; rw [BE.out]) | (go_at_call 77; (first | (with_reducible refine (spec_l02Within.calls x8 1 1099511627776 true _ W8.out).mono ?_)); rintro e_ wn ⟨rfl, d_⟩; have b_ := kept_drawn d_; have X_ := Aside0.mk (blk_below HH.out b_); have Y_ := Aside0.mk (below_then HBB.out HBB.out.size b_); clear b_ d_ HH HBB k0 k1 k2 k3 k4 k5 k6 k7 k8; have HH := X_; have HBB := Y_; clear X_ Y_; obtain ⟨k0, k1, k2, k3, k4, k5, k6, k7, k8⟩ := CELLS.out wn HH.out; obtain ⟨q0, q1, q2, q3, q4, q5, q6, q7, q8, q9, q10, q11, q12, q13, q14⟩ := CELLR.out wn HH.out) | (go_at_call 77; (first | (with_reducible refine (spec_l02Within.calls x5 1 1000 true _ WP.out).mono ?_) | (with_reducible refine (spec_l02Within.calls x0 1 3 true _ W0.out).mono ?_) | (with_reducible refine (spec_l02Within.calls x1 1 1000 true _ W1.out).mono ?_) | (with_reducible refine (spec_l02Within.calls x2 0 4095 true _ W2.out).mono ?_) | (with_reducible refine (spec_l02Within.calls x3 0 65535 true _ W3.out).mono ?_) | (with_reducible refine (spec_l02Within.calls x4 0 65535 true _ W4.out).mono ?_) | (with_reducible refine (spec_l02Within.calls x6 1 1099511627776 true _ W6.out).mono ?_) | (with_reducible refine (spec_l02Within.calls x7 1 1099511627776 true _ W7.out).mono ?_)); rintro e_ wn ⟨rfl, d_⟩; have b_ := kept_drawn d_; have X_ := Aside0.mk (blk_below HH.out b_); have Y_ := Aside0.mk (below_then HBB.out HBB.out.size b_); clear b_ d_ HH HBB k0 k1 k2 k3 k4 k5 k6 k7 k8; have HH := X_; have HBB := Y_; clear X_ Y_; obtain ⟨k0, k1, k2, k3, k4, k5, k6, k7, k8⟩ := CELLS.out wn HH.out) | (go_at_call 41; (first | (with_reducible refine (RC.out _).mono ?_)); rintro e_ wn ⟨rfl, d_⟩; have b_ := d_; have X_ := Aside0.mk (blk_below HH.out b_); have Y_ := Aside0.mk (below_then HBB.out HBB.out.size b_); clear b_ d_ HH HBB k0 k1 k2 k3 k4 k5 k6 k7 k8; have HH := X_; have HBB := Y_; clear X_ Y_; obtain ⟨k0, k1, k2, k3, k4, k5, k6, k7, k8⟩ := CELLS.out wn HH.out))
                        go_ret
                        refine ⟨?_, HBB.out⟩
                        have e_ : inodeGood a0 = false := by rw [HIN.out, decide_eq_false HZ.out]; unfold inodeOk; rw [R0.out, R1.out, R2.out, R3.out, R4.out, R5.out, R6.out, R7.out, R8.out, R9.out]; rfl
                        rw [← H.out, e_]; rfl
                      | true =>
                        have RC : Aside0 (∀ W : World, Calls Try.prog 41 #[.agg #[.int .i64 y0, .int .i64 y1, .int .i64 y2, .int .i64 y3, .int .i64 y4, .int .i64 y5, .int .i64 y6, .int .i64 y7, .int .i64 y8, .int .i64 y9, .int .i64 y10, .int .i64 y11, .int .i64 y12, .int .i64 y13, .int .i64 y14]] W fun e w' => e = .returned (.bool true) ∧ Below W.heap.size W w') := ⟨fun W => by have h_ := spec_l02Root.calls xr NR.out true W WR.out; rw [XY.out] at h_; exact h_⟩
                        go_enter Try.func50, Try.ntmps50
                        go_wp2_with (first | ((with_reducible refine gate_dst (N := 1) rfl ?_); refine hx_box rfl 1 rfl 42 (.tmp 0) rfl Sz0 (.agg (nums .i64 a0).toArray) (nums .i64 a0).toArray rfl rfl ?_; intro wn s1 L1 Sz1 b1 g_; have HH := Aside0.mk g_; have HBB := Aside0.mk (below_then HB0.out HB0.out.size b1); clear g_ HB0 b1; obtain ⟨k0, k1, k2, k3, k4, k5, k6, k7, k8⟩ := CELLS.out wn HH.out) | ((with_reducible refine gate_dst (N := 4) rfl ?_); refine hx_load rfl 42 (.tmp 1) rfl s0 24 rfl Try.underlying42 rfl (by kernel_rfl) HH.out (nums_size _ _ _ N_.out) ?_) | ((with_reducible refine gate_dst (N := 6) rfl ?_); refine wpList_eqw rfl (.tmp 4) (.tmp 5) _ rfl eqw42 (by decide) (by kernel_rfl) a0 zz rfl (by rw [ZZ.out]; rfl) N_.out NZ.out ?_; rw [BE.out]) | (go_at_call 77; (first | (with_reducible refine (spec_l02Within.calls x8 1 1099511627776 true _ W8.out).mono ?_)); rintro e_ wn ⟨rfl, d_⟩; have b_ := kept_drawn d_; have X_ := Aside0.mk (blk_below HH.out b_); have Y_ := Aside0.mk (below_then HBB.out HBB.out.size b_); clear b_ d_ HH HBB k0 k1 k2 k3 k4 k5 k6 k7 k8; have HH := X_; have HBB := Y_; clear X_ Y_; obtain ⟨k0, k1, k2, k3, k4, k5, k6, k7, k8⟩ := CELLS.out wn HH.out; obtain ⟨q0, q1, q2, q3, q4, q5, q6, q7, q8, q9, q10, q11, q12, q13, q14⟩ := CELLR.out wn HH.out) | (go_at_call 77; (first | (with_reducible refine (spec_l02Within.calls x5 1 1000 true _ WP.out).mono ?_) | (with_reducible refine (spec_l02Within.calls x0 1 3 true _ W0.out).mono ?_) | (with_reducible refine (spec_l02Within.calls x1 1 1000 true _ W1.out).mono ?_) | (with_reducible refine (spec_l02Within.calls x2 0 4095 true _ W2.out).mono ?_) | (with_reducible refine (spec_l02Within.calls x3 0 65535 true _ W3.out).mono ?_) | (with_reducible refine (spec_l02Within.calls x4 0 65535 true _ W4.out).mono ?_) | (with_reducible refine (spec_l02Within.calls x6 1 1099511627776 true _ W6.out).mono ?_) | (with_reducible refine (spec_l02Within.calls x7 1 1099511627776 true _ W7.out).mono ?_)); rintro e_ wn ⟨rfl, d_⟩; have b_ := kept_drawn d_; have X_ := Aside0.mk (blk_below HH.out b_); have Y_ := Aside0.mk (below_then HBB.out HBB.out.size b_); clear b_ d_ HH HBB k0 k1 k2 k3 k4 k5 k6 k7 k8; have HH := X_; have HBB := Y_; clear X_ Y_; obtain ⟨k0, k1, k2, k3, k4, k5, k6, k7, k8⟩ := CELLS.out wn HH.out) | (go_at_call 41; (first | (with_reducible refine (RC.out _).mono ?_)); rintro e_ wn ⟨rfl, d_⟩; have b_ := d_; have X_ := Aside0.mk (blk_below HH.out b_); have Y_ := Aside0.mk (below_then HBB.out HBB.out.size b_); clear b_ d_ HH HBB k0 k1 k2 k3 k4 k5 k6 k7 k8; have HH := X_; have HBB := Y_; clear X_ Y_; obtain ⟨k0, k1, k2, k3, k4, k5, k6, k7, k8⟩ := CELLS.out wn HH.out))
                        go_ret
                        refine ⟨?_, HBB.out⟩
                        have e_ : inodeGood a0 = true := by rw [HIN.out, decide_eq_false HZ.out]; unfold inodeOk; rw [R0.out, R1.out, R2.out, R3.out, R4.out, R5.out, R6.out, R7.out, R8.out, R9.out]; rfl
                        rw [← H.out, e_]; rfl
  · have hkb : (x0 == 2) = false := beq_eq_false_iff_ne.mpr hk
    obtain ⟨pb, hpb⟩ : ∃ b, b = (x5 == 0) := ⟨_, rfl⟩
    have hpo : parentOk x0 x5 = pb := by unfold parentOk; rw [if_neg hk, hpb]; rfl
    have hpb' := hpb.symm
    clear hk hpb
    obtain ⟨b0, hb0⟩ : ∃ b, b = rng x0 1 3 := ⟨_, rfl⟩
    have R0 := Aside0.mk hb0.symm
    have W0 := Aside0.mk (spec_l02Inode.win x0 1 3 b0 R0.out)
    clear hb0
    cases b0 with
    | false =>
      go_enter Try.func50, Try.ntmps50
      go_wp2_with (first | ((with_reducible refine gate_dst (N := 1) rfl ?_); refine hx_box rfl 1 rfl 42 (.tmp 0) rfl Sz0 (.agg (nums .i64 a0).toArray) (nums .i64 a0).toArray rfl rfl ?_; intro wn s1 L1 Sz1 b1 g_; have HH := Aside0.mk g_; have HBB := Aside0.mk (below_then HB0.out HB0.out.size b1); clear g_ HB0 b1; obtain ⟨k0, k1, k2, k3, k4, k5, k6, k7, k8⟩ := CELLS.out wn HH.out) | ((with_reducible refine gate_dst (N := 4) rfl ?_); refine hx_load rfl 42 (.tmp 1) rfl s0 24 rfl Try.underlying42 rfl (by kernel_rfl) HH.out (nums_size _ _ _ N_.out) ?_) | ((with_reducible refine gate_dst (N := 6) rfl ?_); refine wpList_eqw rfl (.tmp 4) (.tmp 5) _ rfl eqw42 (by decide) (by kernel_rfl) a0 zz rfl (by rw [ZZ.out]; rfl) N_.out NZ.out ?_; rw [BE.out]) | (go_at_call 77; (first | (with_reducible refine (spec_l02Within.calls x0 1 3 false _ W0.out).mono ?_)); rintro e_ wn ⟨rfl, d_⟩; have b_ := kept_drawn d_; have X_ := Aside0.mk (blk_below HH.out b_); have Y_ := Aside0.mk (below_then HBB.out HBB.out.size b_); clear b_ d_ HH HBB k0 k1 k2 k3 k4 k5 k6 k7 k8; have HH := X_; have HBB := Y_; clear X_ Y_; obtain ⟨k0, k1, k2, k3, k4, k5, k6, k7, k8⟩ := CELLS.out wn HH.out))
      go_ret
      refine ⟨?_, HBB.out⟩
      have e_ : inodeGood a0 = false := by rw [HIN.out, decide_eq_false HZ.out]; unfold inodeOk; rw [R0.out]; rfl
      rw [← H.out, e_]; rfl
    | true =>
      obtain ⟨b1, hb1⟩ : ∃ b, b = rng x1 1 1000 := ⟨_, rfl⟩
      have R1 := Aside0.mk hb1.symm
      have W1 := Aside0.mk (spec_l02Inode.win x1 1 1000 b1 R1.out)
      clear hb1
      cases b1 with
      | false =>
        go_enter Try.func50, Try.ntmps50
        go_wp2_with (first | ((with_reducible refine gate_dst (N := 1) rfl ?_); refine hx_box rfl 1 rfl 42 (.tmp 0) rfl Sz0 (.agg (nums .i64 a0).toArray) (nums .i64 a0).toArray rfl rfl ?_; intro wn s1 L1 Sz1 b1 g_; have HH := Aside0.mk g_; have HBB := Aside0.mk (below_then HB0.out HB0.out.size b1); clear g_ HB0 b1; obtain ⟨k0, k1, k2, k3, k4, k5, k6, k7, k8⟩ := CELLS.out wn HH.out) | ((with_reducible refine gate_dst (N := 4) rfl ?_); refine hx_load rfl 42 (.tmp 1) rfl s0 24 rfl Try.underlying42 rfl (by kernel_rfl) HH.out (nums_size _ _ _ N_.out) ?_) | ((with_reducible refine gate_dst (N := 6) rfl ?_); refine wpList_eqw rfl (.tmp 4) (.tmp 5) _ rfl eqw42 (by decide) (by kernel_rfl) a0 zz rfl (by rw [ZZ.out]; rfl) N_.out NZ.out ?_; rw [BE.out]) | (go_at_call 77; (first | (with_reducible refine (spec_l02Within.calls x0 1 3 true _ W0.out).mono ?_) | (with_reducible refine (spec_l02Within.calls x1 1 1000 false _ W1.out).mono ?_)); rintro e_ wn ⟨rfl, d_⟩; have b_ := kept_drawn d_; have X_ := Aside0.mk (blk_below HH.out b_); have Y_ := Aside0.mk (below_then HBB.out HBB.out.size b_); clear b_ d_ HH HBB k0 k1 k2 k3 k4 k5 k6 k7 k8; have HH := X_; have HBB := Y_; clear X_ Y_; obtain ⟨k0, k1, k2, k3, k4, k5, k6, k7, k8⟩ := CELLS.out wn HH.out))
        go_ret
        refine ⟨?_, HBB.out⟩
        have e_ : inodeGood a0 = false := by rw [HIN.out, decide_eq_false HZ.out]; unfold inodeOk; rw [R0.out, R1.out]; rfl
        rw [← H.out, e_]; rfl
      | true =>
        obtain ⟨b2, hb2⟩ : ∃ b, b = rng x2 0 4095 := ⟨_, rfl⟩
        have R2 := Aside0.mk hb2.symm
        have W2 := Aside0.mk (spec_l02Inode.win x2 0 4095 b2 R2.out)
        clear hb2
        cases b2 with
        | false =>
          go_enter Try.func50, Try.ntmps50
          go_wp2_with (first | ((with_reducible refine gate_dst (N := 1) rfl ?_); refine hx_box rfl 1 rfl 42 (.tmp 0) rfl Sz0 (.agg (nums .i64 a0).toArray) (nums .i64 a0).toArray rfl rfl ?_; intro wn s1 L1 Sz1 b1 g_; have HH := Aside0.mk g_; have HBB := Aside0.mk (below_then HB0.out HB0.out.size b1); clear g_ HB0 b1; obtain ⟨k0, k1, k2, k3, k4, k5, k6, k7, k8⟩ := CELLS.out wn HH.out) | ((with_reducible refine gate_dst (N := 4) rfl ?_); refine hx_load rfl 42 (.tmp 1) rfl s0 24 rfl Try.underlying42 rfl (by kernel_rfl) HH.out (nums_size _ _ _ N_.out) ?_) | ((with_reducible refine gate_dst (N := 6) rfl ?_); refine wpList_eqw rfl (.tmp 4) (.tmp 5) _ rfl eqw42 (by decide) (by kernel_rfl) a0 zz rfl (by rw [ZZ.out]; rfl) N_.out NZ.out ?_; rw [BE.out]) | (go_at_call 77; (first | (with_reducible refine (spec_l02Within.calls x0 1 3 true _ W0.out).mono ?_) | (with_reducible refine (spec_l02Within.calls x1 1 1000 true _ W1.out).mono ?_) | (with_reducible refine (spec_l02Within.calls x2 0 4095 false _ W2.out).mono ?_)); rintro e_ wn ⟨rfl, d_⟩; have b_ := kept_drawn d_; have X_ := Aside0.mk (blk_below HH.out b_); have Y_ := Aside0.mk (below_then HBB.out HBB.out.size b_); clear b_ d_ HH HBB k0 k1 k2 k3 k4 k5 k6 k7 k8; have HH := X_; have HBB := Y_; clear X_ Y_; obtain ⟨k0, k1, k2, k3, k4, k5, k6, k7, k8⟩ := CELLS.out wn HH.out))
          go_ret
          refine ⟨?_, HBB.out⟩
          have e_ : inodeGood a0 = false := by rw [HIN.out, decide_eq_false HZ.out]; unfold inodeOk; rw [R0.out, R1.out, R2.out]; rfl
          rw [← H.out, e_]; rfl
        | true =>
          obtain ⟨b3, hb3⟩ : ∃ b, b = rng x3 0 65535 := ⟨_, rfl⟩
          have R3 := Aside0.mk hb3.symm
          have W3 := Aside0.mk (spec_l02Inode.win x3 0 65535 b3 R3.out)
          clear hb3
          cases b3 with
          | false =>
            go_enter Try.func50, Try.ntmps50
            go_wp2_with (first | ((with_reducible refine gate_dst (N := 1) rfl ?_); refine hx_box rfl 1 rfl 42 (.tmp 0) rfl Sz0 (.agg (nums .i64 a0).toArray) (nums .i64 a0).toArray rfl rfl ?_; intro wn s1 L1 Sz1 b1 g_; have HH := Aside0.mk g_; have HBB := Aside0.mk (below_then HB0.out HB0.out.size b1); clear g_ HB0 b1; obtain ⟨k0, k1, k2, k3, k4, k5, k6, k7, k8⟩ := CELLS.out wn HH.out) | ((with_reducible refine gate_dst (N := 4) rfl ?_); refine hx_load rfl 42 (.tmp 1) rfl s0 24 rfl Try.underlying42 rfl (by kernel_rfl) HH.out (nums_size _ _ _ N_.out) ?_) | ((with_reducible refine gate_dst (N := 6) rfl ?_); refine wpList_eqw rfl (.tmp 4) (.tmp 5) _ rfl eqw42 (by decide) (by kernel_rfl) a0 zz rfl (by rw [ZZ.out]; rfl) N_.out NZ.out ?_; rw [BE.out]) | (go_at_call 77; (first | (with_reducible refine (spec_l02Within.calls x0 1 3 true _ W0.out).mono ?_) | (with_reducible refine (spec_l02Within.calls x1 1 1000 true _ W1.out).mono ?_) | (with_reducible refine (spec_l02Within.calls x2 0 4095 true _ W2.out).mono ?_) | (with_reducible refine (spec_l02Within.calls x3 0 65535 false _ W3.out).mono ?_)); rintro e_ wn ⟨rfl, d_⟩; have b_ := kept_drawn d_; have X_ := Aside0.mk (blk_below HH.out b_); have Y_ := Aside0.mk (below_then HBB.out HBB.out.size b_); clear b_ d_ HH HBB k0 k1 k2 k3 k4 k5 k6 k7 k8; have HH := X_; have HBB := Y_; clear X_ Y_; obtain ⟨k0, k1, k2, k3, k4, k5, k6, k7, k8⟩ := CELLS.out wn HH.out))
            go_ret
            refine ⟨?_, HBB.out⟩
            have e_ : inodeGood a0 = false := by rw [HIN.out, decide_eq_false HZ.out]; unfold inodeOk; rw [R0.out, R1.out, R2.out, R3.out]; rfl
            rw [← H.out, e_]; rfl
          | true =>
            obtain ⟨b4, hb4⟩ : ∃ b, b = rng x4 0 65535 := ⟨_, rfl⟩
            have R4 := Aside0.mk hb4.symm
            have W4 := Aside0.mk (spec_l02Inode.win x4 0 65535 b4 R4.out)
            clear hb4
            cases b4 with
            | false =>
              go_enter Try.func50, Try.ntmps50
              go_wp2_with (first | ((with_reducible refine gate_dst (N := 1) rfl ?_); refine hx_box rfl 1 rfl 42 (.tmp 0) rfl Sz0 (.agg (nums .i64 a0).toArray) (nums .i64 a0).toArray rfl rfl ?_; intro wn s1 L1 Sz1 b1 g_; have HH := Aside0.mk g_; have HBB := Aside0.mk (below_then HB0.out HB0.out.size b1); clear g_ HB0 b1; obtain ⟨k0, k1, k2, k3, k4, k5, k6, k7, k8⟩ := CELLS.out wn HH.out) | ((with_reducible refine gate_dst (N := 4) rfl ?_); refine hx_load rfl 42 (.tmp 1) rfl s0 24 rfl Try.underlying42 rfl (by kernel_rfl) HH.out (nums_size _ _ _ N_.out) ?_) | ((with_reducible refine gate_dst (N := 6) rfl ?_); refine wpList_eqw rfl (.tmp 4) (.tmp 5) _ rfl eqw42 (by decide) (by kernel_rfl) a0 zz rfl (by rw [ZZ.out]; rfl) N_.out NZ.out ?_; rw [BE.out]) | (go_at_call 77; (first | (with_reducible refine (spec_l02Within.calls x0 1 3 true _ W0.out).mono ?_) | (with_reducible refine (spec_l02Within.calls x1 1 1000 true _ W1.out).mono ?_) | (with_reducible refine (spec_l02Within.calls x2 0 4095 true _ W2.out).mono ?_) | (with_reducible refine (spec_l02Within.calls x3 0 65535 true _ W3.out).mono ?_) | (with_reducible refine (spec_l02Within.calls x4 0 65535 false _ W4.out).mono ?_)); rintro e_ wn ⟨rfl, d_⟩; have b_ := kept_drawn d_; have X_ := Aside0.mk (blk_below HH.out b_); have Y_ := Aside0.mk (below_then HBB.out HBB.out.size b_); clear b_ d_ HH HBB k0 k1 k2 k3 k4 k5 k6 k7 k8; have HH := X_; have HBB := Y_; clear X_ Y_; obtain ⟨k0, k1, k2, k3, k4, k5, k6, k7, k8⟩ := CELLS.out wn HH.out))
              go_ret
              refine ⟨?_, HBB.out⟩
              have e_ : inodeGood a0 = false := by rw [HIN.out, decide_eq_false HZ.out]; unfold inodeOk; rw [R0.out, R1.out, R2.out, R3.out, R4.out]; rfl
              rw [← H.out, e_]; rfl
            | true =>
              have R5 := Aside0.mk hpo
              clear hpo
              cases pb with
              | false =>
                go_enter Try.func50, Try.ntmps50
                go_wp2_with (first | ((with_reducible refine gate_dst (N := 1) rfl ?_); refine hx_box rfl 1 rfl 42 (.tmp 0) rfl Sz0 (.agg (nums .i64 a0).toArray) (nums .i64 a0).toArray rfl rfl ?_; intro wn s1 L1 Sz1 b1 g_; have HH := Aside0.mk g_; have HBB := Aside0.mk (below_then HB0.out HB0.out.size b1); clear g_ HB0 b1; obtain ⟨k0, k1, k2, k3, k4, k5, k6, k7, k8⟩ := CELLS.out wn HH.out) | ((with_reducible refine gate_dst (N := 4) rfl ?_); refine hx_load rfl 42 (.tmp 1) rfl s0 24 rfl Try.underlying42 rfl (by kernel_rfl) HH.out (nums_size _ _ _ N_.out) ?_) | ((with_reducible refine gate_dst (N := 6) rfl ?_); refine wpList_eqw rfl (.tmp 4) (.tmp 5) _ rfl eqw42 (by decide) (by kernel_rfl) a0 zz rfl (by rw [ZZ.out]; rfl) N_.out NZ.out ?_; rw [BE.out]) | (go_at_call 77; (first | (with_reducible refine (spec_l02Within.calls x0 1 3 true _ W0.out).mono ?_) | (with_reducible refine (spec_l02Within.calls x1 1 1000 true _ W1.out).mono ?_) | (with_reducible refine (spec_l02Within.calls x2 0 4095 true _ W2.out).mono ?_) | (with_reducible refine (spec_l02Within.calls x3 0 65535 true _ W3.out).mono ?_) | (with_reducible refine (spec_l02Within.calls x4 0 65535 true _ W4.out).mono ?_)); rintro e_ wn ⟨rfl, d_⟩; have b_ := kept_drawn d_; have X_ := Aside0.mk (blk_below HH.out b_); have Y_ := Aside0.mk (below_then HBB.out HBB.out.size b_); clear b_ d_ HH HBB k0 k1 k2 k3 k4 k5 k6 k7 k8; have HH := X_; have HBB := Y_; clear X_ Y_; obtain ⟨k0, k1, k2, k3, k4, k5, k6, k7, k8⟩ := CELLS.out wn HH.out))
                go_ret
                refine ⟨?_, HBB.out⟩
                have e_ : inodeGood a0 = false := by rw [HIN.out, decide_eq_false HZ.out]; unfold inodeOk; rw [R0.out, R1.out, R2.out, R3.out, R4.out, R5.out]; rfl
                rw [← H.out, e_]; rfl
              | true =>
                obtain ⟨b6, hb6⟩ : ∃ b, b = rng x6 1 1099511627776 := ⟨_, rfl⟩
                have R6 := Aside0.mk hb6.symm
                have W6 := Aside0.mk (spec_l02Inode.win x6 1 1099511627776 b6 R6.out)
                clear hb6
                cases b6 with
                | false =>
                  go_enter Try.func50, Try.ntmps50
                  go_wp2_with (first | ((with_reducible refine gate_dst (N := 1) rfl ?_); refine hx_box rfl 1 rfl 42 (.tmp 0) rfl Sz0 (.agg (nums .i64 a0).toArray) (nums .i64 a0).toArray rfl rfl ?_; intro wn s1 L1 Sz1 b1 g_; have HH := Aside0.mk g_; have HBB := Aside0.mk (below_then HB0.out HB0.out.size b1); clear g_ HB0 b1; obtain ⟨k0, k1, k2, k3, k4, k5, k6, k7, k8⟩ := CELLS.out wn HH.out) | ((with_reducible refine gate_dst (N := 4) rfl ?_); refine hx_load rfl 42 (.tmp 1) rfl s0 24 rfl Try.underlying42 rfl (by kernel_rfl) HH.out (nums_size _ _ _ N_.out) ?_) | ((with_reducible refine gate_dst (N := 6) rfl ?_); refine wpList_eqw rfl (.tmp 4) (.tmp 5) _ rfl eqw42 (by decide) (by kernel_rfl) a0 zz rfl (by rw [ZZ.out]; rfl) N_.out NZ.out ?_; rw [BE.out]) | (go_at_call 77; (first | (with_reducible refine (spec_l02Within.calls x0 1 3 true _ W0.out).mono ?_) | (with_reducible refine (spec_l02Within.calls x1 1 1000 true _ W1.out).mono ?_) | (with_reducible refine (spec_l02Within.calls x2 0 4095 true _ W2.out).mono ?_) | (with_reducible refine (spec_l02Within.calls x3 0 65535 true _ W3.out).mono ?_) | (with_reducible refine (spec_l02Within.calls x4 0 65535 true _ W4.out).mono ?_) | (with_reducible refine (spec_l02Within.calls x6 1 1099511627776 false _ W6.out).mono ?_)); rintro e_ wn ⟨rfl, d_⟩; have b_ := kept_drawn d_; have X_ := Aside0.mk (blk_below HH.out b_); have Y_ := Aside0.mk (below_then HBB.out HBB.out.size b_); clear b_ d_ HH HBB k0 k1 k2 k3 k4 k5 k6 k7 k8; have HH := X_; have HBB := Y_; clear X_ Y_; obtain ⟨k0, k1, k2, k3, k4, k5, k6, k7, k8⟩ := CELLS.out wn HH.out))
                  go_ret
                  refine ⟨?_, HBB.out⟩
                  have e_ : inodeGood a0 = false := by rw [HIN.out, decide_eq_false HZ.out]; unfold inodeOk; rw [R0.out, R1.out, R2.out, R3.out, R4.out, R5.out, R6.out]; rfl
                  rw [← H.out, e_]; rfl
                | true =>
                  obtain ⟨b7, hb7⟩ : ∃ b, b = rng x7 1 1099511627776 := ⟨_, rfl⟩
                  have R7 := Aside0.mk hb7.symm
                  have W7 := Aside0.mk (spec_l02Inode.win x7 1 1099511627776 b7 R7.out)
                  clear hb7
                  cases b7 with
                  | false =>
                    go_enter Try.func50, Try.ntmps50
                    go_wp2_with (first | ((with_reducible refine gate_dst (N := 1) rfl ?_); refine hx_box rfl 1 rfl 42 (.tmp 0) rfl Sz0 (.agg (nums .i64 a0).toArray) (nums .i64 a0).toArray rfl rfl ?_; intro wn s1 L1 Sz1 b1 g_; have HH := Aside0.mk g_; have HBB := Aside0.mk (below_then HB0.out HB0.out.size b1); clear g_ HB0 b1; obtain ⟨k0, k1, k2, k3, k4, k5, k6, k7, k8⟩ := CELLS.out wn HH.out) | ((with_reducible refine gate_dst (N := 4) rfl ?_); refine hx_load rfl 42 (.tmp 1) rfl s0 24 rfl Try.underlying42 rfl (by kernel_rfl) HH.out (nums_size _ _ _ N_.out) ?_) | ((with_reducible refine gate_dst (N := 6) rfl ?_); refine wpList_eqw rfl (.tmp 4) (.tmp 5) _ rfl eqw42 (by decide) (by kernel_rfl) a0 zz rfl (by rw [ZZ.out]; rfl) N_.out NZ.out ?_; rw [BE.out]) | (go_at_call 77; (first | (with_reducible refine (spec_l02Within.calls x0 1 3 true _ W0.out).mono ?_) | (with_reducible refine (spec_l02Within.calls x1 1 1000 true _ W1.out).mono ?_) | (with_reducible refine (spec_l02Within.calls x2 0 4095 true _ W2.out).mono ?_) | (with_reducible refine (spec_l02Within.calls x3 0 65535 true _ W3.out).mono ?_) | (with_reducible refine (spec_l02Within.calls x4 0 65535 true _ W4.out).mono ?_) | (with_reducible refine (spec_l02Within.calls x6 1 1099511627776 true _ W6.out).mono ?_) | (with_reducible refine (spec_l02Within.calls x7 1 1099511627776 false _ W7.out).mono ?_)); rintro e_ wn ⟨rfl, d_⟩; have b_ := kept_drawn d_; have X_ := Aside0.mk (blk_below HH.out b_); have Y_ := Aside0.mk (below_then HBB.out HBB.out.size b_); clear b_ d_ HH HBB k0 k1 k2 k3 k4 k5 k6 k7 k8; have HH := X_; have HBB := Y_; clear X_ Y_; obtain ⟨k0, k1, k2, k3, k4, k5, k6, k7, k8⟩ := CELLS.out wn HH.out))
                    go_ret
                    refine ⟨?_, HBB.out⟩
                    have e_ : inodeGood a0 = false := by rw [HIN.out, decide_eq_false HZ.out]; unfold inodeOk; rw [R0.out, R1.out, R2.out, R3.out, R4.out, R5.out, R6.out, R7.out]; rfl
                    rw [← H.out, e_]; rfl
                  | true =>
                    obtain ⟨b8, hb8⟩ : ∃ b, b = rng x8 1 1099511627776 := ⟨_, rfl⟩
                    have R8 := Aside0.mk hb8.symm
                    have W8 := Aside0.mk (spec_l02Inode.win x8 1 1099511627776 b8 R8.out)
                    clear hb8
                    cases b8 with
                    | false =>
                      go_enter Try.func50, Try.ntmps50
                      go_wp2_with (first | ((with_reducible refine gate_dst (N := 1) rfl ?_); refine hx_box rfl 1 rfl 42 (.tmp 0) rfl Sz0 (.agg (nums .i64 a0).toArray) (nums .i64 a0).toArray rfl rfl ?_; intro wn s1 L1 Sz1 b1 g_; have HH := Aside0.mk g_; have HBB := Aside0.mk (below_then HB0.out HB0.out.size b1); clear g_ HB0 b1; obtain ⟨k0, k1, k2, k3, k4, k5, k6, k7, k8⟩ := CELLS.out wn HH.out) | ((with_reducible refine gate_dst (N := 4) rfl ?_); refine hx_load rfl 42 (.tmp 1) rfl s0 24 rfl Try.underlying42 rfl (by kernel_rfl) HH.out (nums_size _ _ _ N_.out) ?_) | ((with_reducible refine gate_dst (N := 6) rfl ?_); refine wpList_eqw rfl (.tmp 4) (.tmp 5) _ rfl eqw42 (by decide) (by kernel_rfl) a0 zz rfl (by rw [ZZ.out]; rfl) N_.out NZ.out ?_; rw [BE.out]) | (go_at_call 77; (first | (with_reducible refine (spec_l02Within.calls x8 1 1099511627776 false _ W8.out).mono ?_)); rintro e_ wn ⟨rfl, d_⟩; have b_ := kept_drawn d_; have X_ := Aside0.mk (blk_below HH.out b_); have Y_ := Aside0.mk (below_then HBB.out HBB.out.size b_); clear b_ d_ HH HBB k0 k1 k2 k3 k4 k5 k6 k7 k8; have HH := X_; have HBB := Y_; clear X_ Y_; obtain ⟨k0, k1, k2, k3, k4, k5, k6, k7, k8⟩ := CELLS.out wn HH.out; obtain ⟨q0, q1, q2, q3, q4, q5, q6, q7, q8, q9, q10, q11, q12, q13, q14⟩ := CELLR.out wn HH.out) | (go_at_call 77; (first | (with_reducible refine (spec_l02Within.calls x0 1 3 true _ W0.out).mono ?_) | (with_reducible refine (spec_l02Within.calls x1 1 1000 true _ W1.out).mono ?_) | (with_reducible refine (spec_l02Within.calls x2 0 4095 true _ W2.out).mono ?_) | (with_reducible refine (spec_l02Within.calls x3 0 65535 true _ W3.out).mono ?_) | (with_reducible refine (spec_l02Within.calls x4 0 65535 true _ W4.out).mono ?_) | (with_reducible refine (spec_l02Within.calls x6 1 1099511627776 true _ W6.out).mono ?_) | (with_reducible refine (spec_l02Within.calls x7 1 1099511627776 true _ W7.out).mono ?_)); rintro e_ wn ⟨rfl, d_⟩; have b_ := kept_drawn d_; have X_ := Aside0.mk (blk_below HH.out b_); have Y_ := Aside0.mk (below_then HBB.out HBB.out.size b_); clear b_ d_ HH HBB k0 k1 k2 k3 k4 k5 k6 k7 k8; have HH := X_; have HBB := Y_; clear X_ Y_; obtain ⟨k0, k1, k2, k3, k4, k5, k6, k7, k8⟩ := CELLS.out wn HH.out))
                      go_ret
                      refine ⟨?_, HBB.out⟩
                      have e_ : inodeGood a0 = false := by rw [HIN.out, decide_eq_false HZ.out]; unfold inodeOk; rw [R0.out, R1.out, R2.out, R3.out, R4.out, R5.out, R6.out, R7.out, R8.out]; rfl
                      rw [← H.out, e_]; rfl
                    | true =>
                      obtain ⟨b9, hb9⟩ : ∃ b, b = rootGood xr := ⟨_, rfl⟩
                      have R9 := Aside0.mk hb9.symm
                      have WR := Aside0.mk (show spec_l02Root.f xr = some b9 by rw [← R9.out]; rfl)
                      clear hb9
                      cases b9 with
                      | false =>
                        have RC : Aside0 (∀ W : World, Calls Try.prog 41 #[.agg #[.int .i64 y0, .int .i64 y1, .int .i64 y2, .int .i64 y3, .int .i64 y4, .int .i64 y5, .int .i64 y6, .int .i64 y7, .int .i64 y8, .int .i64 y9, .int .i64 y10, .int .i64 y11, .int .i64 y12, .int .i64 y13, .int .i64 y14]] W fun e w' => e = .returned (.bool false) ∧ Below W.heap.size W w') := ⟨fun W => by have h_ := spec_l02Root.calls xr NR.out false W WR.out; rw [XY.out] at h_; exact h_⟩
                        go_enter Try.func50, Try.ntmps50
                        go_wp2_with (first | ((with_reducible refine gate_dst (N := 1) rfl ?_); refine hx_box rfl 1 rfl 42 (.tmp 0) rfl Sz0 (.agg (nums .i64 a0).toArray) (nums .i64 a0).toArray rfl rfl ?_; intro wn s1 L1 Sz1 b1 g_; have HH := Aside0.mk g_; have HBB := Aside0.mk (below_then HB0.out HB0.out.size b1); clear g_ HB0 b1; obtain ⟨k0, k1, k2, k3, k4, k5, k6, k7, k8⟩ := CELLS.out wn HH.out) | ((with_reducible refine gate_dst (N := 4) rfl ?_); refine hx_load rfl 42 (.tmp 1) rfl s0 24 rfl Try.underlying42 rfl (by kernel_rfl) HH.out (nums_size _ _ _ N_.out) ?_) | ((with_reducible refine gate_dst (N := 6) rfl ?_); refine wpList_eqw rfl (.tmp 4) (.tmp 5) _ rfl eqw42 (by decide) (by kernel_rfl) a0 zz rfl (by rw [ZZ.out]; rfl) N_.out NZ.out ?_; rw [BE.out]) | (go_at_call 77; (first | (with_reducible refine (spec_l02Within.calls x8 1 1099511627776 true _ W8.out).mono ?_)); rintro e_ wn ⟨rfl, d_⟩; have b_ := kept_drawn d_; have X_ := Aside0.mk (blk_below HH.out b_); have Y_ := Aside0.mk (below_then HBB.out HBB.out.size b_); clear b_ d_ HH HBB k0 k1 k2 k3 k4 k5 k6 k7 k8; have HH := X_; have HBB := Y_; clear X_ Y_; obtain ⟨k0, k1, k2, k3, k4, k5, k6, k7, k8⟩ := CELLS.out wn HH.out; obtain ⟨q0, q1, q2, q3, q4, q5, q6, q7, q8, q9, q10, q11, q12, q13, q14⟩ := CELLR.out wn HH.out) | (go_at_call 77; (first | (with_reducible refine (spec_l02Within.calls x0 1 3 true _ W0.out).mono ?_) | (with_reducible refine (spec_l02Within.calls x1 1 1000 true _ W1.out).mono ?_) | (with_reducible refine (spec_l02Within.calls x2 0 4095 true _ W2.out).mono ?_) | (with_reducible refine (spec_l02Within.calls x3 0 65535 true _ W3.out).mono ?_) | (with_reducible refine (spec_l02Within.calls x4 0 65535 true _ W4.out).mono ?_) | (with_reducible refine (spec_l02Within.calls x6 1 1099511627776 true _ W6.out).mono ?_) | (with_reducible refine (spec_l02Within.calls x7 1 1099511627776 true _ W7.out).mono ?_)); rintro e_ wn ⟨rfl, d_⟩; have b_ := kept_drawn d_; have X_ := Aside0.mk (blk_below HH.out b_); have Y_ := Aside0.mk (below_then HBB.out HBB.out.size b_); clear b_ d_ HH HBB k0 k1 k2 k3 k4 k5 k6 k7 k8; have HH := X_; have HBB := Y_; clear X_ Y_; obtain ⟨k0, k1, k2, k3, k4, k5, k6, k7, k8⟩ := CELLS.out wn HH.out) | (go_at_call 41; (first | (with_reducible refine (RC.out _).mono ?_)); rintro e_ wn ⟨rfl, d_⟩; have b_ := d_; have X_ := Aside0.mk (blk_below HH.out b_); have Y_ := Aside0.mk (below_then HBB.out HBB.out.size b_); clear b_ d_ HH HBB k0 k1 k2 k3 k4 k5 k6 k7 k8; have HH := X_; have HBB := Y_; clear X_ Y_; obtain ⟨k0, k1, k2, k3, k4, k5, k6, k7, k8⟩ := CELLS.out wn HH.out))
                        go_ret
                        refine ⟨?_, HBB.out⟩
                        have e_ : inodeGood a0 = false := by rw [HIN.out, decide_eq_false HZ.out]; unfold inodeOk; rw [R0.out, R1.out, R2.out, R3.out, R4.out, R5.out, R6.out, R7.out, R8.out, R9.out]; rfl
                        rw [← H.out, e_]; rfl
                      | true =>
                        have RC : Aside0 (∀ W : World, Calls Try.prog 41 #[.agg #[.int .i64 y0, .int .i64 y1, .int .i64 y2, .int .i64 y3, .int .i64 y4, .int .i64 y5, .int .i64 y6, .int .i64 y7, .int .i64 y8, .int .i64 y9, .int .i64 y10, .int .i64 y11, .int .i64 y12, .int .i64 y13, .int .i64 y14]] W fun e w' => e = .returned (.bool true) ∧ Below W.heap.size W w') := ⟨fun W => by have h_ := spec_l02Root.calls xr NR.out true W WR.out; rw [XY.out] at h_; exact h_⟩
                        go_enter Try.func50, Try.ntmps50
                        go_wp2_with (first | ((with_reducible refine gate_dst (N := 1) rfl ?_); refine hx_box rfl 1 rfl 42 (.tmp 0) rfl Sz0 (.agg (nums .i64 a0).toArray) (nums .i64 a0).toArray rfl rfl ?_; intro wn s1 L1 Sz1 b1 g_; have HH := Aside0.mk g_; have HBB := Aside0.mk (below_then HB0.out HB0.out.size b1); clear g_ HB0 b1; obtain ⟨k0, k1, k2, k3, k4, k5, k6, k7, k8⟩ := CELLS.out wn HH.out) | ((with_reducible refine gate_dst (N := 4) rfl ?_); refine hx_load rfl 42 (.tmp 1) rfl s0 24 rfl Try.underlying42 rfl (by kernel_rfl) HH.out (nums_size _ _ _ N_.out) ?_) | ((with_reducible refine gate_dst (N := 6) rfl ?_); refine wpList_eqw rfl (.tmp 4) (.tmp 5) _ rfl eqw42 (by decide) (by kernel_rfl) a0 zz rfl (by rw [ZZ.out]; rfl) N_.out NZ.out ?_; rw [BE.out]) | (go_at_call 77; (first | (with_reducible refine (spec_l02Within.calls x8 1 1099511627776 true _ W8.out).mono ?_)); rintro e_ wn ⟨rfl, d_⟩; have b_ := kept_drawn d_; have X_ := Aside0.mk (blk_below HH.out b_); have Y_ := Aside0.mk (below_then HBB.out HBB.out.size b_); clear b_ d_ HH HBB k0 k1 k2 k3 k4 k5 k6 k7 k8; have HH := X_; have HBB := Y_; clear X_ Y_; obtain ⟨k0, k1, k2, k3, k4, k5, k6, k7, k8⟩ := CELLS.out wn HH.out; obtain ⟨q0, q1, q2, q3, q4, q5, q6, q7, q8, q9, q10, q11, q12, q13, q14⟩ := CELLR.out wn HH.out) | (go_at_call 77; (first | (with_reducible refine (spec_l02Within.calls x0 1 3 true _ W0.out).mono ?_) | (with_reducible refine (spec_l02Within.calls x1 1 1000 true _ W1.out).mono ?_) | (with_reducible refine (spec_l02Within.calls x2 0 4095 true _ W2.out).mono ?_) | (with_reducible refine (spec_l02Within.calls x3 0 65535 true _ W3.out).mono ?_) | (with_reducible refine (spec_l02Within.calls x4 0 65535 true _ W4.out).mono ?_) | (with_reducible refine (spec_l02Within.calls x6 1 1099511627776 true _ W6.out).mono ?_) | (with_reducible refine (spec_l02Within.calls x7 1 1099511627776 true _ W7.out).mono ?_)); rintro e_ wn ⟨rfl, d_⟩; have b_ := kept_drawn d_; have X_ := Aside0.mk (blk_below HH.out b_); have Y_ := Aside0.mk (below_then HBB.out HBB.out.size b_); clear b_ d_ HH HBB k0 k1 k2 k3 k4 k5 k6 k7 k8; have HH := X_; have HBB := Y_; clear X_ Y_; obtain ⟨k0, k1, k2, k3, k4, k5, k6, k7, k8⟩ := CELLS.out wn HH.out) | (go_at_call 41; (first | (with_reducible refine (RC.out _).mono ?_)); rintro e_ wn ⟨rfl, d_⟩; have b_ := d_; have X_ := Aside0.mk (blk_below HH.out b_); have Y_ := Aside0.mk (below_then HBB.out HBB.out.size b_); clear b_ d_ HH HBB k0 k1 k2 k3 k4 k5 k6 k7 k8; have HH := X_; have HBB := Y_; clear X_ Y_; obtain ⟨k0, k1, k2, k3, k4, k5, k6, k7, k8⟩ := CELLS.out wn HH.out))
                        go_ret
                        refine ⟨?_, HBB.out⟩
                        have e_ : inodeGood a0 = true := by rw [HIN.out, decide_eq_false HZ.out]; unfold inodeOk; rw [R0.out, R1.out, R2.out, R3.out, R4.out, R5.out, R6.out, R7.out, R8.out, R9.out]; rfl
                        rw [← H.out, e_]; rfl

open Go.Proofs.YtkghgjehjchajaaW Go.Proofs.YtkghgjehjchajaaW.PrintHand Go.Proofs.YtkghgjehjchajaaW.PrintHx
/-! ### spec_l05Last: function 57 -/
open Go.Proofs.YtkghgjehjchajaaW.PrintLe Go.Proofs.YtkghgjehjchajaaW.PrintIno Go.Proofs.YtkghgjehjchajaaW.PrintTabl
def spec_l05Last.f (l0 : List (List Int)) : Option Int := some (lastOf l0)
set_option maxHeartbeats 8000000 in
set_option maxRecDepth 100000 in
theorem spec_l05Last.calls (A0 : Option Addr) (c0 : Nat) (l0 : List (List Int)) (r : Int) (w : World) (hr0 : Kd.C (PrintHx.wide 24) w A0 l0.length l0) (hc0 : l0.length ≤ c0) (h : spec_l05Last.f l0 = some r) :
    Calls Try.prog 57 #[.slice A0 l0.length c0] w fun e w' => e = .returned (.int .i64 r) ∧ Below w.heap.size w w' := by
  have HLEN := Aside0.mk (show l0.length ≤ 9223372036854775807 from hr0.2.1)
  have HR0 := Aside0.mk hr0
  obtain rfl := Option.some.inj h
  clear hr0 hc0 h
  have Z42 : ∀ w, (zeroValue 42).run Try.prog w = .ok (.agg (nums .i64 (List.replicate 24 0)).toArray) w := fun _ => by kernel_rfl
  go_enter Try.func57, Try.ntmps57
  go_wp2
  (try simp only [Act.put, List.setIfInBounds_toArray, List.set_cons_succ, List.set_cons_zero])
  go_loopw [3, 4, 5, 8] (fun v3 v4 v5 v8 wr => ∃ (j : Nat) (u4 u5 : Value), u4 = v4 ∧ u5 = v5 ∧ v8 = .int .i64 (j : Int) ∧ v3 = .int .i64 (lastK l0 j) ∧ Aside0 (j ≤ l0.length) ∧ Aside0 (Below w.heap.size w wr)) (fun _ _ _ v8 _ => l0.length - (intOf v8).toNat)
  case atStart => exact ⟨0, _, _, rfl, rfl, rfl, rfl, ⟨Nat.zero_le _⟩, ⟨Below.refl _ _⟩⟩
  case round =>
    obtain ⟨j, v4, v5, rfl, rfl, rfl, rfl, hj, HB⟩ := hrel
    obtain ⟨sj, Szj⟩ : ∃ s, Aside0 (wr.heap.size = s) := ⟨_, ⟨rfl⟩⟩
    have hle_ : w.heap.size ≤ sj := by rw [← Szj.out]; exact HB.out.size
    by_cases c9 : j < l0.length
    · have c9b0 : decide ((j : Int) < (l0.length : Int)) = true := decide_eq_true (by omega)
      have c9b1 : decide (j < l0.length) = true := decide_eq_true c9
      obtain ⟨ad, ea, hl, hc⟩ := wide_at (Kd.C_below HR0.out HB.out) j c9
      subst ea
      obtain ⟨x, hx⟩ : ∃ x, x = l0.getD j [] := ⟨_, rfl⟩
      rw [← hx] at hl hc
      obtain ⟨x0, hx0⟩ : ∃ x0, x0 = x.getD 0 0 := ⟨_, rfl⟩
      have HX := Aside0.mk hx
      have HX0 := Aside0.mk hx0
      have HL := Aside0.mk hl
      have HC := Aside0.mk hc
      clear hx hx0 hl hc
      have q3 : ((j : Int) < (l0.length : Int)) = True := eq_true (by omega)
      have q4 : (0 ≤ (j : Int)) = True := eq_true (by omega)
      have q5 : (j < l0.length) = True := eq_true c9
      have C9 := Aside0.mk c9
      clear c9
      obtain ⟨la, hla⟩ : ∃ a, a = lastK l0 j := ⟨_, rfl⟩
      rw [← hla]
      have HLA := Aside0.mk hla
      clear hla
      by_cases c10 : x0 = 0
      · have c10b : (x0 != 0) = false := by rw [c10]; rfl
        have HK := Aside0.mk (show lastK l0 (j + 1) = la by rw [lastK, ← HX.out, ← HX0.out, if_pos c10, HLA.out])
        clear c10
        go_wp2_with (first | ((with_reducible refine gate_dst (N := 12) rfl ?_); refine hx_load_at rfl 42 (.tmp 11) rfl (ad.add (j * 24)) rfl x 24 Try.underlying42 rfl (by kernel_rfl) HL.out (fun i hi => by rw [Addr.add_add]; exact HC.out i hi) ?_) | ((with_reducible refine gate_dst (N := 5) rfl ?_); refine hx_alloc rfl 5 rfl 42 rfl Szj (.agg (nums .i64 (List.replicate 24 0)).toArray) (nums .i64 (List.replicate 24 0)).toArray Z42 rfl ?_; intro w1 s1 Ls1 Ss1 b_ g_; have HA := Aside0.mk g_; have HB1 := Aside0.mk (below_then HB.out HB.out.size b_); clear b_ g_ HB) | ((with_reducible refine gate_store (t := 42) (p := 5) (v := .tmp 12) rfl ?_); refine hx_store rfl rfl 42 (.tmp 5) (.tmp 12) rfl sj 24 rfl (nums .i64 x).toArray rfl (by kernel_rfl) (nums_size _ _ _ HL.out) (nums_one _ _) HA.out (by simp [nums]) ?_; intro w2 t_ gg_; have HX1 := Aside0.mk gg_; have HB2 := Aside0.mk (t_.below HB1.out (by omega)); clear t_ gg_ HA HB1 ; have c0_ : w2.cell? ⟨sj, 0, none⟩ = some (.int .i64 x0) := by (have h_ := row_cell HX1.out 0 (by rw [HL.out]; decide); rw [← HX0.out] at h_; exact h_)))
        go_roundw
        case rel => exact ⟨j + 1, _, _, rfl, rfl, by rw [show wrap64 ((j : Int) + 1) = ((j + 1 : Nat) : Int) by (have := HLEN.out; have := C9.out; unfold wrap64; omega)], by rw [HK.out], ⟨by have := C9.out; omega⟩, HB2⟩
        case measure =>
          rw [show wrap64 ((j : Int) + 1) = ((j + 1 : Nat) : Int) by (have := HLEN.out; have := C9.out; unfold wrap64; omega)]
          simp only [intOf, Int.toNat_natCast]
          have := C9.out
          omega
      · have c10b : (x0 != 0) = true := bne_iff_ne.2 c10
        have HK := Aside0.mk (show lastK l0 (j + 1) = (j : Int) by rw [lastK, ← HX.out, ← HX0.out, if_neg c10])
        clear c10
        go_wp2_with (first | ((with_reducible refine gate_dst (N := 12) rfl ?_); refine hx_load_at rfl 42 (.tmp 11) rfl (ad.add (j * 24)) rfl x 24 Try.underlying42 rfl (by kernel_rfl) HL.out (fun i hi => by rw [Addr.add_add]; exact HC.out i hi) ?_) | ((with_reducible refine gate_dst (N := 5) rfl ?_); refine hx_alloc rfl 5 rfl 42 rfl Szj (.agg (nums .i64 (List.replicate 24 0)).toArray) (nums .i64 (List.replicate 24 0)).toArray Z42 rfl ?_; intro w1 s1 Ls1 Ss1 b_ g_; have HA := Aside0.mk g_; have HB1 := Aside0.mk (below_then HB.out HB.out.size b_); clear b_ g_ HB) | ((with_reducible refine gate_store (t := 42) (p := 5) (v := .tmp 12) rfl ?_); refine hx_store rfl rfl 42 (.tmp 5) (.tmp 12) rfl sj 24 rfl (nums .i64 x).toArray rfl (by kernel_rfl) (nums_size _ _ _ HL.out) (nums_one _ _) HA.out (by simp [nums]) ?_; intro w2 t_ gg_; have HX1 := Aside0.mk gg_; have HB2 := Aside0.mk (t_.below HB1.out (by omega)); clear t_ gg_ HA HB1 ; have c0_ : w2.cell? ⟨sj, 0, none⟩ = some (.int .i64 x0) := by (have h_ := row_cell HX1.out 0 (by rw [HL.out]; decide); rw [← HX0.out] at h_; exact h_)))
        go_roundw
        case rel => exact ⟨j + 1, _, _, rfl, rfl, by rw [show wrap64 ((j : Int) + 1) = ((j + 1 : Nat) : Int) by (have := HLEN.out; have := C9.out; unfold wrap64; omega)], by rw [HK.out], ⟨by have := C9.out; omega⟩, HB2⟩
        case measure =>
          rw [show wrap64 ((j : Int) + 1) = ((j + 1 : Nat) : Int) by (have := HLEN.out; have := C9.out; unfold wrap64; omega)]
          simp only [intOf, Int.toNat_natCast]
          have := C9.out
          omega
    · obtain rfl : j = l0.length := by have := hj.out; omega
      have c9b0 : decide ((l0.length : Int) < (l0.length : Int)) = false := decide_eq_false (by omega)
      have c9b1 : decide (l0.length < l0.length) = false := decide_eq_false c9
      clear c9
      by_cases c11 : lastK l0 l0.length < 1
      · have c11b : decide (lastK l0 l0.length < 1) = true := decide_eq_true c11
        have hr_ : lastOf l0 = 1 := if_pos c11
        clear c11
        go_wp2
        go_ret
        exact ⟨by rw [hr_]; rfl, HB.out⟩
      · have c11b : decide (lastK l0 l0.length < 1) = false := decide_eq_false c11
        have hr_ : lastOf l0 = lastK l0 l0.length := if_neg c11
        clear c11
        go_wp2
        go_ret
        exact ⟨by rw [hr_]; rfl, HB.out⟩

/-! ### spec_l02Put: function 70 -/
def spec_l02Put.l0 : Nat → Int → Int → List Int → Int → Option (List Int)
  | 0, _, _, _, _ => none
  | k + 1, x0, x1, x5, x6 => if x6 < x1 then (if x5.length < 140737488355328 then (spec_l02Put.l0 k (wrap64 (Int.tdiv x0 256)) x1 (x5 ++ [(Int.tmod x0 256) % 256]) (wrap64 (x6 + 1))) else (none)) else (some x5)
def spec_l02Put.f (k : Nat) (a0 : Int) (a1 : Int) : Option (List Int) := spec_l02Put.l0 k a0 a1 (([] : List Int)) 0
theorem spec_l02Put.mono_l : ∀ k, (∀ y0 y1 y2 y3, LeO (spec_l02Put.l0 k y0 y1 y2 y3) (spec_l02Put.l0 (k + 1) y0 y1 y2 y3))
  | 0 => fun _ _ _ _ r h => by simp [spec_l02Put.l0] at h
  | k + 1 => by
    have ih0 := spec_l02Put.mono_l k
    · intro y0 y1 y2 y3
      unfold spec_l02Put.l0
      repeat' first
      | (with_reducible exact ih0 _ _ _ _)
      | (with_reducible exact LeO.refl _)
      | (with_reducible exact LeO.none _)
      | (with_reducible refine LeO.ite ?_ ?_)
      | (with_reducible refine LeO.bind ?_ (fun _ => ?_))
      | exact ih0 _ _ _ _
      | exact LeO.none _
      | refine LeO.ite ?_ ?_
      | refine LeO.bind ?_ (fun _ => ?_)
theorem spec_l02Put.mono : ∀ a0 a1 k, LeO (spec_l02Put.f k a0 a1) (spec_l02Put.f (k + 1) a0 a1) := by
  intro a0 a1 k
  have ih0 := spec_l02Put.mono_l k
  unfold spec_l02Put.f
  repeat' first
      | (with_reducible exact ih0 _ _ _ _)
      | (with_reducible exact LeO.refl _)
      | (with_reducible exact LeO.none _)
      | (with_reducible refine LeO.ite ?_ ?_)
      | (with_reducible refine LeO.bind ?_ (fun _ => ?_))
      | exact ih0 _ _ _ _
      | exact LeO.none _
      | refine LeO.ite ?_ ?_
      | refine LeO.bind ?_ (fun _ => ?_)
set_option maxHeartbeats 8000000 in
set_option maxRecDepth 100000 in
theorem spec_l02Put.calls (k : Nat) (a0 : Int) (a1 : Int) (r : List Int) (w : World) (h : spec_l02Put.f k a0 a1 = some r) :
    Calls Try.prog 70 #[.int .i64 a0, .int .i64 a1] w fun e w' => ∃ v0_ : Value, e = .returned (v0_) ∧ Kd.R (Kd.int .u8) 5 w' w.heap.size (fun _ => True) v0_ r ∧ Below w.heap.size w w' := by
  have HB := Aside0.mk (Below.refl w.heap.size w)
  have H : (spec_l02Put.l0 k a0 a1 (([] : List Int)) 0) = some r := h
  clear h
  obtain ⟨y101, hy101⟩ : ∃ y_ : List Int, y_ = (([] : List Int)) := ⟨_, rfl⟩
  replace H : (spec_l02Put.l0 k a0 a1 y101 0) = some r := by first | (rw [hy101]; with_reducible exact H) | (have H2_ := (Option.bind_some _ _).symm.trans H; rw [hy101]; with_reducible exact H2_) | (have H2_ := (Option.bind_some _ _).symm.trans H; with_reducible exact H2_) | with_reducible exact H | (rw [hy101]; exact H) | exact H
  have Ny101 := Aside0.mk hy101
  clear hy101
  have H' := Aside0.mk H
  clear H
  go_enter Try.func70, Try.ntmps70
  go_wp2_with (first | ((with_reducible refine gate_dst (N := 7) rfl ?_); refine Kd.R_lit (Kd.int .u8) _ 5 ?hg (N := 7) ?hd (xs := ([] : List Int)) (inner := []) (ok := fun _ => True) (okp := fun _ => True) ?hr ?hp (fun _ hk => hk) trivial (Below.refl _ _) (Nat.le_refl _) (by simp) ?_; (case hd => rfl); (case hg => rfl); (case hr => first | (go_simp; done) | (go_simp; rfl)); (case hp => exact (Reps.none _ _)); intro v102 w3 ho4 hb hg_ hnew_; clear hg_ hnew_; (first | rw [← Ny101.out] at ho4 | (simp only [Int.reduceToNat] at ho4; rw [← Ny101.out] at ho4)); have n0_ := Aside0.mk (Kd.R_lower ho4 (below_size (by repeat (first | (with_reducible first | exact HB.out | apply below_alloc | apply pw_below_drewN | apply below_drew1) | exact HB.out)))); have n1_ := Aside0.mk (below_step (by repeat (first | (with_reducible first | exact HB.out | apply below_alloc | apply pw_below_drewN | apply below_drew1) | exact HB.out)) hb); clear HB; have HO103 := n0_; have HB := n1_; clear n0_ n1_; clear hb ho4))
  go_loopg [0, 5, 6] k (fun kq v0 v5 v6 w' => ∃ (x0_1 : Int) (x5_1 : List Int) (x6_1 : Int), v0 = .int .i64 x0_1 ∧ v6 = .int .i64 x6_1 ∧ Aside0 (spec_l02Put.l0 kq x0_1 a1 x5_1 x6_1 = some r) ∧ Aside0 (kq ≤ k) ∧ Aside0 (Kd.R (Kd.int .u8) 5 w' w.heap.size (fun _ => True) v5 x5_1) ∧ Aside0 (Below w.heap.size w w'))
  case atStart => exact ⟨(a0), (y101), (0), (by first | rfl | (simp; done) | (simp [*]; done)), (by first | rfl | (simp; done) | (simp [*]; done)), H', ⟨Nat.le_refl _⟩, ⟨by (with_reducible repeat (first | apply Kd.R_alloc | apply Kd.R_drewN | apply Kd.R_drew)); exact HO103.out⟩, ⟨by repeat (first | (with_reducible first | exact HB.out | apply below_alloc | apply pw_below_drewN | apply below_drew1) | exact HB.out)⟩⟩
  case round =>
    clear H'
    try clear p2
    obtain ⟨x0_1, x5_1, x6_1, rfl, rfl, HA, HK1, HO_5, HB⟩ := hrel
    cases gk with
    | zero => exact absurd HA.out (by simp [spec_l02Put.l0])
    | succ k1 =>
      have H := HA.out
      clear HA
      simp only [spec_l02Put.l0] at H
      by_cases c5 : x6_1 < a1
      · rw [if_pos c5] at H
        have c5b0 : decide (x6_1 < a1) = true := decide_eq_true c5
        clear c5
        by_cases c6 : x5_1.length < 140737488355328
        · rw [if_pos c6] at H
          have LMc6 := Aside0.mk c6
          clear c6
          obtain ⟨y104, hy104⟩ : ∃ y_ : List Int, y_ = (x5_1 ++ [(Int.tmod x0_1 256) % 256]) := ⟨_, rfl⟩
          replace H : (spec_l02Put.l0 k1 (wrap64 (Int.tdiv x0_1 256)) a1 y104 (wrap64 (x6_1 + 1))) = some r := by first | (rw [hy104]; with_reducible exact H) | (have H2_ := (Option.bind_some _ _).symm.trans H; rw [hy104]; with_reducible exact H2_) | (have H2_ := (Option.bind_some _ _).symm.trans H; with_reducible exact H2_) | with_reducible exact H | (rw [hy104]; exact H) | exact H
          have Ny104 := Aside0.mk hy104
          clear hy104
          have H' := Aside0.mk H
          clear H
          go_wp2_with (first | ((with_reducible refine gate_builtin (b := .append) (xs := #[.tmp 13, .tmp 17]) rfl ?_); at_builtin; refine Kd.R_append (Kd.int .u8) (w0 := w) w.heap.size rfl (.tmp 13) (.tmp 17) 25 5 (.int .u8 0) 1 rfl Try.underlying25 info5 rfl (by decide) (by omega) u5 x5_1 ((Int.tmod x0_1 256) % 256) [.int .u8 ((Int.tmod x0_1 256) % 256)] (fun _ => True) (fun _ => False) rfl rfl ?aP (fun _ hk => hk.elim) ?aF ?aO ?aB ?aS ?aL ?_; (case aP => exact rfl); (case aB => exact (by repeat (first | (with_reducible first | exact HB.out | apply below_alloc | apply pw_below_drewN | apply below_drew1) | exact HB.out))); (case aF => exact (fun _ _ => trivial)); (case aO => exact (by (with_reducible repeat (first | apply Kd.R_alloc | apply Kd.R_drewN | apply Kd.R_drew)); exact HO_5.out)); (case aS => exact (below_size (by repeat (first | (with_reducible first | exact HB.out | apply below_alloc | apply pw_below_drewN | apply below_drew1) | exact HB.out)))); (case aL => have := LMc6.out; omega); intro v105 w7 ho hb hg hat; rw [← Ny104.out] at ho; have n0_ := Aside0.mk (hb); have n1_ := Aside0.mk (ho); clear HB; clear HO_5; have HB := n0_; have HO106 := n1_; clear n0_ n1_; clear ho hb hg hat))
          go_roundg k1
          case measure => have := HK1.out; omega
          case rel => exact ⟨(wrap64 (Int.tdiv x0_1 256)), (y104), (wrap64 (x6_1 + 1)), (by first | rfl | (simp; done) | (simp [*]; done)), (by first | rfl | (simp; done) | (simp [*]; done)), H', ⟨by have := HK1.out; omega⟩, ⟨by (with_reducible repeat (first | apply Kd.R_alloc | apply Kd.R_drewN | apply Kd.R_drew)); exact HO106.out⟩, ⟨by repeat (first | (with_reducible first | exact HB.out | apply below_alloc | apply pw_below_drewN | apply below_drew1) | exact HB.out)⟩⟩
        · rw [if_neg c6] at H
          exact absurd H (by simp)
      · rw [if_neg c5] at H
        have c5b0 : decide (x6_1 < a1) = false := decide_eq_false c5
        clear c5
        obtain rfl := Option.some.inj H
        go_wp2
        go_ret
        exact ⟨_, by first | rfl | (simp [errW_none, errW_some] <;> rfl) | (simp [*, errW_none, errW_some] <;> rfl), by (with_reducible repeat (first | apply Kd.R_alloc | apply Kd.R_drewN | apply Kd.R_drew)); exact HO_5.out, by repeat (first | (with_reducible first | exact HB.out | apply below_alloc | apply pw_below_drewN | apply below_drew1) | exact HB.out)⟩

open Go.Proofs.YtkghgjehjchajaaW Go.Proofs.YtkghgjehjchajaaW.PrintHand Go.Proofs.YtkghgjehjchajaaW.PrintHx
/-! ### spec_l02RootBytes: function 42 -/
open Go.Proofs.YtkghgjehjchajaaW.PrintLe
theorem l02Put_l0 (n : Nat) (hn : n ≤ 4096) : ∀ (d i k : Nat) (v : Int) (x5 : List Int), i + d = n → d < k → 0 ≤ v → v ≤ 9223372036854775807 → x5.length ≤ 4096 + i → spec_l02Put.l0 k v (n : Int) x5 (i : Int) = some (x5 ++ leB v d)
  | 0, i, k, v, x5, h1, h2, h3, h4, h5 => by
    obtain ⟨k, rfl⟩ := sucK h2
    simp only [spec_l02Put.l0]
    rw [if_neg (by omega)]
    simp [leB]
  | d + 1, i, k, v, x5, h1, h2, h3, h4, h5 => by
    obtain ⟨k, rfl⟩ := sucK h2
    simp only [spec_l02Put.l0]
    rw [if_pos (by omega), if_pos (by omega), w64n (by omega), Int.tdiv_eq_ediv_of_nonneg h3, Int.tmod_eq_emod_of_nonneg h3, w64 (by omega) (by omega), l02Put_l0 n hn d (i + 1) k _ _ (by omega) (by omega) (by omega) (by omega) (by simp; omega), List.append_assoc]
    simp only [leB, List.cons_append, List.nil_append]
    rw [Int.emod_emod_of_dvd _ (by decide)]
theorem l02Put_f (v : Int) (n k : Nat) (hn : n ≤ 4096) (h0 : 0 ≤ v) (h1 : v ≤ 9223372036854775807) (hk : n < k) : spec_l02Put.f k v (n : Int) = some (leB v n) := by
  unfold spec_l02Put.f
  have h := l02Put_l0 n hn n 0 k v [] (by omega) hk h0 h1 (by simp)
  rw [List.nil_append] at h
  exact h

def spec_l02RootBytes.f (a0 : List Int) : Option (List Int) := if rootGood a0 = true then some (rootBytes a0) else none
set_option maxHeartbeats 8000000 in
set_option maxRecDepth 100000 in
theorem spec_l02RootBytes.calls (a0 : List Int) (n0 : a0.length = 15) (r : List Int) (w : World) (h : spec_l02RootBytes.f a0 = some r) :
    Calls Try.prog 42 #[.agg (nums .i64 a0).toArray] w fun e w' => ∃ v0_ : Value, e = .returned (v0_) ∧ Kd.R (Kd.int .u8) 5 w' w.heap.size (fun _ => True) v0_ r ∧ Below w.heap.size w w' := by
  unfold spec_l02RootBytes.f at h
  by_cases hgood : rootGood a0 = true
  case neg => rw [if_neg hgood] at h; cases h
  rw [if_pos hgood] at h
  obtain rfl := Option.some.inj h
  have N_ := Aside0.mk n0
  have HG := Aside0.mk hgood
  clear n0 h hgood
  obtain ⟨s, hs⟩ : ∃ s, s = a0.getD 0 0 := ⟨_, rfl⟩
  have hs1 : 0 ≤ s ∧ s ≤ 262144 := by rw [hs]; exact rootGood_size HG.out
  have HS := Aside0.mk hs
  have HP8 := Aside0.mk (show spec_l02Put.f 20 s 8 = some (leB s 8) from l02Put_f s 8 20 (by decide) hs1.1 (by omega) (by decide))
  clear hs hs1
  obtain ⟨xs, hxs⟩ : ∃ xs, xs = seg a0 1 14 := ⟨_, rfl⟩
  have HP := Aside0.mk (show spec_l02Pointers.f a0 = some xs by rw [hxs]; exact if_pos N_.out)
  have HXL := Aside0.mk (show xs.length = 14 by rw [hxs]; exact part_len (n := 15) N_.out (by decide))
  have HXS := Aside0.mk hxs
  have HXR := Aside0.mk (show ∀ j, j < 14 → 0 ≤ xs.getD j 0 ∧ xs.getD j 0 < 2048 by rw [hxs]; exact fun j hj => rootGood_ptr HG.out j hj)
  have info5_ : (Try.prog.info? 5).map (fun i => (i.zero, i.size, i.bytes)) = some (some (.int .u8 0), 1, 1) := by kernel_rfl
  clear hxs
  have HB0 : Aside0 (Below w.heap.size w w) := ⟨Below.refl _ _⟩
  obtain ⟨s0, Sz0⟩ : ∃ s0, Aside0 (w.heap.size = s0) := ⟨_, ⟨rfl⟩⟩
  have hw0 : w.heap.size ≤ s0 := Nat.le_of_eq Sz0.out
  have hw1 : s0 ≤ w.heap.size := Nat.le_of_eq Sz0.out.symm
  go_enter Try.func42, Try.ntmps42
  go_wp2_with (first | ((with_reducible refine gate_dst (N := 1) rfl ?_); refine hx_box rfl 1 rfl 28 (.tmp 0) rfl Sz0 (.agg (nums .i64 a0).toArray) (nums .i64 a0).toArray rfl rfl ?_; intro w1 s1 L1 Sz1 b1 g_; have H0 := Aside0.mk g_; have HB1 := Aside0.mk (below_then HB0.out HB0.out.size b1); clear g_ HB0 b1) | ((with_reducible refine gate_dst (N := 7) rfl ?_); refine hx_loadf rfl 3 (.tmp 6) rfl s0 0 rfl Try.underlying3 rfl H0.out (lt_len (n := 15) N_.out (by decide)) ?_; rw [← HS.out]) | ((with_reducible refine gate_dst (N := 8) rfl ?_); refine goesL_ (some 8) rfl rfl Try.func70 (by kernel_rfl) rfl #[.int .i64 s, .int .i64 8] rfl (by (try simp only [List.map_toArray, List.map_cons, List.map_nil]); first | done | rfl) ?_; refine (spec_l02Put.calls _ _ _ _ _ HP8.out).mono ?_; rintro e_ w2 ⟨v8, rfl, R_, b_⟩; refine ⟨_, rfl, ?_⟩; obtain ⟨s2, L2, Sz2⟩ := size_letter Sz1 (kept_below b_); have O2 := own_btw R_ Sz1.out Sz2 HB1.out.size; have HB2 := Aside0.mk (below_then HB1.out HB1.out.size b_); have H2 := Aside0.mk (blk_below H0.out b_); clear R_ b_ HB1 H0) | ((with_reducible refine gate_dst (N := 9) rfl ?_); refine hx_load rfl 28 (.tmp 1) rfl s0 15 rfl Try.underlying28 rfl (by kernel_rfl) H2.out (nums_size _ _ _ N_.out) ?_) | ((with_reducible refine gate_dst (N := 10) rfl ?_); refine goesL_ (some 10) rfl rfl Try.func68 (by kernel_rfl) rfl #[.agg (nums .i64 a0).toArray] rfl (by (try simp only [List.map_toArray, List.map_cons, List.map_nil]); first | done | rfl) ?_; refine (spec_l02Pointers.calls a0 N_.out xs _ HP.out).mono ?_; rintro e_ w3 ⟨v0_, rfl, R_, b_⟩; obtain ⟨A10, c10, rfl⟩ := Kd.R_slice R_; refine ⟨_, rfl, ?_⟩; obtain ⟨s3, L3, Sz3⟩ := size_letter Sz2 (kept_below b_); have OP := own_btw R_ Sz2.out Sz3 HB2.out.size; have HB3 := Aside0.mk (below_then HB2.out HB2.out.size b_); have OO := Aside0.mk (Kd.R_mono (Kd.R_below O2.out b_) (fun k hk h2 => by have h1_ := hk.2; have h3_ := h2.1; omega : ∀ k, Btw s1 s2 k → ¬ Btw s2 s3 k)); have HS3 : s3 ≤ w3.heap.size := Nat.le_of_eq Sz3.out.symm; clear R_ b_ HB2 H2 O2))
  (try simp only [Act.put, List.setIfInBounds_toArray, List.set_cons_succ, List.set_cons_zero])
  go_loopw [3, 12] (fun v3 v12 wr => ∃ (j : Nat) (u : Value), u = v3 ∧ v12 = .int .i64 (j : Int) ∧ Aside0 (j ≤ 14) ∧ Aside0 (Kd.R (Kd.int .u8) 5 wr w.heap.size (fun k => ¬ Btw s2 s3 k) v3 (leB s 8 ++ flat4 (xs.take j))) ∧ Aside0 (Kd.R (Kd.int .i64) 3 wr w.heap.size (Btw s2 s3) (.slice A10 xs.length c10) xs) ∧ Aside0 (Below w.heap.size w wr) ∧ s3 ≤ wr.heap.size) (fun _ v12 _ => 14 - (intOf v12).toNat)
  case atStart => exact ⟨0, _, rfl, rfl, ⟨by omega⟩, ⟨by rw [List.take_zero, flat4, List.append_nil]; exact OO.out⟩, OP, HB3, HS3⟩
  case round =>
    clear OO OP HB3 HS3
    obtain ⟨j, v3, rfl, rfl, hj, OO0, OP, HB, HS3⟩ := hrel
    by_cases c9 : j < 14
    · have c9b0 : decide ((j : Int) < (xs.length : Int)) = true := decide_eq_true (by rw [HXL.out]; omega)
      have c9b1 : decide (j < xs.length) = true := decide_eq_true (by rw [HXL.out]; omega)
      have p112 : 0 ≤ (j : Int) := by omega
      have q112 : (j : Int) < (xs.length : Int) := by rw [HXL.out]; omega
      obtain ⟨ad112, e112, hx112⟩ := Kd.at_int (Kd.R_reads' OP.out).2.2 (j : Int) p112 q112
      cases e112
      rw [Int.toNat_natCast] at hx112
      replace p112 := eq_true p112
      replace q112 := eq_true q112
      have q113 : (j < xs.length) = True := eq_true (by rw [HXL.out]; omega)
      obtain ⟨p, hp⟩ : ∃ p, p = rd xs (j : Int) := ⟨_, rfl⟩
      rw [← hp] at hx112
      have HPV := Aside0.mk (show p = xs.getD j 0 by rw [hp, rd, Int.toNat_natCast])
      have hpr : 0 ≤ p ∧ p < 2048 := by rw [HPV.out]; exact HXR.out j c9
      have HP4 := Aside0.mk (show spec_l02Put.f 20 p 4 = some (leB p 4) from l02Put_f p 4 20 (by decide) hpr.1 (by omega) (by decide))
      have C9 := Aside0.mk c9
      obtain ⟨bs, hbs⟩ : ∃ bs, bs = leB s 8 ++ flat4 (xs.take j) := ⟨_, rfl⟩
      have oo := OO0.out
      rw [← hbs] at oo
      have OO := Aside0.mk oo
      have HBL := Aside0.mk (show bs.length = 8 + 4 * j by rw [hbs, List.length_append, leB_length, flat4_length, List.length_take, HXL.out, Nat.min_eq_left (by omega)])
      have HBS := Aside0.mk hbs
      clear hp c9 hpr hbs oo OO0
      go_wp2_with (first | ((with_reducible refine gate_dst (N := 18) rfl ?_); refine goesL_ (some 18) rfl rfl Try.func70 (by kernel_rfl) rfl #[.int .i64 p, .int .i64 4] rfl (by (try simp only [List.map_toArray, List.map_cons, List.map_nil]); first | done | rfl) ?_; refine (spec_l02Put.calls _ _ _ _ _ HP4.out).mono ?_; rintro e_ w4 ⟨v0_, rfl, R_, b_⟩; obtain ⟨A18, c18, rfl⟩ := Kd.R_slice R_; refine ⟨_, rfl, ?_⟩; have O18 := Aside0.mk R_; have HBn := Aside0.mk (below_then HB.out HB.out.size b_); have OOn := Aside0.mk (Kd.R_below OO.out b_); have OPn := Aside0.mk (Kd.R_below OP.out b_); have HS4 : s3 ≤ w4.heap.size := Nat.le_trans HS3 b_.size; clear R_ b_ HB OO OP) | ((with_reducible refine gate_dst (N := 19) rfl ?_); refine Kd.R_append_rows (Kd.int .u8) (w0 := w) w.heap.size rfl (.tmp 16) (.tmp 18) 25 5 (.int .u8 0) 1 rfl Try.underlying25 info5_ rfl (by decide) (by omega) v3 bs (leB p 4) _ _ _ (fun k => ¬ Btw s2 s3 k) (fun _ => False) rfl rfl OOn.out (Kd.R_reads' O18.out).2.2 (fun _ _ h => h) (fun _ h => h.elim) (fun k hk h2 => by have h3_ := h2.2; omega) HBn.out HBn.out.size (by have h1_ := HBL.out; have h2_ := C9.out; show (bs.length + (leB p 4).length) * 1 ≤ _; rw [leB_length, h1_]; omega) ?_; intro v19 w5 ho hb hg_ hn_; have OO5 := Aside0.mk ho; have HB5 := Aside0.mk hb; have OP5 := Aside0.mk (Kd.R_grown OPn.out hg_ (fun k hk e_ => OOn.out.1 k e_.symm hk)); have HS5 : s3 ≤ w5.heap.size := Nat.le_trans HS4 hg_.size; clear ho hb hg_ hn_ HBn OOn OPn O18))
      go_roundw
      case rel =>
        refine ⟨j + 1, _, rfl, by rw [show wrap64 ((j : Int) + 1) = ((j + 1 : Nat) : Int) by (have := C9.out; unfold wrap64; omega)], ⟨by have := C9.out; omega⟩, ⟨?_⟩, OP5, HB5, HS5⟩
        have ho := OO5.out
        have e_ : bs ++ leB p 4 = leB s 8 ++ flat4 (xs.take (j + 1)) := by rw [HBS.out, flat4_take xs j (by rw [HXL.out]; exact C9.out), ← HPV.out, List.append_assoc]
        rw [e_] at ho
        exact ho
      case measure =>
        rw [show wrap64 ((j : Int) + 1) = ((j + 1 : Nat) : Int) by (have := C9.out; unfold wrap64; omega)]
        simp only [intOf, Int.toNat_natCast]
        have := C9.out
        omega
    · obtain rfl : j = 14 := by have := hj.out; omega
      have c9b0 : decide ((14 : Int) < (xs.length : Int)) = false := decide_eq_false (by rw [HXL.out]; decide)
      have c9b1 : decide (14 < xs.length) = false := decide_eq_false (by rw [HXL.out]; decide)
      go_wp2
      go_ret
      have ho := OO0.out
      rw [List.take_of_length_le (by rw [HXL.out]; exact Nat.le_refl _), HXS.out, HS.out] at ho
      exact ⟨_, rfl, Kd.R_mono ho (fun _ _ => trivial), HB.out⟩

end Go.Proofs.Ytkghgjehjchajaa.PFnTable
