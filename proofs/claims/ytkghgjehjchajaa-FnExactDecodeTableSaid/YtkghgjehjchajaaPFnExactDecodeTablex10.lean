-- Written by a program of this session (patch_print.py over the kit print)
import Derived.Test.YtkghgjehjchajaaPFnExactDecodeTablex0
import Derived.Test.YtkghgjehjchajaaPFnExactDecodeTablex3
import Derived.Test.YtkghgjehjchajaaPFnExactDecodeTablex9
namespace Go.Proofs.Ytkghgjehjchajaa.PFnExactDecodeTable
open Go.RowKit Go.Proofs.YtkghgjehjchajaaW.PrintWords Go.Proofs.YtkghgjehjchajaaW.PrintLast Go.Proofs.YtkghgjehjchajaaW.PrintMore
attribute [local go_sem] max2_int min2_int max_two min_two max_three min_three max_four min_four   -- for this text's walks alone
set_option linter.unusedVariables false
set_option linter.unusedSimpArgs false

open Go.Proofs.YtkghgjehjchajaaW Go.Proofs.YtkghgjehjchajaaW.PrintHand Go.Proofs.YtkghgjehjchajaaW.PrintHx
/-! ### impl_Inode_right: function 52 -/
open Go.Proofs.YtkghgjehjchajaaW.PrintLe Go.Proofs.YtkghgjehjchajaaW.PrintEqW Go.Proofs.YtkghgjehjchajaaW.PrintIno

def impl_Inode_right.f (a0 : List Int) : Option Bool := some (inodeGood a0)
theorem impl_Inode_right.win (a b c : Int) (r : Bool) (h : rng a b c = r) : impl_within.f a b c = some r := by
  subst h
  unfold impl_within.f rng
  by_cases h : b ≤ a <;> simp [h]
set_option maxHeartbeats 8000000 in
set_option maxRecDepth 100000 in
theorem impl_Inode_right.calls (a0 : List Int) (n0 : a0.length = 24) (r : Bool) (w : World) (h : impl_Inode_right.f a0 = some r) :
    Calls Try.prog 52 #[.agg (nums .i64 a0).toArray] w fun e w' => e = .returned (.bool r) ∧ Below w.heap.size w w' := by
  have H := Aside0.mk (Option.some.inj h)
  have N_ := Aside0.mk n0
  clear n0 h
  obtain ⟨x0, hx0⟩ : ∃ x, x = a0.getD 0 0 := ⟨_, rfl⟩
  obtain ⟨x1, hx1⟩ : ∃ x, x = a0.getD 1 0 := ⟨_, rfl⟩
  obtain ⟨x2, hx2⟩ : ∃ x, x = a0.getD 2 0 := ⟨_, rfl⟩
  obtain ⟨x3, hx3⟩ : ∃ x, x = a0.getD 3 0 := ⟨_, rfl⟩
  obtain ⟨x4, hx4⟩ : ∃ x, x = a0.getD 4 0 := ⟨_, rfl⟩
  obtain ⟨x5, hx5⟩ : ∃ x, x = a0.getD 5 0 := ⟨_, rfl⟩
  obtain ⟨x6, hx6⟩ : ∃ x, x = a0.getD 6 0 := ⟨_, rfl⟩
  obtain ⟨x7, hx7⟩ : ∃ x, x = a0.getD 7 0 := ⟨_, rfl⟩
  obtain ⟨x8, hx8⟩ : ∃ x, x = a0.getD 8 0 := ⟨_, rfl⟩
  obtain ⟨xr, hxr⟩ : ∃ x, x = seg a0 9 15 := ⟨_, rfl⟩
  have NR := Aside0.mk (show xr.length = 15 by rw [hxr]; exact part_len N_.out (by decide))
  have HIN := Aside0.mk (show inodeGood a0 = (decide (a0 = List.replicate 24 0) || inodeOk x0 x1 x2 x3 x4 x5 x6 x7 x8 xr) by rw [hx0, hx1, hx2, hx3, hx4, hx5, hx6, hx7, hx8, hxr]; rfl)
  have X0 := Aside0.mk hx0
  clear hx0
  have X1 := Aside0.mk hx1
  clear hx1
  have X2 := Aside0.mk hx2
  clear hx2
  have X3 := Aside0.mk hx3
  clear hx3
  have X4 := Aside0.mk hx4
  clear hx4
  have X5 := Aside0.mk hx5
  clear hx5
  have X6 := Aside0.mk hx6
  clear hx6
  have X7 := Aside0.mk hx7
  clear hx7
  have X8 := Aside0.mk hx8
  clear hx8
  obtain ⟨y0, hy0⟩ : ∃ x, x = a0.getD 9 0 := ⟨_, rfl⟩
  obtain ⟨y1, hy1⟩ : ∃ x, x = a0.getD 10 0 := ⟨_, rfl⟩
  obtain ⟨y2, hy2⟩ : ∃ x, x = a0.getD 11 0 := ⟨_, rfl⟩
  obtain ⟨y3, hy3⟩ : ∃ x, x = a0.getD 12 0 := ⟨_, rfl⟩
  obtain ⟨y4, hy4⟩ : ∃ x, x = a0.getD 13 0 := ⟨_, rfl⟩
  obtain ⟨y5, hy5⟩ : ∃ x, x = a0.getD 14 0 := ⟨_, rfl⟩
  obtain ⟨y6, hy6⟩ : ∃ x, x = a0.getD 15 0 := ⟨_, rfl⟩
  obtain ⟨y7, hy7⟩ : ∃ x, x = a0.getD 16 0 := ⟨_, rfl⟩
  obtain ⟨y8, hy8⟩ : ∃ x, x = a0.getD 17 0 := ⟨_, rfl⟩
  obtain ⟨y9, hy9⟩ : ∃ x, x = a0.getD 18 0 := ⟨_, rfl⟩
  obtain ⟨y10, hy10⟩ : ∃ x, x = a0.getD 19 0 := ⟨_, rfl⟩
  obtain ⟨y11, hy11⟩ : ∃ x, x = a0.getD 20 0 := ⟨_, rfl⟩
  obtain ⟨y12, hy12⟩ : ∃ x, x = a0.getD 21 0 := ⟨_, rfl⟩
  obtain ⟨y13, hy13⟩ : ∃ x, x = a0.getD 22 0 := ⟨_, rfl⟩
  obtain ⟨y14, hy14⟩ : ∃ x, x = a0.getD 23 0 := ⟨_, rfl⟩
  have XY := Aside0.mk (show xr = [y0, y1, y2, y3, y4, y5, y6, y7, y8, y9, y10, y11, y12, y13, y14] by rw [hxr, hy0, hy1, hy2, hy3, hy4, hy5, hy6, hy7, hy8, hy9, hy10, hy11, hy12, hy13, hy14]; exact seg_root N_.out)
  have Y0 := Aside0.mk hy0
  clear hy0
  have Y1 := Aside0.mk hy1
  clear hy1
  have Y2 := Aside0.mk hy2
  clear hy2
  have Y3 := Aside0.mk hy3
  clear hy3
  have Y4 := Aside0.mk hy4
  clear hy4
  have Y5 := Aside0.mk hy5
  clear hy5
  have Y6 := Aside0.mk hy6
  clear hy6
  have Y7 := Aside0.mk hy7
  clear hy7
  have Y8 := Aside0.mk hy8
  clear hy8
  have Y9 := Aside0.mk hy9
  clear hy9
  have Y10 := Aside0.mk hy10
  clear hy10
  have Y11 := Aside0.mk hy11
  clear hy11
  have Y12 := Aside0.mk hy12
  clear hy12
  have Y13 := Aside0.mk hy13
  clear hy13
  have Y14 := Aside0.mk hy14
  clear hy14
  have XR := Aside0.mk hxr
  clear hxr
  have HB0 : Aside0 (Below w.heap.size w w) := ⟨Below.refl _ _⟩
  obtain ⟨s0, Sz0⟩ : ∃ s0, Aside0 (w.heap.size = s0) := ⟨_, ⟨rfl⟩⟩
  have hw0 : w.heap.size ≤ s0 := Nat.le_of_eq Sz0.out
  have hw1 : s0 ≤ w.heap.size := Nat.le_of_eq Sz0.out.symm
  obtain ⟨zz, hzz⟩ : ∃ z, z = List.replicate 24 (0 : Int) := ⟨_, rfl⟩
  have ZZ := Aside0.mk hzz
  have NZ := Aside0.mk (show zz.length = 24 by rw [hzz]; simp)
  have CELLS : Aside0 (∀ W : World, W.heap[s0]? = some (.cells (nums .i64 a0).toArray 42 (0, 0)) → W.cell? ⟨s0, 0, none⟩ = some (.int .i64 x0) ∧ W.cell? ⟨s0, 1, none⟩ = some (.int .i64 x1) ∧ W.cell? ⟨s0, 2, none⟩ = some (.int .i64 x2) ∧ W.cell? ⟨s0, 3, none⟩ = some (.int .i64 x3) ∧ W.cell? ⟨s0, 4, none⟩ = some (.int .i64 x4) ∧ W.cell? ⟨s0, 5, none⟩ = some (.int .i64 x5) ∧ W.cell? ⟨s0, 6, none⟩ = some (.int .i64 x6) ∧ W.cell? ⟨s0, 7, none⟩ = some (.int .i64 x7) ∧ W.cell? ⟨s0, 8, none⟩ = some (.int .i64 x8)) := by
    exact ⟨fun W hW => ⟨by have h_ := row_cell hW 0 (lt_len (n := 24) N_.out (by decide)); rw [← X0.out] at h_; exact h_, by have h_ := row_cell hW 1 (lt_len (n := 24) N_.out (by decide)); rw [← X1.out] at h_; exact h_, by have h_ := row_cell hW 2 (lt_len (n := 24) N_.out (by decide)); rw [← X2.out] at h_; exact h_, by have h_ := row_cell hW 3 (lt_len (n := 24) N_.out (by decide)); rw [← X3.out] at h_; exact h_, by have h_ := row_cell hW 4 (lt_len (n := 24) N_.out (by decide)); rw [← X4.out] at h_; exact h_, by have h_ := row_cell hW 5 (lt_len (n := 24) N_.out (by decide)); rw [← X5.out] at h_; exact h_, by have h_ := row_cell hW 6 (lt_len (n := 24) N_.out (by decide)); rw [← X6.out] at h_; exact h_, by have h_ := row_cell hW 7 (lt_len (n := 24) N_.out (by decide)); rw [← X7.out] at h_; exact h_, by have h_ := row_cell hW 8 (lt_len (n := 24) N_.out (by decide)); rw [← X8.out] at h_; exact h_⟩⟩
  have CELLR : Aside0 (∀ W : World, W.heap[s0]? = some (.cells (nums .i64 a0).toArray 42 (0, 0)) → W.cell? ⟨s0, 9, none⟩ = some (.int .i64 y0) ∧ W.cell? ⟨s0, 10, none⟩ = some (.int .i64 y1) ∧ W.cell? ⟨s0, 11, none⟩ = some (.int .i64 y2) ∧ W.cell? ⟨s0, 12, none⟩ = some (.int .i64 y3) ∧ W.cell? ⟨s0, 13, none⟩ = some (.int .i64 y4) ∧ W.cell? ⟨s0, 14, none⟩ = some (.int .i64 y5) ∧ W.cell? ⟨s0, 15, none⟩ = some (.int .i64 y6) ∧ W.cell? ⟨s0, 16, none⟩ = some (.int .i64 y7) ∧ W.cell? ⟨s0, 17, none⟩ = some (.int .i64 y8) ∧ W.cell? ⟨s0, 18, none⟩ = some (.int .i64 y9) ∧ W.cell? ⟨s0, 19, none⟩ = some (.int .i64 y10) ∧ W.cell? ⟨s0, 20, none⟩ = some (.int .i64 y11) ∧ W.cell? ⟨s0, 21, none⟩ = some (.int .i64 y12) ∧ W.cell? ⟨s0, 22, none⟩ = some (.int .i64 y13) ∧ W.cell? ⟨s0, 23, none⟩ = some (.int .i64 y14)) := by
    exact ⟨fun W hW => ⟨by have h_ := row_cell hW 9 (lt_len (n := 24) N_.out (by decide)); rw [← Y0.out] at h_; exact h_, by have h_ := row_cell hW 10 (lt_len (n := 24) N_.out (by decide)); rw [← Y1.out] at h_; exact h_, by have h_ := row_cell hW 11 (lt_len (n := 24) N_.out (by decide)); rw [← Y2.out] at h_; exact h_, by have h_ := row_cell hW 12 (lt_len (n := 24) N_.out (by decide)); rw [← Y3.out] at h_; exact h_, by have h_ := row_cell hW 13 (lt_len (n := 24) N_.out (by decide)); rw [← Y4.out] at h_; exact h_, by have h_ := row_cell hW 14 (lt_len (n := 24) N_.out (by decide)); rw [← Y5.out] at h_; exact h_, by have h_ := row_cell hW 15 (lt_len (n := 24) N_.out (by decide)); rw [← Y6.out] at h_; exact h_, by have h_ := row_cell hW 16 (lt_len (n := 24) N_.out (by decide)); rw [← Y7.out] at h_; exact h_, by have h_ := row_cell hW 17 (lt_len (n := 24) N_.out (by decide)); rw [← Y8.out] at h_; exact h_, by have h_ := row_cell hW 18 (lt_len (n := 24) N_.out (by decide)); rw [← Y9.out] at h_; exact h_, by have h_ := row_cell hW 19 (lt_len (n := 24) N_.out (by decide)); rw [← Y10.out] at h_; exact h_, by have h_ := row_cell hW 20 (lt_len (n := 24) N_.out (by decide)); rw [← Y11.out] at h_; exact h_, by have h_ := row_cell hW 21 (lt_len (n := 24) N_.out (by decide)); rw [← Y12.out] at h_; exact h_, by have h_ := row_cell hW 22 (lt_len (n := 24) N_.out (by decide)); rw [← Y13.out] at h_; exact h_, by have h_ := row_cell hW 23 (lt_len (n := 24) N_.out (by decide)); rw [← Y14.out] at h_; exact h_⟩⟩
  by_cases hz : a0 = zz
  · have BE := Aside0.mk (decide_eq_true hz)
    have HZ := Aside0.mk (show a0 = List.replicate 24 0 by rw [← hzz]; exact hz)
    clear hz hzz
    go_enter Try.func52, Try.ntmps52
    go_wp2_with (first | ((with_reducible refine gate_dst (N := 1) rfl ?_); refine hx_box rfl 1 rfl 42 (.tmp 0) rfl Sz0 (.agg (nums .i64 a0).toArray) (nums .i64 a0).toArray rfl rfl ?_; intro w1 s1 L1 Sz1 b1 g_; have H_1 := Aside0.mk g_; have HB1 := Aside0.mk (below_then HB0.out HB0.out.size b1); clear g_ HB0 b1; obtain ⟨k0_1, k1_1, k2_1, k3_1, k4_1, k5_1, k6_1, k7_1, k8_1⟩ := CELLS.out w1 H_1.out) | ((with_reducible refine gate_dst (N := 4) rfl ?_); refine hx_load rfl 42 (.tmp 1) rfl s0 24 rfl Try.underlying42 rfl (by kernel_rfl) H_1.out (nums_size _ _ _ N_.out) ?_) | ((with_reducible refine gate_dst (N := 6) rfl ?_); refine wpList_eqw rfl (.tmp 4) (.tmp 5) _ rfl eqw42 (by decide) (by kernel_rfl) a0 zz rfl (by rw [ZZ.out]; rfl) N_.out NZ.out ?_; rw [BE.out]))
    go_ret
    refine ⟨?_, HB1.out⟩
    have e_ : inodeGood a0 = true := by rw [HIN.out, decide_eq_true HZ.out]; rfl
    rw [← H.out, e_]; rfl
  have BE := Aside0.mk (decide_eq_false hz)
  have HZ := Aside0.mk (show ¬ a0 = List.replicate 24 0 by rw [← hzz]; exact hz)
  clear hz hzz
  by_cases hk : x0 = 2
  · have hkb : (x0 == 2) = true := beq_iff_eq.mpr hk
    obtain ⟨pb, hpb⟩ : ∃ b, b = rng x5 1 1000 := ⟨_, rfl⟩
    have hpo : parentOk x0 x5 = pb := by unfold parentOk; rw [if_pos hk, hpb]
    have WP := Aside0.mk (impl_Inode_right.win x5 1 1000 pb hpb.symm)
    clear hk hpb
    obtain ⟨b0, hb0⟩ : ∃ b, b = rng x0 1 3 := ⟨_, rfl⟩
    have R0 := Aside0.mk hb0.symm
    have W0 := Aside0.mk (impl_Inode_right.win x0 1 3 b0 R0.out)
    clear hb0
    cases b0 with
    | false =>
      go_enter Try.func52, Try.ntmps52
      go_wp2_with (first | ((with_reducible refine gate_dst (N := 1) rfl ?_); refine hx_box rfl 1 rfl 42 (.tmp 0) rfl Sz0 (.agg (nums .i64 a0).toArray) (nums .i64 a0).toArray rfl rfl ?_; intro w1 s1 L1 Sz1 b1 g_; have H_1 := Aside0.mk g_; have HB1 := Aside0.mk (below_then HB0.out HB0.out.size b1); clear g_ HB0 b1; obtain ⟨k0_1, k1_1, k2_1, k3_1, k4_1, k5_1, k6_1, k7_1, k8_1⟩ := CELLS.out w1 H_1.out) | ((with_reducible refine gate_dst (N := 4) rfl ?_); refine hx_load rfl 42 (.tmp 1) rfl s0 24 rfl Try.underlying42 rfl (by kernel_rfl) H_1.out (nums_size _ _ _ N_.out) ?_) | ((with_reducible refine gate_dst (N := 6) rfl ?_); refine wpList_eqw rfl (.tmp 4) (.tmp 5) _ rfl eqw42 (by decide) (by kernel_rfl) a0 zz rfl (by rw [ZZ.out]; rfl) N_.out NZ.out ?_; rw [BE.out]) | (go_at_call 71; (with_reducible refine (impl_within.calls x5 1 1000 pb _ WP.out).mono ?_); rintro e_ w2 ⟨rfl, d_⟩; have b_ := kept_drawn d_; have H_2 := Aside0.mk (blk_below H_1.out b_); have HB2 := Aside0.mk (below_then HB1.out HB1.out.size b_); clear b_ d_ H_1 HB1 k0_1 k1_1 k2_1 k3_1 k4_1 k5_1 k6_1 k7_1 k8_1; obtain ⟨k0_2, k1_2, k2_2, k3_2, k4_2, k5_2, k6_2, k7_2, k8_2⟩ := CELLS.out w2 H_2.out) | (go_at_call 71; (with_reducible refine (impl_within.calls x0 1 3 false _ W0.out).mono ?_); rintro e_ w3 ⟨rfl, d_⟩; have b_ := kept_drawn d_; have H_3 := Aside0.mk (blk_below H_2.out b_); have HB3 := Aside0.mk (below_then HB2.out HB2.out.size b_); clear b_ d_ H_2 HB2 k0_2 k1_2 k2_2 k3_2 k4_2 k5_2 k6_2 k7_2 k8_2; obtain ⟨k0_3, k1_3, k2_3, k3_3, k4_3, k5_3, k6_3, k7_3, k8_3⟩ := CELLS.out w3 H_3.out))
      go_ret
      refine ⟨?_, HB3.out⟩
      have e_ : inodeGood a0 = false := by rw [HIN.out, decide_eq_false HZ.out]; unfold inodeOk; rw [R0.out]; rfl
      rw [← H.out, e_]; rfl
    | true =>
      obtain ⟨b1, hb1⟩ : ∃ b, b = rng x1 1 1000 := ⟨_, rfl⟩
      have R1 := Aside0.mk hb1.symm
      have W1 := Aside0.mk (impl_Inode_right.win x1 1 1000 b1 R1.out)
      clear hb1
      cases b1 with
      | false =>
        go_enter Try.func52, Try.ntmps52
        go_wp2_with (first | ((with_reducible refine gate_dst (N := 1) rfl ?_); refine hx_box rfl 1 rfl 42 (.tmp 0) rfl Sz0 (.agg (nums .i64 a0).toArray) (nums .i64 a0).toArray rfl rfl ?_; intro w1 s1 L1 Sz1 b1 g_; have H_1 := Aside0.mk g_; have HB1 := Aside0.mk (below_then HB0.out HB0.out.size b1); clear g_ HB0 b1; obtain ⟨k0_1, k1_1, k2_1, k3_1, k4_1, k5_1, k6_1, k7_1, k8_1⟩ := CELLS.out w1 H_1.out) | ((with_reducible refine gate_dst (N := 4) rfl ?_); refine hx_load rfl 42 (.tmp 1) rfl s0 24 rfl Try.underlying42 rfl (by kernel_rfl) H_1.out (nums_size _ _ _ N_.out) ?_) | ((with_reducible refine gate_dst (N := 6) rfl ?_); refine wpList_eqw rfl (.tmp 4) (.tmp 5) _ rfl eqw42 (by decide) (by kernel_rfl) a0 zz rfl (by rw [ZZ.out]; rfl) N_.out NZ.out ?_; rw [BE.out]) | (go_at_call 71; (with_reducible refine (impl_within.calls x5 1 1000 pb _ WP.out).mono ?_); rintro e_ w2 ⟨rfl, d_⟩; have b_ := kept_drawn d_; have H_2 := Aside0.mk (blk_below H_1.out b_); have HB2 := Aside0.mk (below_then HB1.out HB1.out.size b_); clear b_ d_ H_1 HB1 k0_1 k1_1 k2_1 k3_1 k4_1 k5_1 k6_1 k7_1 k8_1; obtain ⟨k0_2, k1_2, k2_2, k3_2, k4_2, k5_2, k6_2, k7_2, k8_2⟩ := CELLS.out w2 H_2.out) | (go_at_call 71; (with_reducible refine (impl_within.calls x0 1 3 true _ W0.out).mono ?_); rintro e_ w3 ⟨rfl, d_⟩; have b_ := kept_drawn d_; have H_3 := Aside0.mk (blk_below H_2.out b_); have HB3 := Aside0.mk (below_then HB2.out HB2.out.size b_); clear b_ d_ H_2 HB2 k0_2 k1_2 k2_2 k3_2 k4_2 k5_2 k6_2 k7_2 k8_2; obtain ⟨k0_3, k1_3, k2_3, k3_3, k4_3, k5_3, k6_3, k7_3, k8_3⟩ := CELLS.out w3 H_3.out) | (go_at_call 71; (with_reducible refine (impl_within.calls x1 1 1000 false _ W1.out).mono ?_); rintro e_ w4 ⟨rfl, d_⟩; have b_ := kept_drawn d_; have H_4 := Aside0.mk (blk_below H_3.out b_); have HB4 := Aside0.mk (below_then HB3.out HB3.out.size b_); clear b_ d_ H_3 HB3 k0_3 k1_3 k2_3 k3_3 k4_3 k5_3 k6_3 k7_3 k8_3; obtain ⟨k0_4, k1_4, k2_4, k3_4, k4_4, k5_4, k6_4, k7_4, k8_4⟩ := CELLS.out w4 H_4.out))
        go_ret
        refine ⟨?_, HB4.out⟩
        have e_ : inodeGood a0 = false := by rw [HIN.out, decide_eq_false HZ.out]; unfold inodeOk; rw [R0.out, R1.out]; rfl
        rw [← H.out, e_]; rfl
      | true =>
        obtain ⟨b2, hb2⟩ : ∃ b, b = rng x2 0 4095 := ⟨_, rfl⟩
        have R2 := Aside0.mk hb2.symm
        have W2 := Aside0.mk (impl_Inode_right.win x2 0 4095 b2 R2.out)
        clear hb2
        cases b2 with
        | false =>
          go_enter Try.func52, Try.ntmps52
          go_wp2_with (first | ((with_reducible refine gate_dst (N := 1) rfl ?_); refine hx_box rfl 1 rfl 42 (.tmp 0) rfl Sz0 (.agg (nums .i64 a0).toArray) (nums .i64 a0).toArray rfl rfl ?_; intro w1 s1 L1 Sz1 b1 g_; have H_1 := Aside0.mk g_; have HB1 := Aside0.mk (below_then HB0.out HB0.out.size b1); clear g_ HB0 b1; obtain ⟨k0_1, k1_1, k2_1, k3_1, k4_1, k5_1, k6_1, k7_1, k8_1⟩ := CELLS.out w1 H_1.out) | ((with_reducible refine gate_dst (N := 4) rfl ?_); refine hx_load rfl 42 (.tmp 1) rfl s0 24 rfl Try.underlying42 rfl (by kernel_rfl) H_1.out (nums_size _ _ _ N_.out) ?_) | ((with_reducible refine gate_dst (N := 6) rfl ?_); refine wpList_eqw rfl (.tmp 4) (.tmp 5) _ rfl eqw42 (by decide) (by kernel_rfl) a0 zz rfl (by rw [ZZ.out]; rfl) N_.out NZ.out ?_; rw [BE.out]) | (go_at_call 71; (with_reducible refine (impl_within.calls x5 1 1000 pb _ WP.out).mono ?_); rintro e_ w2 ⟨rfl, d_⟩; have b_ := kept_drawn d_; have H_2 := Aside0.mk (blk_below H_1.out b_); have HB2 := Aside0.mk (below_then HB1.out HB1.out.size b_); clear b_ d_ H_1 HB1 k0_1 k1_1 k2_1 k3_1 k4_1 k5_1 k6_1 k7_1 k8_1; obtain ⟨k0_2, k1_2, k2_2, k3_2, k4_2, k5_2, k6_2, k7_2, k8_2⟩ := CELLS.out w2 H_2.out) | (go_at_call 71; (with_reducible refine (impl_within.calls x0 1 3 true _ W0.out).mono ?_); rintro e_ w3 ⟨rfl, d_⟩; have b_ := kept_drawn d_; have H_3 := Aside0.mk (blk_below H_2.out b_); have HB3 := Aside0.mk (below_then HB2.out HB2.out.size b_); clear b_ d_ H_2 HB2 k0_2 k1_2 k2_2 k3_2 k4_2 k5_2 k6_2 k7_2 k8_2; obtain ⟨k0_3, k1_3, k2_3, k3_3, k4_3, k5_3, k6_3, k7_3, k8_3⟩ := CELLS.out w3 H_3.out) | (go_at_call 71; (with_reducible refine (impl_within.calls x1 1 1000 true _ W1.out).mono ?_); rintro e_ w4 ⟨rfl, d_⟩; have b_ := kept_drawn d_; have H_4 := Aside0.mk (blk_below H_3.out b_); have HB4 := Aside0.mk (below_then HB3.out HB3.out.size b_); clear b_ d_ H_3 HB3 k0_3 k1_3 k2_3 k3_3 k4_3 k5_3 k6_3 k7_3 k8_3; obtain ⟨k0_4, k1_4, k2_4, k3_4, k4_4, k5_4, k6_4, k7_4, k8_4⟩ := CELLS.out w4 H_4.out) | (go_at_call 71; (with_reducible refine (impl_within.calls x2 0 4095 false _ W2.out).mono ?_); rintro e_ w5 ⟨rfl, d_⟩; have b_ := kept_drawn d_; have H_5 := Aside0.mk (blk_below H_4.out b_); have HB5 := Aside0.mk (below_then HB4.out HB4.out.size b_); clear b_ d_ H_4 HB4 k0_4 k1_4 k2_4 k3_4 k4_4 k5_4 k6_4 k7_4 k8_4; obtain ⟨k0_5, k1_5, k2_5, k3_5, k4_5, k5_5, k6_5, k7_5, k8_5⟩ := CELLS.out w5 H_5.out))
          go_ret
          refine ⟨?_, HB5.out⟩
          have e_ : inodeGood a0 = false := by rw [HIN.out, decide_eq_false HZ.out]; unfold inodeOk; rw [R0.out, R1.out, R2.out]; rfl
          rw [← H.out, e_]; rfl
        | true =>
          obtain ⟨b3, hb3⟩ : ∃ b, b = rng x3 0 65535 := ⟨_, rfl⟩
          have R3 := Aside0.mk hb3.symm
          have W3 := Aside0.mk (impl_Inode_right.win x3 0 65535 b3 R3.out)
          clear hb3
          cases b3 with
          | false =>
            go_enter Try.func52, Try.ntmps52
            go_wp2_with (first | ((with_reducible refine gate_dst (N := 1) rfl ?_); refine hx_box rfl 1 rfl 42 (.tmp 0) rfl Sz0 (.agg (nums .i64 a0).toArray) (nums .i64 a0).toArray rfl rfl ?_; intro w1 s1 L1 Sz1 b1 g_; have H_1 := Aside0.mk g_; have HB1 := Aside0.mk (below_then HB0.out HB0.out.size b1); clear g_ HB0 b1; obtain ⟨k0_1, k1_1, k2_1, k3_1, k4_1, k5_1, k6_1, k7_1, k8_1⟩ := CELLS.out w1 H_1.out) | ((with_reducible refine gate_dst (N := 4) rfl ?_); refine hx_load rfl 42 (.tmp 1) rfl s0 24 rfl Try.underlying42 rfl (by kernel_rfl) H_1.out (nums_size _ _ _ N_.out) ?_) | ((with_reducible refine gate_dst (N := 6) rfl ?_); refine wpList_eqw rfl (.tmp 4) (.tmp 5) _ rfl eqw42 (by decide) (by kernel_rfl) a0 zz rfl (by rw [ZZ.out]; rfl) N_.out NZ.out ?_; rw [BE.out]) | (go_at_call 71; (with_reducible refine (impl_within.calls x5 1 1000 pb _ WP.out).mono ?_); rintro e_ w2 ⟨rfl, d_⟩; have b_ := kept_drawn d_; have H_2 := Aside0.mk (blk_below H_1.out b_); have HB2 := Aside0.mk (below_then HB1.out HB1.out.size b_); clear b_ d_ H_1 HB1 k0_1 k1_1 k2_1 k3_1 k4_1 k5_1 k6_1 k7_1 k8_1; obtain ⟨k0_2, k1_2, k2_2, k3_2, k4_2, k5_2, k6_2, k7_2, k8_2⟩ := CELLS.out w2 H_2.out) | (go_at_call 71; (with_reducible refine (impl_within.calls x0 1 3 true _ W0.out).mono ?_); rintro e_ w3 ⟨rfl, d_⟩; have b_ := kept_drawn d_; have H_3 := Aside0.mk (blk_below H_2.out b_); have HB3 := Aside0.mk (below_then HB2.out HB2.out.size b_); clear b_ d_ H_2 HB2 k0_2 k1_2 k2_2 k3_2 k4_2 k5_2 k6_2 k7_2 k8_2; obtain ⟨k0_3, k1_3, k2_3, k3_3, k4_3, k5_3, k6_3, k7_3, k8_3⟩ := CELLS.out w3 H_3.out) | (go_at_call 71; (with_reducible refine (impl_within.calls x1 1 1000 true _ W1.out).mono ?_); rintro e_ w4 ⟨rfl, d_⟩; have b_ := kept_drawn d_; have H_4 := Aside0.mk (blk_below H_3.out b_); have HB4 := Aside0.mk (below_then HB3.out HB3.out.size b_); clear b_ d_ H_3 HB3 k0_3 k1_3 k2_3 k3_3 k4_3 k5_3 k6_3 k7_3 k8_3; obtain ⟨k0_4, k1_4, k2_4, k3_4, k4_4, k5_4, k6_4, k7_4, k8_4⟩ := CELLS.out w4 H_4.out) | (go_at_call 71; (with_reducible refine (impl_within.calls x2 0 4095 true _ W2.out).mono ?_); rintro e_ w5 ⟨rfl, d_⟩; have b_ := kept_drawn d_; have H_5 := Aside0.mk (blk_below H_4.out b_); have HB5 := Aside0.mk (below_then HB4.out HB4.out.size b_); clear b_ d_ H_4 HB4 k0_4 k1_4 k2_4 k3_4 k4_4 k5_4 k6_4 k7_4 k8_4; obtain ⟨k0_5, k1_5, k2_5, k3_5, k4_5, k5_5, k6_5, k7_5, k8_5⟩ := CELLS.out w5 H_5.out) | (go_at_call 71; (with_reducible refine (impl_within.calls x3 0 65535 false _ W3.out).mono ?_); rintro e_ w6 ⟨rfl, d_⟩; have b_ := kept_drawn d_; have H_6 := Aside0.mk (blk_below H_5.out b_); have HB6 := Aside0.mk (below_then HB5.out HB5.out.size b_); clear b_ d_ H_5 HB5 k0_5 k1_5 k2_5 k3_5 k4_5 k5_5 k6_5 k7_5 k8_5; obtain ⟨k0_6, k1_6, k2_6, k3_6, k4_6, k5_6, k6_6, k7_6, k8_6⟩ := CELLS.out w6 H_6.out))
            go_ret
            refine ⟨?_, HB6.out⟩
            have e_ : inodeGood a0 = false := by rw [HIN.out, decide_eq_false HZ.out]; unfold inodeOk; rw [R0.out, R1.out, R2.out, R3.out]; rfl
            rw [← H.out, e_]; rfl
          | true =>
            obtain ⟨b4, hb4⟩ : ∃ b, b = rng x4 0 65535 := ⟨_, rfl⟩
            have R4 := Aside0.mk hb4.symm
            have W4 := Aside0.mk (impl_Inode_right.win x4 0 65535 b4 R4.out)
            clear hb4
            cases b4 with
            | false =>
              go_enter Try.func52, Try.ntmps52
              go_wp2_with (first | ((with_reducible refine gate_dst (N := 1) rfl ?_); refine hx_box rfl 1 rfl 42 (.tmp 0) rfl Sz0 (.agg (nums .i64 a0).toArray) (nums .i64 a0).toArray rfl rfl ?_; intro w1 s1 L1 Sz1 b1 g_; have H_1 := Aside0.mk g_; have HB1 := Aside0.mk (below_then HB0.out HB0.out.size b1); clear g_ HB0 b1; obtain ⟨k0_1, k1_1, k2_1, k3_1, k4_1, k5_1, k6_1, k7_1, k8_1⟩ := CELLS.out w1 H_1.out) | ((with_reducible refine gate_dst (N := 4) rfl ?_); refine hx_load rfl 42 (.tmp 1) rfl s0 24 rfl Try.underlying42 rfl (by kernel_rfl) H_1.out (nums_size _ _ _ N_.out) ?_) | ((with_reducible refine gate_dst (N := 6) rfl ?_); refine wpList_eqw rfl (.tmp 4) (.tmp 5) _ rfl eqw42 (by decide) (by kernel_rfl) a0 zz rfl (by rw [ZZ.out]; rfl) N_.out NZ.out ?_; rw [BE.out]) | (go_at_call 71; (with_reducible refine (impl_within.calls x5 1 1000 pb _ WP.out).mono ?_); rintro e_ w2 ⟨rfl, d_⟩; have b_ := kept_drawn d_; have H_2 := Aside0.mk (blk_below H_1.out b_); have HB2 := Aside0.mk (below_then HB1.out HB1.out.size b_); clear b_ d_ H_1 HB1 k0_1 k1_1 k2_1 k3_1 k4_1 k5_1 k6_1 k7_1 k8_1; obtain ⟨k0_2, k1_2, k2_2, k3_2, k4_2, k5_2, k6_2, k7_2, k8_2⟩ := CELLS.out w2 H_2.out) | (go_at_call 71; (with_reducible refine (impl_within.calls x0 1 3 true _ W0.out).mono ?_); rintro e_ w3 ⟨rfl, d_⟩; have b_ := kept_drawn d_; have H_3 := Aside0.mk (blk_below H_2.out b_); have HB3 := Aside0.mk (below_then HB2.out HB2.out.size b_); clear b_ d_ H_2 HB2 k0_2 k1_2 k2_2 k3_2 k4_2 k5_2 k6_2 k7_2 k8_2; obtain ⟨k0_3, k1_3, k2_3, k3_3, k4_3, k5_3, k6_3, k7_3, k8_3⟩ := CELLS.out w3 H_3.out) | (go_at_call 71; (with_reducible refine (impl_within.calls x1 1 1000 true _ W1.out).mono ?_); rintro e_ w4 ⟨rfl, d_⟩; have b_ := kept_drawn d_; have H_4 := Aside0.mk (blk_below H_3.out b_); have HB4 := Aside0.mk (below_then HB3.out HB3.out.size b_); clear b_ d_ H_3 HB3 k0_3 k1_3 k2_3 k3_3 k4_3 k5_3 k6_3 k7_3 k8_3; obtain ⟨k0_4, k1_4, k2_4, k3_4, k4_4, k5_4, k6_4, k7_4, k8_4⟩ := CELLS.out w4 H_4.out) | (go_at_call 71; (with_reducible refine (impl_within.calls x2 0 4095 true _ W2.out).mono ?_); rintro e_ w5 ⟨rfl, d_⟩; have b_ := kept_drawn d_; have H_5 := Aside0.mk (blk_below H_4.out b_); have HB5 := Aside0.mk (below_then HB4.out HB4.out.size b_); clear b_ d_ H_4 HB4 k0_4 k1_4 k2_4 k3_4 k4_4 k5_4 k6_4 k7_4 k8_4; obtain ⟨k0_5, k1_5, k2_5, k3_5, k4_5, k5_5, k6_5, k7_5, k8_5⟩ := CELLS.out w5 H_5.out) | (go_at_call 71; (with_reducible refine (impl_within.calls x3 0 65535 true _ W3.out).mono ?_); rintro e_ w6 ⟨rfl, d_⟩; have b_ := kept_drawn d_; have H_6 := Aside0.mk (blk_below H_5.out b_); have HB6 := Aside0.mk (below_then HB5.out HB5.out.size b_); clear b_ d_ H_5 HB5 k0_5 k1_5 k2_5 k3_5 k4_5 k5_5 k6_5 k7_5 k8_5; obtain ⟨k0_6, k1_6, k2_6, k3_6, k4_6, k5_6, k6_6, k7_6, k8_6⟩ := CELLS.out w6 H_6.out) | (go_at_call 71; (with_reducible refine (impl_within.calls x4 0 65535 false _ W4.out).mono ?_); rintro e_ w7 ⟨rfl, d_⟩; have b_ := kept_drawn d_; have H_7 := Aside0.mk (blk_below H_6.out b_); have HB7 := Aside0.mk (below_then HB6.out HB6.out.size b_); clear b_ d_ H_6 HB6 k0_6 k1_6 k2_6 k3_6 k4_6 k5_6 k6_6 k7_6 k8_6; obtain ⟨k0_7, k1_7, k2_7, k3_7, k4_7, k5_7, k6_7, k7_7, k8_7⟩ := CELLS.out w7 H_7.out))
              go_ret
              refine ⟨?_, HB7.out⟩
              have e_ : inodeGood a0 = false := by rw [HIN.out, decide_eq_false HZ.out]; unfold inodeOk; rw [R0.out, R1.out, R2.out, R3.out, R4.out]; rfl
              rw [← H.out, e_]; rfl
            | true =>
              have R5 := Aside0.mk hpo
              clear hpo
              cases pb with
              | false =>
                go_enter Try.func52, Try.ntmps52
                go_wp2_with (first | ((with_reducible refine gate_dst (N := 1) rfl ?_); refine hx_box rfl 1 rfl 42 (.tmp 0) rfl Sz0 (.agg (nums .i64 a0).toArray) (nums .i64 a0).toArray rfl rfl ?_; intro w1 s1 L1 Sz1 b1 g_; have H_1 := Aside0.mk g_; have HB1 := Aside0.mk (below_then HB0.out HB0.out.size b1); clear g_ HB0 b1; obtain ⟨k0_1, k1_1, k2_1, k3_1, k4_1, k5_1, k6_1, k7_1, k8_1⟩ := CELLS.out w1 H_1.out) | ((with_reducible refine gate_dst (N := 4) rfl ?_); refine hx_load rfl 42 (.tmp 1) rfl s0 24 rfl Try.underlying42 rfl (by kernel_rfl) H_1.out (nums_size _ _ _ N_.out) ?_) | ((with_reducible refine gate_dst (N := 6) rfl ?_); refine wpList_eqw rfl (.tmp 4) (.tmp 5) _ rfl eqw42 (by decide) (by kernel_rfl) a0 zz rfl (by rw [ZZ.out]; rfl) N_.out NZ.out ?_; rw [BE.out]) | (go_at_call 71; (with_reducible refine (impl_within.calls x5 1 1000 false _ WP.out).mono ?_); rintro e_ w2 ⟨rfl, d_⟩; have b_ := kept_drawn d_; have H_2 := Aside0.mk (blk_below H_1.out b_); have HB2 := Aside0.mk (below_then HB1.out HB1.out.size b_); clear b_ d_ H_1 HB1 k0_1 k1_1 k2_1 k3_1 k4_1 k5_1 k6_1 k7_1 k8_1; obtain ⟨k0_2, k1_2, k2_2, k3_2, k4_2, k5_2, k6_2, k7_2, k8_2⟩ := CELLS.out w2 H_2.out) | (go_at_call 71; (with_reducible refine (impl_within.calls x0 1 3 true _ W0.out).mono ?_); rintro e_ w3 ⟨rfl, d_⟩; have b_ := kept_drawn d_; have H_3 := Aside0.mk (blk_below H_2.out b_); have HB3 := Aside0.mk (below_then HB2.out HB2.out.size b_); clear b_ d_ H_2 HB2 k0_2 k1_2 k2_2 k3_2 k4_2 k5_2 k6_2 k7_2 k8_2; obtain ⟨k0_3, k1_3, k2_3, k3_3, k4_3, k5_3, k6_3, k7_3, k8_3⟩ := CELLS.out w3 H_3.out) | (go_at_call 71; (with_reducible refine (impl_within.calls x1 1 1000 true _ W1.out).mono ?_); rintro e_ w4 ⟨rfl, d_⟩; have b_ := kept_drawn d_; have H_4 := Aside0.mk (blk_below H_3.out b_); have HB4 := Aside0.mk (below_then HB3.out HB3.out.size b_); clear b_ d_ H_3 HB3 k0_3 k1_3 k2_3 k3_3 k4_3 k5_3 k6_3 k7_3 k8_3; obtain ⟨k0_4, k1_4, k2_4, k3_4, k4_4, k5_4, k6_4, k7_4, k8_4⟩ := CELLS.out w4 H_4.out) | (go_at_call 71; (with_reducible refine (impl_within.calls x2 0 4095 true _ W2.out).mono ?_); rintro e_ w5 ⟨rfl, d_⟩; have b_ := kept_drawn d_; have H_5 := Aside0.mk (blk_below H_4.out b_); have HB5 := Aside0.mk (below_then HB4.out HB4.out.size b_); clear b_ d_ H_4 HB4 k0_4 k1_4 k2_4 k3_4 k4_4 k5_4 k6_4 k7_4 k8_4; obtain ⟨k0_5, k1_5, k2_5, k3_5, k4_5, k5_5, k6_5, k7_5, k8_5⟩ := CELLS.out w5 H_5.out) | (go_at_call 71; (with_reducible refine (impl_within.calls x3 0 65535 true _ W3.out).mono ?_); rintro e_ w6 ⟨rfl, d_⟩; have b_ := kept_drawn d_; have H_6 := Aside0.mk (blk_below H_5.out b_); have HB6 := Aside0.mk (below_then HB5.out HB5.out.size b_); clear b_ d_ H_5 HB5 k0_5 k1_5 k2_5 k3_5 k4_5 k5_5 k6_5 k7_5 k8_5; obtain ⟨k0_6, k1_6, k2_6, k3_6, k4_6, k5_6, k6_6, k7_6, k8_6⟩ := CELLS.out w6 H_6.out) | (go_at_call 71; (with_reducible refine (impl_within.calls x4 0 65535 true _ W4.out).mono ?_); rintro e_ w7 ⟨rfl, d_⟩; have b_ := kept_drawn d_; have H_7 := Aside0.mk (blk_below H_6.out b_); have HB7 := Aside0.mk (below_then HB6.out HB6.out.size b_); clear b_ d_ H_6 HB6 k0_6 k1_6 k2_6 k3_6 k4_6 k5_6 k6_6 k7_6 k8_6; obtain ⟨k0_7, k1_7, k2_7, k3_7, k4_7, k5_7, k6_7, k7_7, k8_7⟩ := CELLS.out w7 H_7.out))
                go_ret
                refine ⟨?_, HB7.out⟩
                have e_ : inodeGood a0 = false := by rw [HIN.out, decide_eq_false HZ.out]; unfold inodeOk; rw [R0.out, R1.out, R2.out, R3.out, R4.out, R5.out]; rfl
                rw [← H.out, e_]; rfl
              | true =>
                obtain ⟨b6, hb6⟩ : ∃ b, b = rng x6 1 1099511627776 := ⟨_, rfl⟩
                have R6 := Aside0.mk hb6.symm
                have W6 := Aside0.mk (impl_Inode_right.win x6 1 1099511627776 b6 R6.out)
                clear hb6
                cases b6 with
                | false =>
                  go_enter Try.func52, Try.ntmps52
                  go_wp2_with (first | ((with_reducible refine gate_dst (N := 1) rfl ?_); refine hx_box rfl 1 rfl 42 (.tmp 0) rfl Sz0 (.agg (nums .i64 a0).toArray) (nums .i64 a0).toArray rfl rfl ?_; intro w1 s1 L1 Sz1 b1 g_; have H_1 := Aside0.mk g_; have HB1 := Aside0.mk (below_then HB0.out HB0.out.size b1); clear g_ HB0 b1; obtain ⟨k0_1, k1_1, k2_1, k3_1, k4_1, k5_1, k6_1, k7_1, k8_1⟩ := CELLS.out w1 H_1.out) | ((with_reducible refine gate_dst (N := 4) rfl ?_); refine hx_load rfl 42 (.tmp 1) rfl s0 24 rfl Try.underlying42 rfl (by kernel_rfl) H_1.out (nums_size _ _ _ N_.out) ?_) | ((with_reducible refine gate_dst (N := 6) rfl ?_); refine wpList_eqw rfl (.tmp 4) (.tmp 5) _ rfl eqw42 (by decide) (by kernel_rfl) a0 zz rfl (by rw [ZZ.out]; rfl) N_.out NZ.out ?_; rw [BE.out]) | (go_at_call 71; (with_reducible refine (impl_within.calls x5 1 1000 true _ WP.out).mono ?_); rintro e_ w2 ⟨rfl, d_⟩; have b_ := kept_drawn d_; have H_2 := Aside0.mk (blk_below H_1.out b_); have HB2 := Aside0.mk (below_then HB1.out HB1.out.size b_); clear b_ d_ H_1 HB1 k0_1 k1_1 k2_1 k3_1 k4_1 k5_1 k6_1 k7_1 k8_1; obtain ⟨k0_2, k1_2, k2_2, k3_2, k4_2, k5_2, k6_2, k7_2, k8_2⟩ := CELLS.out w2 H_2.out) | (go_at_call 71; (with_reducible refine (impl_within.calls x0 1 3 true _ W0.out).mono ?_); rintro e_ w3 ⟨rfl, d_⟩; have b_ := kept_drawn d_; have H_3 := Aside0.mk (blk_below H_2.out b_); have HB3 := Aside0.mk (below_then HB2.out HB2.out.size b_); clear b_ d_ H_2 HB2 k0_2 k1_2 k2_2 k3_2 k4_2 k5_2 k6_2 k7_2 k8_2; obtain ⟨k0_3, k1_3, k2_3, k3_3, k4_3, k5_3, k6_3, k7_3, k8_3⟩ := CELLS.out w3 H_3.out) | (go_at_call 71; (with_reducible refine (impl_within.calls x1 1 1000 true _ W1.out).mono ?_); rintro e_ w4 ⟨rfl, d_⟩; have b_ := kept_drawn d_; have H_4 := Aside0.mk (blk_below H_3.out b_); have HB4 := Aside0.mk (below_then HB3.out HB3.out.size b_); clear b_ d_ H_3 HB3 k0_3 k1_3 k2_3 k3_3 k4_3 k5_3 k6_3 k7_3 k8_3; obtain ⟨k0_4, k1_4, k2_4, k3_4, k4_4, k5_4, k6_4, k7_4, k8_4⟩ := CELLS.out w4 H_4.out) | (go_at_call 71; (with_reducible refine (impl_within.calls x2 0 4095 true _ W2.out).mono ?_); rintro e_ w5 ⟨rfl, d_⟩; have b_ := kept_drawn d_; have H_5 := Aside0.mk (blk_below H_4.out b_); have HB5 := Aside0.mk (below_then HB4.out HB4.out.size b_); clear b_ d_ H_4 HB4 k0_4 k1_4 k2_4 k3_4 k4_4 k5_4 k6_4 k7_4 k8_4; obtain ⟨k0_5, k1_5, k2_5, k3_5, k4_5, k5_5, k6_5, k7_5, k8_5⟩ := CELLS.out w5 H_5.out) | (go_at_call 71; (with_reducible refine (impl_within.calls x3 0 65535 true _ W3.out).mono ?_); rintro e_ w6 ⟨rfl, d_⟩; have b_ := kept_drawn d_; have H_6 := Aside0.mk (blk_below H_5.out b_); have HB6 := Aside0.mk (below_then HB5.out HB5.out.size b_); clear b_ d_ H_5 HB5 k0_5 k1_5 k2_5 k3_5 k4_5 k5_5 k6_5 k7_5 k8_5; obtain ⟨k0_6, k1_6, k2_6, k3_6, k4_6, k5_6, k6_6, k7_6, k8_6⟩ := CELLS.out w6 H_6.out) | (go_at_call 71; (with_reducible refine (impl_within.calls x4 0 65535 true _ W4.out).mono ?_); rintro e_ w7 ⟨rfl, d_⟩; have b_ := kept_drawn d_; have H_7 := Aside0.mk (blk_below H_6.out b_); have HB7 := Aside0.mk (below_then HB6.out HB6.out.size b_); clear b_ d_ H_6 HB6 k0_6 k1_6 k2_6 k3_6 k4_6 k5_6 k6_6 k7_6 k8_6; obtain ⟨k0_7, k1_7, k2_7, k3_7, k4_7, k5_7, k6_7, k7_7, k8_7⟩ := CELLS.out w7 H_7.out) | (go_at_call 71; (with_reducible refine (impl_within.calls x6 1 1099511627776 false _ W6.out).mono ?_); rintro e_ w8 ⟨rfl, d_⟩; have b_ := kept_drawn d_; have H_8 := Aside0.mk (blk_below H_7.out b_); have HB8 := Aside0.mk (below_then HB7.out HB7.out.size b_); clear b_ d_ H_7 HB7 k0_7 k1_7 k2_7 k3_7 k4_7 k5_7 k6_7 k7_7 k8_7; obtain ⟨k0_8, k1_8, k2_8, k3_8, k4_8, k5_8, k6_8, k7_8, k8_8⟩ := CELLS.out w8 H_8.out))
                  go_ret
                  refine ⟨?_, HB8.out⟩
                  have e_ : inodeGood a0 = false := by rw [HIN.out, decide_eq_false HZ.out]; unfold inodeOk; rw [R0.out, R1.out, R2.out, R3.out, R4.out, R5.out, R6.out]; rfl
                  rw [← H.out, e_]; rfl
                | true =>
                  obtain ⟨b7, hb7⟩ : ∃ b, b = rng x7 1 1099511627776 := ⟨_, rfl⟩
                  have R7 := Aside0.mk hb7.symm
                  have W7 := Aside0.mk (impl_Inode_right.win x7 1 1099511627776 b7 R7.out)
                  clear hb7
                  cases b7 with
                  | false =>
                    go_enter Try.func52, Try.ntmps52
                    go_wp2_with (first | ((with_reducible refine gate_dst (N := 1) rfl ?_); refine hx_box rfl 1 rfl 42 (.tmp 0) rfl Sz0 (.agg (nums .i64 a0).toArray) (nums .i64 a0).toArray rfl rfl ?_; intro w1 s1 L1 Sz1 b1 g_; have H_1 := Aside0.mk g_; have HB1 := Aside0.mk (below_then HB0.out HB0.out.size b1); clear g_ HB0 b1; obtain ⟨k0_1, k1_1, k2_1, k3_1, k4_1, k5_1, k6_1, k7_1, k8_1⟩ := CELLS.out w1 H_1.out) | ((with_reducible refine gate_dst (N := 4) rfl ?_); refine hx_load rfl 42 (.tmp 1) rfl s0 24 rfl Try.underlying42 rfl (by kernel_rfl) H_1.out (nums_size _ _ _ N_.out) ?_) | ((with_reducible refine gate_dst (N := 6) rfl ?_); refine wpList_eqw rfl (.tmp 4) (.tmp 5) _ rfl eqw42 (by decide) (by kernel_rfl) a0 zz rfl (by rw [ZZ.out]; rfl) N_.out NZ.out ?_; rw [BE.out]) | (go_at_call 71; (with_reducible refine (impl_within.calls x5 1 1000 true _ WP.out).mono ?_); rintro e_ w2 ⟨rfl, d_⟩; have b_ := kept_drawn d_; have H_2 := Aside0.mk (blk_below H_1.out b_); have HB2 := Aside0.mk (below_then HB1.out HB1.out.size b_); clear b_ d_ H_1 HB1 k0_1 k1_1 k2_1 k3_1 k4_1 k5_1 k6_1 k7_1 k8_1; obtain ⟨k0_2, k1_2, k2_2, k3_2, k4_2, k5_2, k6_2, k7_2, k8_2⟩ := CELLS.out w2 H_2.out) | (go_at_call 71; (with_reducible refine (impl_within.calls x0 1 3 true _ W0.out).mono ?_); rintro e_ w3 ⟨rfl, d_⟩; have b_ := kept_drawn d_; have H_3 := Aside0.mk (blk_below H_2.out b_); have HB3 := Aside0.mk (below_then HB2.out HB2.out.size b_); clear b_ d_ H_2 HB2 k0_2 k1_2 k2_2 k3_2 k4_2 k5_2 k6_2 k7_2 k8_2; obtain ⟨k0_3, k1_3, k2_3, k3_3, k4_3, k5_3, k6_3, k7_3, k8_3⟩ := CELLS.out w3 H_3.out) | (go_at_call 71; (with_reducible refine (impl_within.calls x1 1 1000 true _ W1.out).mono ?_); rintro e_ w4 ⟨rfl, d_⟩; have b_ := kept_drawn d_; have H_4 := Aside0.mk (blk_below H_3.out b_); have HB4 := Aside0.mk (below_then HB3.out HB3.out.size b_); clear b_ d_ H_3 HB3 k0_3 k1_3 k2_3 k3_3 k4_3 k5_3 k6_3 k7_3 k8_3; obtain ⟨k0_4, k1_4, k2_4, k3_4, k4_4, k5_4, k6_4, k7_4, k8_4⟩ := CELLS.out w4 H_4.out) | (go_at_call 71; (with_reducible refine (impl_within.calls x2 0 4095 true _ W2.out).mono ?_); rintro e_ w5 ⟨rfl, d_⟩; have b_ := kept_drawn d_; have H_5 := Aside0.mk (blk_below H_4.out b_); have HB5 := Aside0.mk (below_then HB4.out HB4.out.size b_); clear b_ d_ H_4 HB4 k0_4 k1_4 k2_4 k3_4 k4_4 k5_4 k6_4 k7_4 k8_4; obtain ⟨k0_5, k1_5, k2_5, k3_5, k4_5, k5_5, k6_5, k7_5, k8_5⟩ := CELLS.out w5 H_5.out) | (go_at_call 71; (with_reducible refine (impl_within.calls x3 0 65535 true _ W3.out).mono ?_); rintro e_ w6 ⟨rfl, d_⟩; have b_ := kept_drawn d_; have H_6 := Aside0.mk (blk_below H_5.out b_); have HB6 := Aside0.mk (below_then HB5.out HB5.out.size b_); clear b_ d_ H_5 HB5 k0_5 k1_5 k2_5 k3_5 k4_5 k5_5 k6_5 k7_5 k8_5; obtain ⟨k0_6, k1_6, k2_6, k3_6, k4_6, k5_6, k6_6, k7_6, k8_6⟩ := CELLS.out w6 H_6.out) | (go_at_call 71; (with_reducible refine (impl_within.calls x4 0 65535 true _ W4.out).mono ?_); rintro e_ w7 ⟨rfl, d_⟩; have b_ := kept_drawn d_; have H_7 := Aside0.mk (blk_below H_6.out b_); have HB7 := Aside0.mk (below_then HB6.out HB6.out.size b_); clear b_ d_ H_6 HB6 k0_6 k1_6 k2_6 k3_6 k4_6 k5_6 k6_6 k7_6 k8_6; obtain ⟨k0_7, k1_7, k2_7, k3_7, k4_7, k5_7, k6_7, k7_7, k8_7⟩ := CELLS.out w7 H_7.out) | (go_at_call 71; (with_reducible refine (impl_within.calls x6 1 1099511627776 true _ W6.out).mono ?_); rintro e_ w8 ⟨rfl, d_⟩; have b_ := kept_drawn d_; have H_8 := Aside0.mk (blk_below H_7.out b_); have HB8 := Aside0.mk (below_then HB7.out HB7.out.size b_); clear b_ d_ H_7 HB7 k0_7 k1_7 k2_7 k3_7 k4_7 k5_7 k6_7 k7_7 k8_7; obtain ⟨k0_8, k1_8, k2_8, k3_8, k4_8, k5_8, k6_8, k7_8, k8_8⟩ := CELLS.out w8 H_8.out) | (go_at_call 71; (with_reducible refine (impl_within.calls x7 1 1099511627776 false _ W7.out).mono ?_); rintro e_ w9 ⟨rfl, d_⟩; have b_ := kept_drawn d_; have H_9 := Aside0.mk (blk_below H_8.out b_); have HB9 := Aside0.mk (below_then HB8.out HB8.out.size b_); clear b_ d_ H_8 HB8 k0_8 k1_8 k2_8 k3_8 k4_8 k5_8 k6_8 k7_8 k8_8; obtain ⟨k0_9, k1_9, k2_9, k3_9, k4_9, k5_9, k6_9, k7_9, k8_9⟩ := CELLS.out w9 H_9.out))
                    go_ret
                    refine ⟨?_, HB9.out⟩
                    have e_ : inodeGood a0 = false := by rw [HIN.out, decide_eq_false HZ.out]; unfold inodeOk; rw [R0.out, R1.out, R2.out, R3.out, R4.out, R5.out, R6.out, R7.out]; rfl
                    rw [← H.out, e_]; rfl
                  | true =>
                    obtain ⟨b8, hb8⟩ : ∃ b, b = rng x8 1 1099511627776 := ⟨_, rfl⟩
                    have R8 := Aside0.mk hb8.symm
                    have W8 := Aside0.mk (impl_Inode_right.win x8 1 1099511627776 b8 R8.out)
                    clear hb8
                    cases b8 with
                    | false =>
                      go_enter Try.func52, Try.ntmps52
                      go_wp2_with (first | ((with_reducible refine gate_dst (N := 1) rfl ?_); refine hx_box rfl 1 rfl 42 (.tmp 0) rfl Sz0 (.agg (nums .i64 a0).toArray) (nums .i64 a0).toArray rfl rfl ?_; intro w1 s1 L1 Sz1 b1 g_; have H_1 := Aside0.mk g_; have HB1 := Aside0.mk (below_then HB0.out HB0.out.size b1); clear g_ HB0 b1; obtain ⟨k0_1, k1_1, k2_1, k3_1, k4_1, k5_1, k6_1, k7_1, k8_1⟩ := CELLS.out w1 H_1.out) | ((with_reducible refine gate_dst (N := 4) rfl ?_); refine hx_load rfl 42 (.tmp 1) rfl s0 24 rfl Try.underlying42 rfl (by kernel_rfl) H_1.out (nums_size _ _ _ N_.out) ?_) | ((with_reducible refine gate_dst (N := 6) rfl ?_); refine wpList_eqw rfl (.tmp 4) (.tmp 5) _ rfl eqw42 (by decide) (by kernel_rfl) a0 zz rfl (by rw [ZZ.out]; rfl) N_.out NZ.out ?_; rw [BE.out]) | (go_at_call 71; (with_reducible refine (impl_within.calls x5 1 1000 true _ WP.out).mono ?_); rintro e_ w2 ⟨rfl, d_⟩; have b_ := kept_drawn d_; have H_2 := Aside0.mk (blk_below H_1.out b_); have HB2 := Aside0.mk (below_then HB1.out HB1.out.size b_); clear b_ d_ H_1 HB1 k0_1 k1_1 k2_1 k3_1 k4_1 k5_1 k6_1 k7_1 k8_1; obtain ⟨k0_2, k1_2, k2_2, k3_2, k4_2, k5_2, k6_2, k7_2, k8_2⟩ := CELLS.out w2 H_2.out) | (go_at_call 71; (with_reducible refine (impl_within.calls x0 1 3 true _ W0.out).mono ?_); rintro e_ w3 ⟨rfl, d_⟩; have b_ := kept_drawn d_; have H_3 := Aside0.mk (blk_below H_2.out b_); have HB3 := Aside0.mk (below_then HB2.out HB2.out.size b_); clear b_ d_ H_2 HB2 k0_2 k1_2 k2_2 k3_2 k4_2 k5_2 k6_2 k7_2 k8_2; obtain ⟨k0_3, k1_3, k2_3, k3_3, k4_3, k5_3, k6_3, k7_3, k8_3⟩ := CELLS.out w3 H_3.out) | (go_at_call 71; (with_reducible refine (impl_within.calls x1 1 1000 true _ W1.out).mono ?_); rintro e_ w4 ⟨rfl, d_⟩; have b_ := kept_drawn d_; have H_4 := Aside0.mk (blk_below H_3.out b_); have HB4 := Aside0.mk (below_then HB3.out HB3.out.size b_); clear b_ d_ H_3 HB3 k0_3 k1_3 k2_3 k3_3 k4_3 k5_3 k6_3 k7_3 k8_3; obtain ⟨k0_4, k1_4, k2_4, k3_4, k4_4, k5_4, k6_4, k7_4, k8_4⟩ := CELLS.out w4 H_4.out) | (go_at_call 71; (with_reducible refine (impl_within.calls x2 0 4095 true _ W2.out).mono ?_); rintro e_ w5 ⟨rfl, d_⟩; have b_ := kept_drawn d_; have H_5 := Aside0.mk (blk_below H_4.out b_); have HB5 := Aside0.mk (below_then HB4.out HB4.out.size b_); clear b_ d_ H_4 HB4 k0_4 k1_4 k2_4 k3_4 k4_4 k5_4 k6_4 k7_4 k8_4; obtain ⟨k0_5, k1_5, k2_5, k3_5, k4_5, k5_5, k6_5, k7_5, k8_5⟩ := CELLS.out w5 H_5.out) | (go_at_call 71; (with_reducible refine (impl_within.calls x3 0 65535 true _ W3.out).mono ?_); rintro e_ w6 ⟨rfl, d_⟩; have b_ := kept_drawn d_; have H_6 := Aside0.mk (blk_below H_5.out b_); have HB6 := Aside0.mk (below_then HB5.out HB5.out.size b_); clear b_ d_ H_5 HB5 k0_5 k1_5 k2_5 k3_5 k4_5 k5_5 k6_5 k7_5 k8_5; obtain ⟨k0_6, k1_6, k2_6, k3_6, k4_6, k5_6, k6_6, k7_6, k8_6⟩ := CELLS.out w6 H_6.out) | (go_at_call 71; (with_reducible refine (impl_within.calls x4 0 65535 true _ W4.out).mono ?_); rintro e_ w7 ⟨rfl, d_⟩; have b_ := kept_drawn d_; have H_7 := Aside0.mk (blk_below H_6.out b_); have HB7 := Aside0.mk (below_then HB6.out HB6.out.size b_); clear b_ d_ H_6 HB6 k0_6 k1_6 k2_6 k3_6 k4_6 k5_6 k6_6 k7_6 k8_6; obtain ⟨k0_7, k1_7, k2_7, k3_7, k4_7, k5_7, k6_7, k7_7, k8_7⟩ := CELLS.out w7 H_7.out) | (go_at_call 71; (with_reducible refine (impl_within.calls x6 1 1099511627776 true _ W6.out).mono ?_); rintro e_ w8 ⟨rfl, d_⟩; have b_ := kept_drawn d_; have H_8 := Aside0.mk (blk_below H_7.out b_); have HB8 := Aside0.mk (below_then HB7.out HB7.out.size b_); clear b_ d_ H_7 HB7 k0_7 k1_7 k2_7 k3_7 k4_7 k5_7 k6_7 k7_7 k8_7; obtain ⟨k0_8, k1_8, k2_8, k3_8, k4_8, k5_8, k6_8, k7_8, k8_8⟩ := CELLS.out w8 H_8.out) | (go_at_call 71; (with_reducible refine (impl_within.calls x7 1 1099511627776 true _ W7.out).mono ?_); rintro e_ w9 ⟨rfl, d_⟩; have b_ := kept_drawn d_; have H_9 := Aside0.mk (blk_below H_8.out b_); have HB9 := Aside0.mk (below_then HB8.out HB8.out.size b_); clear b_ d_ H_8 HB8 k0_8 k1_8 k2_8 k3_8 k4_8 k5_8 k6_8 k7_8 k8_8; obtain ⟨k0_9, k1_9, k2_9, k3_9, k4_9, k5_9, k6_9, k7_9, k8_9⟩ := CELLS.out w9 H_9.out) | (go_at_call 71; (with_reducible refine (impl_within.calls x8 1 1099511627776 false _ W8.out).mono ?_); rintro e_ w10 ⟨rfl, d_⟩; have b_ := kept_drawn d_; have H_10 := Aside0.mk (blk_below H_9.out b_); have HB10 := Aside0.mk (below_then HB9.out HB9.out.size b_); clear b_ d_ H_9 HB9 k0_9 k1_9 k2_9 k3_9 k4_9 k5_9 k6_9 k7_9 k8_9; obtain ⟨k0_10, k1_10, k2_10, k3_10, k4_10, k5_10, k6_10, k7_10, k8_10⟩ := CELLS.out w10 H_10.out; obtain ⟨q0, q1, q2, q3, q4, q5, q6, q7, q8, q9, q10, q11, q12, q13, q14⟩ := CELLR.out w10 H_10.out))
                      go_ret
                      refine ⟨?_, HB10.out⟩
                      have e_ : inodeGood a0 = false := by rw [HIN.out, decide_eq_false HZ.out]; unfold inodeOk; rw [R0.out, R1.out, R2.out, R3.out, R4.out, R5.out, R6.out, R7.out, R8.out]; rfl
                      rw [← H.out, e_]; rfl
                    | true =>
                      obtain ⟨b9, hb9⟩ : ∃ b, b = rootGood xr := ⟨_, rfl⟩
                      have R9 := Aside0.mk hb9.symm
                      have WR := Aside0.mk (show impl_Root_right.f xr = some b9 by rw [← R9.out]; rfl)
                      clear hb9
                      cases b9 with
                      | false =>
                        have RC : Aside0 (∀ W : World, Calls Try.prog 44 #[.agg #[.int .i64 y0, .int .i64 y1, .int .i64 y2, .int .i64 y3, .int .i64 y4, .int .i64 y5, .int .i64 y6, .int .i64 y7, .int .i64 y8, .int .i64 y9, .int .i64 y10, .int .i64 y11, .int .i64 y12, .int .i64 y13, .int .i64 y14]] W fun e w' => e = .returned (.bool false) ∧ Below W.heap.size W w') := ⟨fun W => by have h_ := impl_Root_right.calls xr NR.out false W WR.out; rw [XY.out] at h_; exact h_⟩
                        go_enter Try.func52, Try.ntmps52
                        go_wp2_with (first | ((with_reducible refine gate_dst (N := 1) rfl ?_); refine hx_box rfl 1 rfl 42 (.tmp 0) rfl Sz0 (.agg (nums .i64 a0).toArray) (nums .i64 a0).toArray rfl rfl ?_; intro w1 s1 L1 Sz1 b1 g_; have H_1 := Aside0.mk g_; have HB1 := Aside0.mk (below_then HB0.out HB0.out.size b1); clear g_ HB0 b1; obtain ⟨k0_1, k1_1, k2_1, k3_1, k4_1, k5_1, k6_1, k7_1, k8_1⟩ := CELLS.out w1 H_1.out) | ((with_reducible refine gate_dst (N := 4) rfl ?_); refine hx_load rfl 42 (.tmp 1) rfl s0 24 rfl Try.underlying42 rfl (by kernel_rfl) H_1.out (nums_size _ _ _ N_.out) ?_) | ((with_reducible refine gate_dst (N := 6) rfl ?_); refine wpList_eqw rfl (.tmp 4) (.tmp 5) _ rfl eqw42 (by decide) (by kernel_rfl) a0 zz rfl (by rw [ZZ.out]; rfl) N_.out NZ.out ?_; rw [BE.out]) | (go_at_call 71; (with_reducible refine (impl_within.calls x5 1 1000 true _ WP.out).mono ?_); rintro e_ w2 ⟨rfl, d_⟩; have b_ := kept_drawn d_; have H_2 := Aside0.mk (blk_below H_1.out b_); have HB2 := Aside0.mk (below_then HB1.out HB1.out.size b_); clear b_ d_ H_1 HB1 k0_1 k1_1 k2_1 k3_1 k4_1 k5_1 k6_1 k7_1 k8_1; obtain ⟨k0_2, k1_2, k2_2, k3_2, k4_2, k5_2, k6_2, k7_2, k8_2⟩ := CELLS.out w2 H_2.out) | (go_at_call 71; (with_reducible refine (impl_within.calls x0 1 3 true _ W0.out).mono ?_); rintro e_ w3 ⟨rfl, d_⟩; have b_ := kept_drawn d_; have H_3 := Aside0.mk (blk_below H_2.out b_); have HB3 := Aside0.mk (below_then HB2.out HB2.out.size b_); clear b_ d_ H_2 HB2 k0_2 k1_2 k2_2 k3_2 k4_2 k5_2 k6_2 k7_2 k8_2; obtain ⟨k0_3, k1_3, k2_3, k3_3, k4_3, k5_3, k6_3, k7_3, k8_3⟩ := CELLS.out w3 H_3.out) | (go_at_call 71; (with_reducible refine (impl_within.calls x1 1 1000 true _ W1.out).mono ?_); rintro e_ w4 ⟨rfl, d_⟩; have b_ := kept_drawn d_; have H_4 := Aside0.mk (blk_below H_3.out b_); have HB4 := Aside0.mk (below_then HB3.out HB3.out.size b_); clear b_ d_ H_3 HB3 k0_3 k1_3 k2_3 k3_3 k4_3 k5_3 k6_3 k7_3 k8_3; obtain ⟨k0_4, k1_4, k2_4, k3_4, k4_4, k5_4, k6_4, k7_4, k8_4⟩ := CELLS.out w4 H_4.out) | (go_at_call 71; (with_reducible refine (impl_within.calls x2 0 4095 true _ W2.out).mono ?_); rintro e_ w5 ⟨rfl, d_⟩; have b_ := kept_drawn d_; have H_5 := Aside0.mk (blk_below H_4.out b_); have HB5 := Aside0.mk (below_then HB4.out HB4.out.size b_); clear b_ d_ H_4 HB4 k0_4 k1_4 k2_4 k3_4 k4_4 k5_4 k6_4 k7_4 k8_4; obtain ⟨k0_5, k1_5, k2_5, k3_5, k4_5, k5_5, k6_5, k7_5, k8_5⟩ := CELLS.out w5 H_5.out) | (go_at_call 71; (with_reducible refine (impl_within.calls x3 0 65535 true _ W3.out).mono ?_); rintro e_ w6 ⟨rfl, d_⟩; have b_ := kept_drawn d_; have H_6 := Aside0.mk (blk_below H_5.out b_); have HB6 := Aside0.mk (below_then HB5.out HB5.out.size b_); clear b_ d_ H_5 HB5 k0_5 k1_5 k2_5 k3_5 k4_5 k5_5 k6_5 k7_5 k8_5; obtain ⟨k0_6, k1_6, k2_6, k3_6, k4_6, k5_6, k6_6, k7_6, k8_6⟩ := CELLS.out w6 H_6.out) | (go_at_call 71; (with_reducible refine (impl_within.calls x4 0 65535 true _ W4.out).mono ?_); rintro e_ w7 ⟨rfl, d_⟩; have b_ := kept_drawn d_; have H_7 := Aside0.mk (blk_below H_6.out b_); have HB7 := Aside0.mk (below_then HB6.out HB6.out.size b_); clear b_ d_ H_6 HB6 k0_6 k1_6 k2_6 k3_6 k4_6 k5_6 k6_6 k7_6 k8_6; obtain ⟨k0_7, k1_7, k2_7, k3_7, k4_7, k5_7, k6_7, k7_7, k8_7⟩ := CELLS.out w7 H_7.out) | (go_at_call 71; (with_reducible refine (impl_within.calls x6 1 1099511627776 true _ W6.out).mono ?_); rintro e_ w8 ⟨rfl, d_⟩; have b_ := kept_drawn d_; have H_8 := Aside0.mk (blk_below H_7.out b_); have HB8 := Aside0.mk (below_then HB7.out HB7.out.size b_); clear b_ d_ H_7 HB7 k0_7 k1_7 k2_7 k3_7 k4_7 k5_7 k6_7 k7_7 k8_7; obtain ⟨k0_8, k1_8, k2_8, k3_8, k4_8, k5_8, k6_8, k7_8, k8_8⟩ := CELLS.out w8 H_8.out) | (go_at_call 71; (with_reducible refine (impl_within.calls x7 1 1099511627776 true _ W7.out).mono ?_); rintro e_ w9 ⟨rfl, d_⟩; have b_ := kept_drawn d_; have H_9 := Aside0.mk (blk_below H_8.out b_); have HB9 := Aside0.mk (below_then HB8.out HB8.out.size b_); clear b_ d_ H_8 HB8 k0_8 k1_8 k2_8 k3_8 k4_8 k5_8 k6_8 k7_8 k8_8; obtain ⟨k0_9, k1_9, k2_9, k3_9, k4_9, k5_9, k6_9, k7_9, k8_9⟩ := CELLS.out w9 H_9.out) | (go_at_call 71; (with_reducible refine (impl_within.calls x8 1 1099511627776 true _ W8.out).mono ?_); rintro e_ w10 ⟨rfl, d_⟩; have b_ := kept_drawn d_; have H_10 := Aside0.mk (blk_below H_9.out b_); have HB10 := Aside0.mk (below_then HB9.out HB9.out.size b_); clear b_ d_ H_9 HB9 k0_9 k1_9 k2_9 k3_9 k4_9 k5_9 k6_9 k7_9 k8_9; obtain ⟨k0_10, k1_10, k2_10, k3_10, k4_10, k5_10, k6_10, k7_10, k8_10⟩ := CELLS.out w10 H_10.out; obtain ⟨q0, q1, q2, q3, q4, q5, q6, q7, q8, q9, q10, q11, q12, q13, q14⟩ := CELLR.out w10 H_10.out) | (go_at_call 44; (with_reducible refine (RC.out w10).mono ?_); rintro e_ w11 ⟨rfl, d_⟩; have b_ := d_; have H_11 := Aside0.mk (blk_below H_10.out b_); have HB11 := Aside0.mk (below_then HB10.out HB10.out.size b_); clear b_ d_ H_10 HB10 k0_10 k1_10 k2_10 k3_10 k4_10 k5_10 k6_10 k7_10 k8_10; obtain ⟨k0_11, k1_11, k2_11, k3_11, k4_11, k5_11, k6_11, k7_11, k8_11⟩ := CELLS.out w11 H_11.out))
                        go_ret
                        refine ⟨?_, HB11.out⟩
                        have e_ : inodeGood a0 = false := by rw [HIN.out, decide_eq_false HZ.out]; unfold inodeOk; rw [R0.out, R1.out, R2.out, R3.out, R4.out, R5.out, R6.out, R7.out, R8.out, R9.out]; rfl
                        rw [← H.out, e_]; rfl
                      | true =>
                        have RC : Aside0 (∀ W : World, Calls Try.prog 44 #[.agg #[.int .i64 y0, .int .i64 y1, .int .i64 y2, .int .i64 y3, .int .i64 y4, .int .i64 y5, .int .i64 y6, .int .i64 y7, .int .i64 y8, .int .i64 y9, .int .i64 y10, .int .i64 y11, .int .i64 y12, .int .i64 y13, .int .i64 y14]] W fun e w' => e = .returned (.bool true) ∧ Below W.heap.size W w') := ⟨fun W => by have h_ := impl_Root_right.calls xr NR.out true W WR.out; rw [XY.out] at h_; exact h_⟩
                        go_enter Try.func52, Try.ntmps52
                        go_wp2_with (first | ((with_reducible refine gate_dst (N := 1) rfl ?_); refine hx_box rfl 1 rfl 42 (.tmp 0) rfl Sz0 (.agg (nums .i64 a0).toArray) (nums .i64 a0).toArray rfl rfl ?_; intro w1 s1 L1 Sz1 b1 g_; have H_1 := Aside0.mk g_; have HB1 := Aside0.mk (below_then HB0.out HB0.out.size b1); clear g_ HB0 b1; obtain ⟨k0_1, k1_1, k2_1, k3_1, k4_1, k5_1, k6_1, k7_1, k8_1⟩ := CELLS.out w1 H_1.out) | ((with_reducible refine gate_dst (N := 4) rfl ?_); refine hx_load rfl 42 (.tmp 1) rfl s0 24 rfl Try.underlying42 rfl (by kernel_rfl) H_1.out (nums_size _ _ _ N_.out) ?_) | ((with_reducible refine gate_dst (N := 6) rfl ?_); refine wpList_eqw rfl (.tmp 4) (.tmp 5) _ rfl eqw42 (by decide) (by kernel_rfl) a0 zz rfl (by rw [ZZ.out]; rfl) N_.out NZ.out ?_; rw [BE.out]) | (go_at_call 71; (with_reducible refine (impl_within.calls x5 1 1000 true _ WP.out).mono ?_); rintro e_ w2 ⟨rfl, d_⟩; have b_ := kept_drawn d_; have H_2 := Aside0.mk (blk_below H_1.out b_); have HB2 := Aside0.mk (below_then HB1.out HB1.out.size b_); clear b_ d_ H_1 HB1 k0_1 k1_1 k2_1 k3_1 k4_1 k5_1 k6_1 k7_1 k8_1; obtain ⟨k0_2, k1_2, k2_2, k3_2, k4_2, k5_2, k6_2, k7_2, k8_2⟩ := CELLS.out w2 H_2.out) | (go_at_call 71; (with_reducible refine (impl_within.calls x0 1 3 true _ W0.out).mono ?_); rintro e_ w3 ⟨rfl, d_⟩; have b_ := kept_drawn d_; have H_3 := Aside0.mk (blk_below H_2.out b_); have HB3 := Aside0.mk (below_then HB2.out HB2.out.size b_); clear b_ d_ H_2 HB2 k0_2 k1_2 k2_2 k3_2 k4_2 k5_2 k6_2 k7_2 k8_2; obtain ⟨k0_3, k1_3, k2_3, k3_3, k4_3, k5_3, k6_3, k7_3, k8_3⟩ := CELLS.out w3 H_3.out) | (go_at_call 71; (with_reducible refine (impl_within.calls x1 1 1000 true _ W1.out).mono ?_); rintro e_ w4 ⟨rfl, d_⟩; have b_ := kept_drawn d_; have H_4 := Aside0.mk (blk_below H_3.out b_); have HB4 := Aside0.mk (below_then HB3.out HB3.out.size b_); clear b_ d_ H_3 HB3 k0_3 k1_3 k2_3 k3_3 k4_3 k5_3 k6_3 k7_3 k8_3; obtain ⟨k0_4, k1_4, k2_4, k3_4, k4_4, k5_4, k6_4, k7_4, k8_4⟩ := CELLS.out w4 H_4.out) | (go_at_call 71; (with_reducible refine (impl_within.calls x2 0 4095 true _ W2.out).mono ?_); rintro e_ w5 ⟨rfl, d_⟩; have b_ := kept_drawn d_; have H_5 := Aside0.mk (blk_below H_4.out b_); have HB5 := Aside0.mk (below_then HB4.out HB4.out.size b_); clear b_ d_ H_4 HB4 k0_4 k1_4 k2_4 k3_4 k4_4 k5_4 k6_4 k7_4 k8_4; obtain ⟨k0_5, k1_5, k2_5, k3_5, k4_5, k5_5, k6_5, k7_5, k8_5⟩ := CELLS.out w5 H_5.out) | (go_at_call 71; (with_reducible refine (impl_within.calls x3 0 65535 true _ W3.out).mono ?_); rintro e_ w6 ⟨rfl, d_⟩; have b_ := kept_drawn d_; have H_6 := Aside0.mk (blk_below H_5.out b_); have HB6 := Aside0.mk (below_then HB5.out HB5.out.size b_); clear b_ d_ H_5 HB5 k0_5 k1_5 k2_5 k3_5 k4_5 k5_5 k6_5 k7_5 k8_5; obtain ⟨k0_6, k1_6, k2_6, k3_6, k4_6, k5_6, k6_6, k7_6, k8_6⟩ := CELLS.out w6 H_6.out) | (go_at_call 71; (with_reducible refine (impl_within.calls x4 0 65535 true _ W4.out).mono ?_); rintro e_ w7 ⟨rfl, d_⟩; have b_ := kept_drawn d_; have H_7 := Aside0.mk (blk_below H_6.out b_); have HB7 := Aside0.mk (below_then HB6.out HB6.out.size b_); clear b_ d_ H_6 HB6 k0_6 k1_6 k2_6 k3_6 k4_6 k5_6 k6_6 k7_6 k8_6; obtain ⟨k0_7, k1_7, k2_7, k3_7, k4_7, k5_7, k6_7, k7_7, k8_7⟩ := CELLS.out w7 H_7.out) | (go_at_call 71; (with_reducible refine (impl_within.calls x6 1 1099511627776 true _ W6.out).mono ?_); rintro e_ w8 ⟨rfl, d_⟩; have b_ := kept_drawn d_; have H_8 := Aside0.mk (blk_below H_7.out b_); have HB8 := Aside0.mk (below_then HB7.out HB7.out.size b_); clear b_ d_ H_7 HB7 k0_7 k1_7 k2_7 k3_7 k4_7 k5_7 k6_7 k7_7 k8_7; obtain ⟨k0_8, k1_8, k2_8, k3_8, k4_8, k5_8, k6_8, k7_8, k8_8⟩ := CELLS.out w8 H_8.out) | (go_at_call 71; (with_reducible refine (impl_within.calls x7 1 1099511627776 true _ W7.out).mono ?_); rintro e_ w9 ⟨rfl, d_⟩; have b_ := kept_drawn d_; have H_9 := Aside0.mk (blk_below H_8.out b_); have HB9 := Aside0.mk (below_then HB8.out HB8.out.size b_); clear b_ d_ H_8 HB8 k0_8 k1_8 k2_8 k3_8 k4_8 k5_8 k6_8 k7_8 k8_8; obtain ⟨k0_9, k1_9, k2_9, k3_9, k4_9, k5_9, k6_9, k7_9, k8_9⟩ := CELLS.out w9 H_9.out) | (go_at_call 71; (with_reducible refine (impl_within.calls x8 1 1099511627776 true _ W8.out).mono ?_); rintro e_ w10 ⟨rfl, d_⟩; have b_ := kept_drawn d_; have H_10 := Aside0.mk (blk_below H_9.out b_); have HB10 := Aside0.mk (below_then HB9.out HB9.out.size b_); clear b_ d_ H_9 HB9 k0_9 k1_9 k2_9 k3_9 k4_9 k5_9 k6_9 k7_9 k8_9; obtain ⟨k0_10, k1_10, k2_10, k3_10, k4_10, k5_10, k6_10, k7_10, k8_10⟩ := CELLS.out w10 H_10.out; obtain ⟨q0, q1, q2, q3, q4, q5, q6, q7, q8, q9, q10, q11, q12, q13, q14⟩ := CELLR.out w10 H_10.out) | (go_at_call 44; (with_reducible refine (RC.out w10).mono ?_); rintro e_ w11 ⟨rfl, d_⟩; have b_ := d_; have H_11 := Aside0.mk (blk_below H_10.out b_); have HB11 := Aside0.mk (below_then HB10.out HB10.out.size b_); clear b_ d_ H_10 HB10 k0_10 k1_10 k2_10 k3_10 k4_10 k5_10 k6_10 k7_10 k8_10; obtain ⟨k0_11, k1_11, k2_11, k3_11, k4_11, k5_11, k6_11, k7_11, k8_11⟩ := CELLS.out w11 H_11.out))
                        go_ret
                        refine ⟨?_, HB11.out⟩
                        have e_ : inodeGood a0 = true := by rw [HIN.out, decide_eq_false HZ.out]; unfold inodeOk; rw [R0.out, R1.out, R2.out, R3.out, R4.out, R5.out, R6.out, R7.out, R8.out, R9.out]; rfl
                        rw [← H.out, e_]; rfl
  · have hkb : (x0 == 2) = false := beq_eq_false_iff_ne.mpr hk
    obtain ⟨pb, hpb⟩ : ∃ b, b = (x5 == 0) := ⟨_, rfl⟩
    have hpo : parentOk x0 x5 = pb := by unfold parentOk; rw [if_neg hk, hpb]; rfl
    have hpb' := hpb.symm
    clear hk hpb
    obtain ⟨b0, hb0⟩ : ∃ b, b = rng x0 1 3 := ⟨_, rfl⟩
    have R0 := Aside0.mk hb0.symm
    have W0 := Aside0.mk (impl_Inode_right.win x0 1 3 b0 R0.out)
    clear hb0
    cases b0 with
    | false =>
      go_enter Try.func52, Try.ntmps52
      go_wp2_with (first | ((with_reducible refine gate_dst (N := 1) rfl ?_); refine hx_box rfl 1 rfl 42 (.tmp 0) rfl Sz0 (.agg (nums .i64 a0).toArray) (nums .i64 a0).toArray rfl rfl ?_; intro w1 s1 L1 Sz1 b1 g_; have H_1 := Aside0.mk g_; have HB1 := Aside0.mk (below_then HB0.out HB0.out.size b1); clear g_ HB0 b1; obtain ⟨k0_1, k1_1, k2_1, k3_1, k4_1, k5_1, k6_1, k7_1, k8_1⟩ := CELLS.out w1 H_1.out) | ((with_reducible refine gate_dst (N := 4) rfl ?_); refine hx_load rfl 42 (.tmp 1) rfl s0 24 rfl Try.underlying42 rfl (by kernel_rfl) H_1.out (nums_size _ _ _ N_.out) ?_) | ((with_reducible refine gate_dst (N := 6) rfl ?_); refine wpList_eqw rfl (.tmp 4) (.tmp 5) _ rfl eqw42 (by decide) (by kernel_rfl) a0 zz rfl (by rw [ZZ.out]; rfl) N_.out NZ.out ?_; rw [BE.out]) | (go_at_call 71; (with_reducible refine (impl_within.calls x0 1 3 false _ W0.out).mono ?_); rintro e_ w2 ⟨rfl, d_⟩; have b_ := kept_drawn d_; have H_2 := Aside0.mk (blk_below H_1.out b_); have HB2 := Aside0.mk (below_then HB1.out HB1.out.size b_); clear b_ d_ H_1 HB1 k0_1 k1_1 k2_1 k3_1 k4_1 k5_1 k6_1 k7_1 k8_1; obtain ⟨k0_2, k1_2, k2_2, k3_2, k4_2, k5_2, k6_2, k7_2, k8_2⟩ := CELLS.out w2 H_2.out))
      go_ret
      refine ⟨?_, HB2.out⟩
      have e_ : inodeGood a0 = false := by rw [HIN.out, decide_eq_false HZ.out]; unfold inodeOk; rw [R0.out]; rfl
      rw [← H.out, e_]; rfl
    | true =>
      obtain ⟨b1, hb1⟩ : ∃ b, b = rng x1 1 1000 := ⟨_, rfl⟩
      have R1 := Aside0.mk hb1.symm
      have W1 := Aside0.mk (impl_Inode_right.win x1 1 1000 b1 R1.out)
      clear hb1
      cases b1 with
      | false =>
        go_enter Try.func52, Try.ntmps52
        go_wp2_with (first | ((with_reducible refine gate_dst (N := 1) rfl ?_); refine hx_box rfl 1 rfl 42 (.tmp 0) rfl Sz0 (.agg (nums .i64 a0).toArray) (nums .i64 a0).toArray rfl rfl ?_; intro w1 s1 L1 Sz1 b1 g_; have H_1 := Aside0.mk g_; have HB1 := Aside0.mk (below_then HB0.out HB0.out.size b1); clear g_ HB0 b1; obtain ⟨k0_1, k1_1, k2_1, k3_1, k4_1, k5_1, k6_1, k7_1, k8_1⟩ := CELLS.out w1 H_1.out) | ((with_reducible refine gate_dst (N := 4) rfl ?_); refine hx_load rfl 42 (.tmp 1) rfl s0 24 rfl Try.underlying42 rfl (by kernel_rfl) H_1.out (nums_size _ _ _ N_.out) ?_) | ((with_reducible refine gate_dst (N := 6) rfl ?_); refine wpList_eqw rfl (.tmp 4) (.tmp 5) _ rfl eqw42 (by decide) (by kernel_rfl) a0 zz rfl (by rw [ZZ.out]; rfl) N_.out NZ.out ?_; rw [BE.out]) | (go_at_call 71; (with_reducible refine (impl_within.calls x0 1 3 true _ W0.out).mono ?_); rintro e_ w2 ⟨rfl, d_⟩; have b_ := kept_drawn d_; have H_2 := Aside0.mk (blk_below H_1.out b_); have HB2 := Aside0.mk (below_then HB1.out HB1.out.size b_); clear b_ d_ H_1 HB1 k0_1 k1_1 k2_1 k3_1 k4_1 k5_1 k6_1 k7_1 k8_1; obtain ⟨k0_2, k1_2, k2_2, k3_2, k4_2, k5_2, k6_2, k7_2, k8_2⟩ := CELLS.out w2 H_2.out) | (go_at_call 71; (with_reducible refine (impl_within.calls x1 1 1000 false _ W1.out).mono ?_); rintro e_ w3 ⟨rfl, d_⟩; have b_ := kept_drawn d_; have H_3 := Aside0.mk (blk_below H_2.out b_); have HB3 := Aside0.mk (below_then HB2.out HB2.out.size b_); clear b_ d_ H_2 HB2 k0_2 k1_2 k2_2 k3_2 k4_2 k5_2 k6_2 k7_2 k8_2; obtain ⟨k0_3, k1_3, k2_3, k3_3, k4_3, k5_3, k6_3, k7_3, k8_3⟩ := CELLS.out w3 H_3.out))
        go_ret
        refine ⟨?_, HB3.out⟩
        have e_ : inodeGood a0 = false := by rw [HIN.out, decide_eq_false HZ.out]; unfold inodeOk; rw [R0.out, R1.out]; rfl
        rw [← H.out, e_]; rfl
      | true =>
        obtain ⟨b2, hb2⟩ : ∃ b, b = rng x2 0 4095 := ⟨_, rfl⟩
        have R2 := Aside0.mk hb2.symm
        have W2 := Aside0.mk (impl_Inode_right.win x2 0 4095 b2 R2.out)
        clear hb2
        cases b2 with
        | false =>
          go_enter Try.func52, Try.ntmps52
          go_wp2_with (first | ((with_reducible refine gate_dst (N := 1) rfl ?_); refine hx_box rfl 1 rfl 42 (.tmp 0) rfl Sz0 (.agg (nums .i64 a0).toArray) (nums .i64 a0).toArray rfl rfl ?_; intro w1 s1 L1 Sz1 b1 g_; have H_1 := Aside0.mk g_; have HB1 := Aside0.mk (below_then HB0.out HB0.out.size b1); clear g_ HB0 b1; obtain ⟨k0_1, k1_1, k2_1, k3_1, k4_1, k5_1, k6_1, k7_1, k8_1⟩ := CELLS.out w1 H_1.out) | ((with_reducible refine gate_dst (N := 4) rfl ?_); refine hx_load rfl 42 (.tmp 1) rfl s0 24 rfl Try.underlying42 rfl (by kernel_rfl) H_1.out (nums_size _ _ _ N_.out) ?_) | ((with_reducible refine gate_dst (N := 6) rfl ?_); refine wpList_eqw rfl (.tmp 4) (.tmp 5) _ rfl eqw42 (by decide) (by kernel_rfl) a0 zz rfl (by rw [ZZ.out]; rfl) N_.out NZ.out ?_; rw [BE.out]) | (go_at_call 71; (with_reducible refine (impl_within.calls x0 1 3 true _ W0.out).mono ?_); rintro e_ w2 ⟨rfl, d_⟩; have b_ := kept_drawn d_; have H_2 := Aside0.mk (blk_below H_1.out b_); have HB2 := Aside0.mk (below_then HB1.out HB1.out.size b_); clear b_ d_ H_1 HB1 k0_1 k1_1 k2_1 k3_1 k4_1 k5_1 k6_1 k7_1 k8_1; obtain ⟨k0_2, k1_2, k2_2, k3_2, k4_2, k5_2, k6_2, k7_2, k8_2⟩ := CELLS.out w2 H_2.out) | (go_at_call 71; (with_reducible refine (impl_within.calls x1 1 1000 true _ W1.out).mono ?_); rintro e_ w3 ⟨rfl, d_⟩; have b_ := kept_drawn d_; have H_3 := Aside0.mk (blk_below H_2.out b_); have HB3 := Aside0.mk (below_then HB2.out HB2.out.size b_); clear b_ d_ H_2 HB2 k0_2 k1_2 k2_2 k3_2 k4_2 k5_2 k6_2 k7_2 k8_2; obtain ⟨k0_3, k1_3, k2_3, k3_3, k4_3, k5_3, k6_3, k7_3, k8_3⟩ := CELLS.out w3 H_3.out) | (go_at_call 71; (with_reducible refine (impl_within.calls x2 0 4095 false _ W2.out).mono ?_); rintro e_ w4 ⟨rfl, d_⟩; have b_ := kept_drawn d_; have H_4 := Aside0.mk (blk_below H_3.out b_); have HB4 := Aside0.mk (below_then HB3.out HB3.out.size b_); clear b_ d_ H_3 HB3 k0_3 k1_3 k2_3 k3_3 k4_3 k5_3 k6_3 k7_3 k8_3; obtain ⟨k0_4, k1_4, k2_4, k3_4, k4_4, k5_4, k6_4, k7_4, k8_4⟩ := CELLS.out w4 H_4.out))
          go_ret
          refine ⟨?_, HB4.out⟩
          have e_ : inodeGood a0 = false := by rw [HIN.out, decide_eq_false HZ.out]; unfold inodeOk; rw [R0.out, R1.out, R2.out]; rfl
          rw [← H.out, e_]; rfl
        | true =>
          obtain ⟨b3, hb3⟩ : ∃ b, b = rng x3 0 65535 := ⟨_, rfl⟩
          have R3 := Aside0.mk hb3.symm
          have W3 := Aside0.mk (impl_Inode_right.win x3 0 65535 b3 R3.out)
          clear hb3
          cases b3 with
          | false =>
            go_enter Try.func52, Try.ntmps52
            go_wp2_with (first | ((with_reducible refine gate_dst (N := 1) rfl ?_); refine hx_box rfl 1 rfl 42 (.tmp 0) rfl Sz0 (.agg (nums .i64 a0).toArray) (nums .i64 a0).toArray rfl rfl ?_; intro w1 s1 L1 Sz1 b1 g_; have H_1 := Aside0.mk g_; have HB1 := Aside0.mk (below_then HB0.out HB0.out.size b1); clear g_ HB0 b1; obtain ⟨k0_1, k1_1, k2_1, k3_1, k4_1, k5_1, k6_1, k7_1, k8_1⟩ := CELLS.out w1 H_1.out) | ((with_reducible refine gate_dst (N := 4) rfl ?_); refine hx_load rfl 42 (.tmp 1) rfl s0 24 rfl Try.underlying42 rfl (by kernel_rfl) H_1.out (nums_size _ _ _ N_.out) ?_) | ((with_reducible refine gate_dst (N := 6) rfl ?_); refine wpList_eqw rfl (.tmp 4) (.tmp 5) _ rfl eqw42 (by decide) (by kernel_rfl) a0 zz rfl (by rw [ZZ.out]; rfl) N_.out NZ.out ?_; rw [BE.out]) | (go_at_call 71; (with_reducible refine (impl_within.calls x0 1 3 true _ W0.out).mono ?_); rintro e_ w2 ⟨rfl, d_⟩; have b_ := kept_drawn d_; have H_2 := Aside0.mk (blk_below H_1.out b_); have HB2 := Aside0.mk (below_then HB1.out HB1.out.size b_); clear b_ d_ H_1 HB1 k0_1 k1_1 k2_1 k3_1 k4_1 k5_1 k6_1 k7_1 k8_1; obtain ⟨k0_2, k1_2, k2_2, k3_2, k4_2, k5_2, k6_2, k7_2, k8_2⟩ := CELLS.out w2 H_2.out) | (go_at_call 71; (with_reducible refine (impl_within.calls x1 1 1000 true _ W1.out).mono ?_); rintro e_ w3 ⟨rfl, d_⟩; have b_ := kept_drawn d_; have H_3 := Aside0.mk (blk_below H_2.out b_); have HB3 := Aside0.mk (below_then HB2.out HB2.out.size b_); clear b_ d_ H_2 HB2 k0_2 k1_2 k2_2 k3_2 k4_2 k5_2 k6_2 k7_2 k8_2; obtain ⟨k0_3, k1_3, k2_3, k3_3, k4_3, k5_3, k6_3, k7_3, k8_3⟩ := CELLS.out w3 H_3.out) | (go_at_call 71; (with_reducible refine (impl_within.calls x2 0 4095 true _ W2.out).mono ?_); rintro e_ w4 ⟨rfl, d_⟩; have b_ := kept_drawn d_; have H_4 := Aside0.mk (blk_below H_3.out b_); have HB4 := Aside0.mk (below_then HB3.out HB3.out.size b_); clear b_ d_ H_3 HB3 k0_3 k1_3 k2_3 k3_3 k4_3 k5_3 k6_3 k7_3 k8_3; obtain ⟨k0_4, k1_4, k2_4, k3_4, k4_4, k5_4, k6_4, k7_4, k8_4⟩ := CELLS.out w4 H_4.out) | (go_at_call 71; (with_reducible refine (impl_within.calls x3 0 65535 false _ W3.out).mono ?_); rintro e_ w5 ⟨rfl, d_⟩; have b_ := kept_drawn d_; have H_5 := Aside0.mk (blk_below H_4.out b_); have HB5 := Aside0.mk (below_then HB4.out HB4.out.size b_); clear b_ d_ H_4 HB4 k0_4 k1_4 k2_4 k3_4 k4_4 k5_4 k6_4 k7_4 k8_4; obtain ⟨k0_5, k1_5, k2_5, k3_5, k4_5, k5_5, k6_5, k7_5, k8_5⟩ := CELLS.out w5 H_5.out))
            go_ret
            refine ⟨?_, HB5.out⟩
            have e_ : inodeGood a0 = false := by rw [HIN.out, decide_eq_false HZ.out]; unfold inodeOk; rw [R0.out, R1.out, R2.out, R3.out]; rfl
            rw [← H.out, e_]; rfl
          | true =>
            obtain ⟨b4, hb4⟩ : ∃ b, b = rng x4 0 65535 := ⟨_, rfl⟩
            have R4 := Aside0.mk hb4.symm
            have W4 := Aside0.mk (impl_Inode_right.win x4 0 65535 b4 R4.out)
            clear hb4
            cases b4 with
            | false =>
              go_enter Try.func52, Try.ntmps52
              go_wp2_with (first | ((with_reducible refine gate_dst (N := 1) rfl ?_); refine hx_box rfl 1 rfl 42 (.tmp 0) rfl Sz0 (.agg (nums .i64 a0).toArray) (nums .i64 a0).toArray rfl rfl ?_; intro w1 s1 L1 Sz1 b1 g_; have H_1 := Aside0.mk g_; have HB1 := Aside0.mk (below_then HB0.out HB0.out.size b1); clear g_ HB0 b1; obtain ⟨k0_1, k1_1, k2_1, k3_1, k4_1, k5_1, k6_1, k7_1, k8_1⟩ := CELLS.out w1 H_1.out) | ((with_reducible refine gate_dst (N := 4) rfl ?_); refine hx_load rfl 42 (.tmp 1) rfl s0 24 rfl Try.underlying42 rfl (by kernel_rfl) H_1.out (nums_size _ _ _ N_.out) ?_) | ((with_reducible refine gate_dst (N := 6) rfl ?_); refine wpList_eqw rfl (.tmp 4) (.tmp 5) _ rfl eqw42 (by decide) (by kernel_rfl) a0 zz rfl (by rw [ZZ.out]; rfl) N_.out NZ.out ?_; rw [BE.out]) | (go_at_call 71; (with_reducible refine (impl_within.calls x0 1 3 true _ W0.out).mono ?_); rintro e_ w2 ⟨rfl, d_⟩; have b_ := kept_drawn d_; have H_2 := Aside0.mk (blk_below H_1.out b_); have HB2 := Aside0.mk (below_then HB1.out HB1.out.size b_); clear b_ d_ H_1 HB1 k0_1 k1_1 k2_1 k3_1 k4_1 k5_1 k6_1 k7_1 k8_1; obtain ⟨k0_2, k1_2, k2_2, k3_2, k4_2, k5_2, k6_2, k7_2, k8_2⟩ := CELLS.out w2 H_2.out) | (go_at_call 71; (with_reducible refine (impl_within.calls x1 1 1000 true _ W1.out).mono ?_); rintro e_ w3 ⟨rfl, d_⟩; have b_ := kept_drawn d_; have H_3 := Aside0.mk (blk_below H_2.out b_); have HB3 := Aside0.mk (below_then HB2.out HB2.out.size b_); clear b_ d_ H_2 HB2 k0_2 k1_2 k2_2 k3_2 k4_2 k5_2 k6_2 k7_2 k8_2; obtain ⟨k0_3, k1_3, k2_3, k3_3, k4_3, k5_3, k6_3, k7_3, k8_3⟩ := CELLS.out w3 H_3.out) | (go_at_call 71; (with_reducible refine (impl_within.calls x2 0 4095 true _ W2.out).mono ?_); rintro e_ w4 ⟨rfl, d_⟩; have b_ := kept_drawn d_; have H_4 := Aside0.mk (blk_below H_3.out b_); have HB4 := Aside0.mk (below_then HB3.out HB3.out.size b_); clear b_ d_ H_3 HB3 k0_3 k1_3 k2_3 k3_3 k4_3 k5_3 k6_3 k7_3 k8_3; obtain ⟨k0_4, k1_4, k2_4, k3_4, k4_4, k5_4, k6_4, k7_4, k8_4⟩ := CELLS.out w4 H_4.out) | (go_at_call 71; (with_reducible refine (impl_within.calls x3 0 65535 true _ W3.out).mono ?_); rintro e_ w5 ⟨rfl, d_⟩; have b_ := kept_drawn d_; have H_5 := Aside0.mk (blk_below H_4.out b_); have HB5 := Aside0.mk (below_then HB4.out HB4.out.size b_); clear b_ d_ H_4 HB4 k0_4 k1_4 k2_4 k3_4 k4_4 k5_4 k6_4 k7_4 k8_4; obtain ⟨k0_5, k1_5, k2_5, k3_5, k4_5, k5_5, k6_5, k7_5, k8_5⟩ := CELLS.out w5 H_5.out) | (go_at_call 71; (with_reducible refine (impl_within.calls x4 0 65535 false _ W4.out).mono ?_); rintro e_ w6 ⟨rfl, d_⟩; have b_ := kept_drawn d_; have H_6 := Aside0.mk (blk_below H_5.out b_); have HB6 := Aside0.mk (below_then HB5.out HB5.out.size b_); clear b_ d_ H_5 HB5 k0_5 k1_5 k2_5 k3_5 k4_5 k5_5 k6_5 k7_5 k8_5; obtain ⟨k0_6, k1_6, k2_6, k3_6, k4_6, k5_6, k6_6, k7_6, k8_6⟩ := CELLS.out w6 H_6.out))
              go_ret
              refine ⟨?_, HB6.out⟩
              have e_ : inodeGood a0 = false := by rw [HIN.out, decide_eq_false HZ.out]; unfold inodeOk; rw [R0.out, R1.out, R2.out, R3.out, R4.out]; rfl
              rw [← H.out, e_]; rfl
            | true =>
              have R5 := Aside0.mk hpo
              clear hpo
              cases pb with
              | false =>
                go_enter Try.func52, Try.ntmps52
                go_wp2_with (first | ((with_reducible refine gate_dst (N := 1) rfl ?_); refine hx_box rfl 1 rfl 42 (.tmp 0) rfl Sz0 (.agg (nums .i64 a0).toArray) (nums .i64 a0).toArray rfl rfl ?_; intro w1 s1 L1 Sz1 b1 g_; have H_1 := Aside0.mk g_; have HB1 := Aside0.mk (below_then HB0.out HB0.out.size b1); clear g_ HB0 b1; obtain ⟨k0_1, k1_1, k2_1, k3_1, k4_1, k5_1, k6_1, k7_1, k8_1⟩ := CELLS.out w1 H_1.out) | ((with_reducible refine gate_dst (N := 4) rfl ?_); refine hx_load rfl 42 (.tmp 1) rfl s0 24 rfl Try.underlying42 rfl (by kernel_rfl) H_1.out (nums_size _ _ _ N_.out) ?_) | ((with_reducible refine gate_dst (N := 6) rfl ?_); refine wpList_eqw rfl (.tmp 4) (.tmp 5) _ rfl eqw42 (by decide) (by kernel_rfl) a0 zz rfl (by rw [ZZ.out]; rfl) N_.out NZ.out ?_; rw [BE.out]) | (go_at_call 71; (with_reducible refine (impl_within.calls x0 1 3 true _ W0.out).mono ?_); rintro e_ w2 ⟨rfl, d_⟩; have b_ := kept_drawn d_; have H_2 := Aside0.mk (blk_below H_1.out b_); have HB2 := Aside0.mk (below_then HB1.out HB1.out.size b_); clear b_ d_ H_1 HB1 k0_1 k1_1 k2_1 k3_1 k4_1 k5_1 k6_1 k7_1 k8_1; obtain ⟨k0_2, k1_2, k2_2, k3_2, k4_2, k5_2, k6_2, k7_2, k8_2⟩ := CELLS.out w2 H_2.out) | (go_at_call 71; (with_reducible refine (impl_within.calls x1 1 1000 true _ W1.out).mono ?_); rintro e_ w3 ⟨rfl, d_⟩; have b_ := kept_drawn d_; have H_3 := Aside0.mk (blk_below H_2.out b_); have HB3 := Aside0.mk (below_then HB2.out HB2.out.size b_); clear b_ d_ H_2 HB2 k0_2 k1_2 k2_2 k3_2 k4_2 k5_2 k6_2 k7_2 k8_2; obtain ⟨k0_3, k1_3, k2_3, k3_3, k4_3, k5_3, k6_3, k7_3, k8_3⟩ := CELLS.out w3 H_3.out) | (go_at_call 71; (with_reducible refine (impl_within.calls x2 0 4095 true _ W2.out).mono ?_); rintro e_ w4 ⟨rfl, d_⟩; have b_ := kept_drawn d_; have H_4 := Aside0.mk (blk_below H_3.out b_); have HB4 := Aside0.mk (below_then HB3.out HB3.out.size b_); clear b_ d_ H_3 HB3 k0_3 k1_3 k2_3 k3_3 k4_3 k5_3 k6_3 k7_3 k8_3; obtain ⟨k0_4, k1_4, k2_4, k3_4, k4_4, k5_4, k6_4, k7_4, k8_4⟩ := CELLS.out w4 H_4.out) | (go_at_call 71; (with_reducible refine (impl_within.calls x3 0 65535 true _ W3.out).mono ?_); rintro e_ w5 ⟨rfl, d_⟩; have b_ := kept_drawn d_; have H_5 := Aside0.mk (blk_below H_4.out b_); have HB5 := Aside0.mk (below_then HB4.out HB4.out.size b_); clear b_ d_ H_4 HB4 k0_4 k1_4 k2_4 k3_4 k4_4 k5_4 k6_4 k7_4 k8_4; obtain ⟨k0_5, k1_5, k2_5, k3_5, k4_5, k5_5, k6_5, k7_5, k8_5⟩ := CELLS.out w5 H_5.out) | (go_at_call 71; (with_reducible refine (impl_within.calls x4 0 65535 true _ W4.out).mono ?_); rintro e_ w6 ⟨rfl, d_⟩; have b_ := kept_drawn d_; have H_6 := Aside0.mk (blk_below H_5.out b_); have HB6 := Aside0.mk (below_then HB5.out HB5.out.size b_); clear b_ d_ H_5 HB5 k0_5 k1_5 k2_5 k3_5 k4_5 k5_5 k6_5 k7_5 k8_5; obtain ⟨k0_6, k1_6, k2_6, k3_6, k4_6, k5_6, k6_6, k7_6, k8_6⟩ := CELLS.out w6 H_6.out))
                go_ret
                refine ⟨?_, HB6.out⟩
                have e_ : inodeGood a0 = false := by rw [HIN.out, decide_eq_false HZ.out]; unfold inodeOk; rw [R0.out, R1.out, R2.out, R3.out, R4.out, R5.out]; rfl
                rw [← H.out, e_]; rfl
              | true =>
                obtain ⟨b6, hb6⟩ : ∃ b, b = rng x6 1 1099511627776 := ⟨_, rfl⟩
                have R6 := Aside0.mk hb6.symm
                have W6 := Aside0.mk (impl_Inode_right.win x6 1 1099511627776 b6 R6.out)
                clear hb6
                cases b6 with
                | false =>
                  go_enter Try.func52, Try.ntmps52
                  go_wp2_with (first | ((with_reducible refine gate_dst (N := 1) rfl ?_); refine hx_box rfl 1 rfl 42 (.tmp 0) rfl Sz0 (.agg (nums .i64 a0).toArray) (nums .i64 a0).toArray rfl rfl ?_; intro w1 s1 L1 Sz1 b1 g_; have H_1 := Aside0.mk g_; have HB1 := Aside0.mk (below_then HB0.out HB0.out.size b1); clear g_ HB0 b1; obtain ⟨k0_1, k1_1, k2_1, k3_1, k4_1, k5_1, k6_1, k7_1, k8_1⟩ := CELLS.out w1 H_1.out) | ((with_reducible refine gate_dst (N := 4) rfl ?_); refine hx_load rfl 42 (.tmp 1) rfl s0 24 rfl Try.underlying42 rfl (by kernel_rfl) H_1.out (nums_size _ _ _ N_.out) ?_) | ((with_reducible refine gate_dst (N := 6) rfl ?_); refine wpList_eqw rfl (.tmp 4) (.tmp 5) _ rfl eqw42 (by decide) (by kernel_rfl) a0 zz rfl (by rw [ZZ.out]; rfl) N_.out NZ.out ?_; rw [BE.out]) | (go_at_call 71; (with_reducible refine (impl_within.calls x0 1 3 true _ W0.out).mono ?_); rintro e_ w2 ⟨rfl, d_⟩; have b_ := kept_drawn d_; have H_2 := Aside0.mk (blk_below H_1.out b_); have HB2 := Aside0.mk (below_then HB1.out HB1.out.size b_); clear b_ d_ H_1 HB1 k0_1 k1_1 k2_1 k3_1 k4_1 k5_1 k6_1 k7_1 k8_1; obtain ⟨k0_2, k1_2, k2_2, k3_2, k4_2, k5_2, k6_2, k7_2, k8_2⟩ := CELLS.out w2 H_2.out) | (go_at_call 71; (with_reducible refine (impl_within.calls x1 1 1000 true _ W1.out).mono ?_); rintro e_ w3 ⟨rfl, d_⟩; have b_ := kept_drawn d_; have H_3 := Aside0.mk (blk_below H_2.out b_); have HB3 := Aside0.mk (below_then HB2.out HB2.out.size b_); clear b_ d_ H_2 HB2 k0_2 k1_2 k2_2 k3_2 k4_2 k5_2 k6_2 k7_2 k8_2; obtain ⟨k0_3, k1_3, k2_3, k3_3, k4_3, k5_3, k6_3, k7_3, k8_3⟩ := CELLS.out w3 H_3.out) | (go_at_call 71; (with_reducible refine (impl_within.calls x2 0 4095 true _ W2.out).mono ?_); rintro e_ w4 ⟨rfl, d_⟩; have b_ := kept_drawn d_; have H_4 := Aside0.mk (blk_below H_3.out b_); have HB4 := Aside0.mk (below_then HB3.out HB3.out.size b_); clear b_ d_ H_3 HB3 k0_3 k1_3 k2_3 k3_3 k4_3 k5_3 k6_3 k7_3 k8_3; obtain ⟨k0_4, k1_4, k2_4, k3_4, k4_4, k5_4, k6_4, k7_4, k8_4⟩ := CELLS.out w4 H_4.out) | (go_at_call 71; (with_reducible refine (impl_within.calls x3 0 65535 true _ W3.out).mono ?_); rintro e_ w5 ⟨rfl, d_⟩; have b_ := kept_drawn d_; have H_5 := Aside0.mk (blk_below H_4.out b_); have HB5 := Aside0.mk (below_then HB4.out HB4.out.size b_); clear b_ d_ H_4 HB4 k0_4 k1_4 k2_4 k3_4 k4_4 k5_4 k6_4 k7_4 k8_4; obtain ⟨k0_5, k1_5, k2_5, k3_5, k4_5, k5_5, k6_5, k7_5, k8_5⟩ := CELLS.out w5 H_5.out) | (go_at_call 71; (with_reducible refine (impl_within.calls x4 0 65535 true _ W4.out).mono ?_); rintro e_ w6 ⟨rfl, d_⟩; have b_ := kept_drawn d_; have H_6 := Aside0.mk (blk_below H_5.out b_); have HB6 := Aside0.mk (below_then HB5.out HB5.out.size b_); clear b_ d_ H_5 HB5 k0_5 k1_5 k2_5 k3_5 k4_5 k5_5 k6_5 k7_5 k8_5; obtain ⟨k0_6, k1_6, k2_6, k3_6, k4_6, k5_6, k6_6, k7_6, k8_6⟩ := CELLS.out w6 H_6.out) | (go_at_call 71; (with_reducible refine (impl_within.calls x6 1 1099511627776 false _ W6.out).mono ?_); rintro e_ w7 ⟨rfl, d_⟩; have b_ := kept_drawn d_; have H_7 := Aside0.mk (blk_below H_6.out b_); have HB7 := Aside0.mk (below_then HB6.out HB6.out.size b_); clear b_ d_ H_6 HB6 k0_6 k1_6 k2_6 k3_6 k4_6 k5_6 k6_6 k7_6 k8_6; obtain ⟨k0_7, k1_7, k2_7, k3_7, k4_7, k5_7, k6_7, k7_7, k8_7⟩ := CELLS.out w7 H_7.out))
                  go_ret
                  refine ⟨?_, HB7.out⟩
                  have e_ : inodeGood a0 = false := by rw [HIN.out, decide_eq_false HZ.out]; unfold inodeOk; rw [R0.out, R1.out, R2.out, R3.out, R4.out, R5.out, R6.out]; rfl
                  rw [← H.out, e_]; rfl
                | true =>
                  obtain ⟨b7, hb7⟩ : ∃ b, b = rng x7 1 1099511627776 := ⟨_, rfl⟩
                  have R7 := Aside0.mk hb7.symm
                  have W7 := Aside0.mk (impl_Inode_right.win x7 1 1099511627776 b7 R7.out)
                  clear hb7
                  cases b7 with
                  | false =>
                    go_enter Try.func52, Try.ntmps52
                    go_wp2_with (first | ((with_reducible refine gate_dst (N := 1) rfl ?_); refine hx_box rfl 1 rfl 42 (.tmp 0) rfl Sz0 (.agg (nums .i64 a0).toArray) (nums .i64 a0).toArray rfl rfl ?_; intro w1 s1 L1 Sz1 b1 g_; have H_1 := Aside0.mk g_; have HB1 := Aside0.mk (below_then HB0.out HB0.out.size b1); clear g_ HB0 b1; obtain ⟨k0_1, k1_1, k2_1, k3_1, k4_1, k5_1, k6_1, k7_1, k8_1⟩ := CELLS.out w1 H_1.out) | ((with_reducible refine gate_dst (N := 4) rfl ?_); refine hx_load rfl 42 (.tmp 1) rfl s0 24 rfl Try.underlying42 rfl (by kernel_rfl) H_1.out (nums_size _ _ _ N_.out) ?_) | ((with_reducible refine gate_dst (N := 6) rfl ?_); refine wpList_eqw rfl (.tmp 4) (.tmp 5) _ rfl eqw42 (by decide) (by kernel_rfl) a0 zz rfl (by rw [ZZ.out]; rfl) N_.out NZ.out ?_; rw [BE.out]) | (go_at_call 71; (with_reducible refine (impl_within.calls x0 1 3 true _ W0.out).mono ?_); rintro e_ w2 ⟨rfl, d_⟩; have b_ := kept_drawn d_; have H_2 := Aside0.mk (blk_below H_1.out b_); have HB2 := Aside0.mk (below_then HB1.out HB1.out.size b_); clear b_ d_ H_1 HB1 k0_1 k1_1 k2_1 k3_1 k4_1 k5_1 k6_1 k7_1 k8_1; obtain ⟨k0_2, k1_2, k2_2, k3_2, k4_2, k5_2, k6_2, k7_2, k8_2⟩ := CELLS.out w2 H_2.out) | (go_at_call 71; (with_reducible refine (impl_within.calls x1 1 1000 true _ W1.out).mono ?_); rintro e_ w3 ⟨rfl, d_⟩; have b_ := kept_drawn d_; have H_3 := Aside0.mk (blk_below H_2.out b_); have HB3 := Aside0.mk (below_then HB2.out HB2.out.size b_); clear b_ d_ H_2 HB2 k0_2 k1_2 k2_2 k3_2 k4_2 k5_2 k6_2 k7_2 k8_2; obtain ⟨k0_3, k1_3, k2_3, k3_3, k4_3, k5_3, k6_3, k7_3, k8_3⟩ := CELLS.out w3 H_3.out) | (go_at_call 71; (with_reducible refine (impl_within.calls x2 0 4095 true _ W2.out).mono ?_); rintro e_ w4 ⟨rfl, d_⟩; have b_ := kept_drawn d_; have H_4 := Aside0.mk (blk_below H_3.out b_); have HB4 := Aside0.mk (below_then HB3.out HB3.out.size b_); clear b_ d_ H_3 HB3 k0_3 k1_3 k2_3 k3_3 k4_3 k5_3 k6_3 k7_3 k8_3; obtain ⟨k0_4, k1_4, k2_4, k3_4, k4_4, k5_4, k6_4, k7_4, k8_4⟩ := CELLS.out w4 H_4.out) | (go_at_call 71; (with_reducible refine (impl_within.calls x3 0 65535 true _ W3.out).mono ?_); rintro e_ w5 ⟨rfl, d_⟩; have b_ := kept_drawn d_; have H_5 := Aside0.mk (blk_below H_4.out b_); have HB5 := Aside0.mk (below_then HB4.out HB4.out.size b_); clear b_ d_ H_4 HB4 k0_4 k1_4 k2_4 k3_4 k4_4 k5_4 k6_4 k7_4 k8_4; obtain ⟨k0_5, k1_5, k2_5, k3_5, k4_5, k5_5, k6_5, k7_5, k8_5⟩ := CELLS.out w5 H_5.out) | (go_at_call 71; (with_reducible refine (impl_within.calls x4 0 65535 true _ W4.out).mono ?_); rintro e_ w6 ⟨rfl, d_⟩; have b_ := kept_drawn d_; have H_6 := Aside0.mk (blk_below H_5.out b_); have HB6 := Aside0.mk (below_then HB5.out HB5.out.size b_); clear b_ d_ H_5 HB5 k0_5 k1_5 k2_5 k3_5 k4_5 k5_5 k6_5 k7_5 k8_5; obtain ⟨k0_6, k1_6, k2_6, k3_6, k4_6, k5_6, k6_6, k7_6, k8_6⟩ := CELLS.out w6 H_6.out) | (go_at_call 71; (with_reducible refine (impl_within.calls x6 1 1099511627776 true _ W6.out).mono ?_); rintro e_ w7 ⟨rfl, d_⟩; have b_ := kept_drawn d_; have H_7 := Aside0.mk (blk_below H_6.out b_); have HB7 := Aside0.mk (below_then HB6.out HB6.out.size b_); clear b_ d_ H_6 HB6 k0_6 k1_6 k2_6 k3_6 k4_6 k5_6 k6_6 k7_6 k8_6; obtain ⟨k0_7, k1_7, k2_7, k3_7, k4_7, k5_7, k6_7, k7_7, k8_7⟩ := CELLS.out w7 H_7.out) | (go_at_call 71; (with_reducible refine (impl_within.calls x7 1 1099511627776 false _ W7.out).mono ?_); rintro e_ w8 ⟨rfl, d_⟩; have b_ := kept_drawn d_; have H_8 := Aside0.mk (blk_below H_7.out b_); have HB8 := Aside0.mk (below_then HB7.out HB7.out.size b_); clear b_ d_ H_7 HB7 k0_7 k1_7 k2_7 k3_7 k4_7 k5_7 k6_7 k7_7 k8_7; obtain ⟨k0_8, k1_8, k2_8, k3_8, k4_8, k5_8, k6_8, k7_8, k8_8⟩ := CELLS.out w8 H_8.out))
                    go_ret
                    refine ⟨?_, HB8.out⟩
                    have e_ : inodeGood a0 = false := by rw [HIN.out, decide_eq_false HZ.out]; unfold inodeOk; rw [R0.out, R1.out, R2.out, R3.out, R4.out, R5.out, R6.out, R7.out]; rfl
                    rw [← H.out, e_]; rfl
                  | true =>
                    obtain ⟨b8, hb8⟩ : ∃ b, b = rng x8 1 1099511627776 := ⟨_, rfl⟩
                    have R8 := Aside0.mk hb8.symm
                    have W8 := Aside0.mk (impl_Inode_right.win x8 1 1099511627776 b8 R8.out)
                    clear hb8
                    cases b8 with
                    | false =>
                      go_enter Try.func52, Try.ntmps52
                      go_wp2_with (first | ((with_reducible refine gate_dst (N := 1) rfl ?_); refine hx_box rfl 1 rfl 42 (.tmp 0) rfl Sz0 (.agg (nums .i64 a0).toArray) (nums .i64 a0).toArray rfl rfl ?_; intro w1 s1 L1 Sz1 b1 g_; have H_1 := Aside0.mk g_; have HB1 := Aside0.mk (below_then HB0.out HB0.out.size b1); clear g_ HB0 b1; obtain ⟨k0_1, k1_1, k2_1, k3_1, k4_1, k5_1, k6_1, k7_1, k8_1⟩ := CELLS.out w1 H_1.out) | ((with_reducible refine gate_dst (N := 4) rfl ?_); refine hx_load rfl 42 (.tmp 1) rfl s0 24 rfl Try.underlying42 rfl (by kernel_rfl) H_1.out (nums_size _ _ _ N_.out) ?_) | ((with_reducible refine gate_dst (N := 6) rfl ?_); refine wpList_eqw rfl (.tmp 4) (.tmp 5) _ rfl eqw42 (by decide) (by kernel_rfl) a0 zz rfl (by rw [ZZ.out]; rfl) N_.out NZ.out ?_; rw [BE.out]) | (go_at_call 71; (with_reducible refine (impl_within.calls x0 1 3 true _ W0.out).mono ?_); rintro e_ w2 ⟨rfl, d_⟩; have b_ := kept_drawn d_; have H_2 := Aside0.mk (blk_below H_1.out b_); have HB2 := Aside0.mk (below_then HB1.out HB1.out.size b_); clear b_ d_ H_1 HB1 k0_1 k1_1 k2_1 k3_1 k4_1 k5_1 k6_1 k7_1 k8_1; obtain ⟨k0_2, k1_2, k2_2, k3_2, k4_2, k5_2, k6_2, k7_2, k8_2⟩ := CELLS.out w2 H_2.out) | (go_at_call 71; (with_reducible refine (impl_within.calls x1 1 1000 true _ W1.out).mono ?_); rintro e_ w3 ⟨rfl, d_⟩; have b_ := kept_drawn d_; have H_3 := Aside0.mk (blk_below H_2.out b_); have HB3 := Aside0.mk (below_then HB2.out HB2.out.size b_); clear b_ d_ H_2 HB2 k0_2 k1_2 k2_2 k3_2 k4_2 k5_2 k6_2 k7_2 k8_2; obtain ⟨k0_3, k1_3, k2_3, k3_3, k4_3, k5_3, k6_3, k7_3, k8_3⟩ := CELLS.out w3 H_3.out) | (go_at_call 71; (with_reducible refine (impl_within.calls x2 0 4095 true _ W2.out).mono ?_); rintro e_ w4 ⟨rfl, d_⟩; have b_ := kept_drawn d_; have H_4 := Aside0.mk (blk_below H_3.out b_); have HB4 := Aside0.mk (below_then HB3.out HB3.out.size b_); clear b_ d_ H_3 HB3 k0_3 k1_3 k2_3 k3_3 k4_3 k5_3 k6_3 k7_3 k8_3; obtain ⟨k0_4, k1_4, k2_4, k3_4, k4_4, k5_4, k6_4, k7_4, k8_4⟩ := CELLS.out w4 H_4.out) | (go_at_call 71; (with_reducible refine (impl_within.calls x3 0 65535 true _ W3.out).mono ?_); rintro e_ w5 ⟨rfl, d_⟩; have b_ := kept_drawn d_; have H_5 := Aside0.mk (blk_below H_4.out b_); have HB5 := Aside0.mk (below_then HB4.out HB4.out.size b_); clear b_ d_ H_4 HB4 k0_4 k1_4 k2_4 k3_4 k4_4 k5_4 k6_4 k7_4 k8_4; obtain ⟨k0_5, k1_5, k2_5, k3_5, k4_5, k5_5, k6_5, k7_5, k8_5⟩ := CELLS.out w5 H_5.out) | (go_at_call 71; (with_reducible refine (impl_within.calls x4 0 65535 true _ W4.out).mono ?_); rintro e_ w6 ⟨rfl, d_⟩; have b_ := kept_drawn d_; have H_6 := Aside0.mk (blk_below H_5.out b_); have HB6 := Aside0.mk (below_then HB5.out HB5.out.size b_); clear b_ d_ H_5 HB5 k0_5 k1_5 k2_5 k3_5 k4_5 k5_5 k6_5 k7_5 k8_5; obtain ⟨k0_6, k1_6, k2_6, k3_6, k4_6, k5_6, k6_6, k7_6, k8_6⟩ := CELLS.out w6 H_6.out) | (go_at_call 71; (with_reducible refine (impl_within.calls x6 1 1099511627776 true _ W6.out).mono ?_); rintro e_ w7 ⟨rfl, d_⟩; have b_ := kept_drawn d_; have H_7 := Aside0.mk (blk_below H_6.out b_); have HB7 := Aside0.mk (below_then HB6.out HB6.out.size b_); clear b_ d_ H_6 HB6 k0_6 k1_6 k2_6 k3_6 k4_6 k5_6 k6_6 k7_6 k8_6; obtain ⟨k0_7, k1_7, k2_7, k3_7, k4_7, k5_7, k6_7, k7_7, k8_7⟩ := CELLS.out w7 H_7.out) | (go_at_call 71; (with_reducible refine (impl_within.calls x7 1 1099511627776 true _ W7.out).mono ?_); rintro e_ w8 ⟨rfl, d_⟩; have b_ := kept_drawn d_; have H_8 := Aside0.mk (blk_below H_7.out b_); have HB8 := Aside0.mk (below_then HB7.out HB7.out.size b_); clear b_ d_ H_7 HB7 k0_7 k1_7 k2_7 k3_7 k4_7 k5_7 k6_7 k7_7 k8_7; obtain ⟨k0_8, k1_8, k2_8, k3_8, k4_8, k5_8, k6_8, k7_8, k8_8⟩ := CELLS.out w8 H_8.out) | (go_at_call 71; (with_reducible refine (impl_within.calls x8 1 1099511627776 false _ W8.out).mono ?_); rintro e_ w9 ⟨rfl, d_⟩; have b_ := kept_drawn d_; have H_9 := Aside0.mk (blk_below H_8.out b_); have HB9 := Aside0.mk (below_then HB8.out HB8.out.size b_); clear b_ d_ H_8 HB8 k0_8 k1_8 k2_8 k3_8 k4_8 k5_8 k6_8 k7_8 k8_8; obtain ⟨k0_9, k1_9, k2_9, k3_9, k4_9, k5_9, k6_9, k7_9, k8_9⟩ := CELLS.out w9 H_9.out; obtain ⟨q0, q1, q2, q3, q4, q5, q6, q7, q8, q9, q10, q11, q12, q13, q14⟩ := CELLR.out w9 H_9.out))
                      go_ret
                      refine ⟨?_, HB9.out⟩
                      have e_ : inodeGood a0 = false := by rw [HIN.out, decide_eq_false HZ.out]; unfold inodeOk; rw [R0.out, R1.out, R2.out, R3.out, R4.out, R5.out, R6.out, R7.out, R8.out]; rfl
                      rw [← H.out, e_]; rfl
                    | true =>
                      obtain ⟨b9, hb9⟩ : ∃ b, b = rootGood xr := ⟨_, rfl⟩
                      have R9 := Aside0.mk hb9.symm
                      have WR := Aside0.mk (show impl_Root_right.f xr = some b9 by rw [← R9.out]; rfl)
                      clear hb9
                      cases b9 with
                      | false =>
                        have RC : Aside0 (∀ W : World, Calls Try.prog 44 #[.agg #[.int .i64 y0, .int .i64 y1, .int .i64 y2, .int .i64 y3, .int .i64 y4, .int .i64 y5, .int .i64 y6, .int .i64 y7, .int .i64 y8, .int .i64 y9, .int .i64 y10, .int .i64 y11, .int .i64 y12, .int .i64 y13, .int .i64 y14]] W fun e w' => e = .returned (.bool false) ∧ Below W.heap.size W w') := ⟨fun W => by have h_ := impl_Root_right.calls xr NR.out false W WR.out; rw [XY.out] at h_; exact h_⟩
                        go_enter Try.func52, Try.ntmps52
                        go_wp2_with (first | ((with_reducible refine gate_dst (N := 1) rfl ?_); refine hx_box rfl 1 rfl 42 (.tmp 0) rfl Sz0 (.agg (nums .i64 a0).toArray) (nums .i64 a0).toArray rfl rfl ?_; intro w1 s1 L1 Sz1 b1 g_; have H_1 := Aside0.mk g_; have HB1 := Aside0.mk (below_then HB0.out HB0.out.size b1); clear g_ HB0 b1; obtain ⟨k0_1, k1_1, k2_1, k3_1, k4_1, k5_1, k6_1, k7_1, k8_1⟩ := CELLS.out w1 H_1.out) | ((with_reducible refine gate_dst (N := 4) rfl ?_); refine hx_load rfl 42 (.tmp 1) rfl s0 24 rfl Try.underlying42 rfl (by kernel_rfl) H_1.out (nums_size _ _ _ N_.out) ?_) | ((with_reducible refine gate_dst (N := 6) rfl ?_); refine wpList_eqw rfl (.tmp 4) (.tmp 5) _ rfl eqw42 (by decide) (by kernel_rfl) a0 zz rfl (by rw [ZZ.out]; rfl) N_.out NZ.out ?_; rw [BE.out]) | (go_at_call 71; (with_reducible refine (impl_within.calls x0 1 3 true _ W0.out).mono ?_); rintro e_ w2 ⟨rfl, d_⟩; have b_ := kept_drawn d_; have H_2 := Aside0.mk (blk_below H_1.out b_); have HB2 := Aside0.mk (below_then HB1.out HB1.out.size b_); clear b_ d_ H_1 HB1 k0_1 k1_1 k2_1 k3_1 k4_1 k5_1 k6_1 k7_1 k8_1; obtain ⟨k0_2, k1_2, k2_2, k3_2, k4_2, k5_2, k6_2, k7_2, k8_2⟩ := CELLS.out w2 H_2.out) | (go_at_call 71; (with_reducible refine (impl_within.calls x1 1 1000 true _ W1.out).mono ?_); rintro e_ w3 ⟨rfl, d_⟩; have b_ := kept_drawn d_; have H_3 := Aside0.mk (blk_below H_2.out b_); have HB3 := Aside0.mk (below_then HB2.out HB2.out.size b_); clear b_ d_ H_2 HB2 k0_2 k1_2 k2_2 k3_2 k4_2 k5_2 k6_2 k7_2 k8_2; obtain ⟨k0_3, k1_3, k2_3, k3_3, k4_3, k5_3, k6_3, k7_3, k8_3⟩ := CELLS.out w3 H_3.out) | (go_at_call 71; (with_reducible refine (impl_within.calls x2 0 4095 true _ W2.out).mono ?_); rintro e_ w4 ⟨rfl, d_⟩; have b_ := kept_drawn d_; have H_4 := Aside0.mk (blk_below H_3.out b_); have HB4 := Aside0.mk (below_then HB3.out HB3.out.size b_); clear b_ d_ H_3 HB3 k0_3 k1_3 k2_3 k3_3 k4_3 k5_3 k6_3 k7_3 k8_3; obtain ⟨k0_4, k1_4, k2_4, k3_4, k4_4, k5_4, k6_4, k7_4, k8_4⟩ := CELLS.out w4 H_4.out) | (go_at_call 71; (with_reducible refine (impl_within.calls x3 0 65535 true _ W3.out).mono ?_); rintro e_ w5 ⟨rfl, d_⟩; have b_ := kept_drawn d_; have H_5 := Aside0.mk (blk_below H_4.out b_); have HB5 := Aside0.mk (below_then HB4.out HB4.out.size b_); clear b_ d_ H_4 HB4 k0_4 k1_4 k2_4 k3_4 k4_4 k5_4 k6_4 k7_4 k8_4; obtain ⟨k0_5, k1_5, k2_5, k3_5, k4_5, k5_5, k6_5, k7_5, k8_5⟩ := CELLS.out w5 H_5.out) | (go_at_call 71; (with_reducible refine (impl_within.calls x4 0 65535 true _ W4.out).mono ?_); rintro e_ w6 ⟨rfl, d_⟩; have b_ := kept_drawn d_; have H_6 := Aside0.mk (blk_below H_5.out b_); have HB6 := Aside0.mk (below_then HB5.out HB5.out.size b_); clear b_ d_ H_5 HB5 k0_5 k1_5 k2_5 k3_5 k4_5 k5_5 k6_5 k7_5 k8_5; obtain ⟨k0_6, k1_6, k2_6, k3_6, k4_6, k5_6, k6_6, k7_6, k8_6⟩ := CELLS.out w6 H_6.out) | (go_at_call 71; (with_reducible refine (impl_within.calls x6 1 1099511627776 true _ W6.out).mono ?_); rintro e_ w7 ⟨rfl, d_⟩; have b_ := kept_drawn d_; have H_7 := Aside0.mk (blk_below H_6.out b_); have HB7 := Aside0.mk (below_then HB6.out HB6.out.size b_); clear b_ d_ H_6 HB6 k0_6 k1_6 k2_6 k3_6 k4_6 k5_6 k6_6 k7_6 k8_6; obtain ⟨k0_7, k1_7, k2_7, k3_7, k4_7, k5_7, k6_7, k7_7, k8_7⟩ := CELLS.out w7 H_7.out) | (go_at_call 71; (with_reducible refine (impl_within.calls x7 1 1099511627776 true _ W7.out).mono ?_); rintro e_ w8 ⟨rfl, d_⟩; have b_ := kept_drawn d_; have H_8 := Aside0.mk (blk_below H_7.out b_); have HB8 := Aside0.mk (below_then HB7.out HB7.out.size b_); clear b_ d_ H_7 HB7 k0_7 k1_7 k2_7 k3_7 k4_7 k5_7 k6_7 k7_7 k8_7; obtain ⟨k0_8, k1_8, k2_8, k3_8, k4_8, k5_8, k6_8, k7_8, k8_8⟩ := CELLS.out w8 H_8.out) | (go_at_call 71; (with_reducible refine (impl_within.calls x8 1 1099511627776 true _ W8.out).mono ?_); rintro e_ w9 ⟨rfl, d_⟩; have b_ := kept_drawn d_; have H_9 := Aside0.mk (blk_below H_8.out b_); have HB9 := Aside0.mk (below_then HB8.out HB8.out.size b_); clear b_ d_ H_8 HB8 k0_8 k1_8 k2_8 k3_8 k4_8 k5_8 k6_8 k7_8 k8_8; obtain ⟨k0_9, k1_9, k2_9, k3_9, k4_9, k5_9, k6_9, k7_9, k8_9⟩ := CELLS.out w9 H_9.out; obtain ⟨q0, q1, q2, q3, q4, q5, q6, q7, q8, q9, q10, q11, q12, q13, q14⟩ := CELLR.out w9 H_9.out) | (go_at_call 44; (with_reducible refine (RC.out w9).mono ?_); rintro e_ w10 ⟨rfl, d_⟩; have b_ := d_; have H_10 := Aside0.mk (blk_below H_9.out b_); have HB10 := Aside0.mk (below_then HB9.out HB9.out.size b_); clear b_ d_ H_9 HB9 k0_9 k1_9 k2_9 k3_9 k4_9 k5_9 k6_9 k7_9 k8_9; obtain ⟨k0_10, k1_10, k2_10, k3_10, k4_10, k5_10, k6_10, k7_10, k8_10⟩ := CELLS.out w10 H_10.out))
                        go_ret
                        refine ⟨?_, HB10.out⟩
                        have e_ : inodeGood a0 = false := by rw [HIN.out, decide_eq_false HZ.out]; unfold inodeOk; rw [R0.out, R1.out, R2.out, R3.out, R4.out, R5.out, R6.out, R7.out, R8.out, R9.out]; rfl
                        rw [← H.out, e_]; rfl
                      | true =>
                        have RC : Aside0 (∀ W : World, Calls Try.prog 44 #[.agg #[.int .i64 y0, .int .i64 y1, .int .i64 y2, .int .i64 y3, .int .i64 y4, .int .i64 y5, .int .i64 y6, .int .i64 y7, .int .i64 y8, .int .i64 y9, .int .i64 y10, .int .i64 y11, .int .i64 y12, .int .i64 y13, .int .i64 y14]] W fun e w' => e = .returned (.bool true) ∧ Below W.heap.size W w') := ⟨fun W => by have h_ := impl_Root_right.calls xr NR.out true W WR.out; rw [XY.out] at h_; exact h_⟩
                        go_enter Try.func52, Try.ntmps52
                        go_wp2_with (first | ((with_reducible refine gate_dst (N := 1) rfl ?_); refine hx_box rfl 1 rfl 42 (.tmp 0) rfl Sz0 (.agg (nums .i64 a0).toArray) (nums .i64 a0).toArray rfl rfl ?_; intro w1 s1 L1 Sz1 b1 g_; have H_1 := Aside0.mk g_; have HB1 := Aside0.mk (below_then HB0.out HB0.out.size b1); clear g_ HB0 b1; obtain ⟨k0_1, k1_1, k2_1, k3_1, k4_1, k5_1, k6_1, k7_1, k8_1⟩ := CELLS.out w1 H_1.out) | ((with_reducible refine gate_dst (N := 4) rfl ?_); refine hx_load rfl 42 (.tmp 1) rfl s0 24 rfl Try.underlying42 rfl (by kernel_rfl) H_1.out (nums_size _ _ _ N_.out) ?_) | ((with_reducible refine gate_dst (N := 6) rfl ?_); refine wpList_eqw rfl (.tmp 4) (.tmp 5) _ rfl eqw42 (by decide) (by kernel_rfl) a0 zz rfl (by rw [ZZ.out]; rfl) N_.out NZ.out ?_; rw [BE.out]) | (go_at_call 71; (with_reducible refine (impl_within.calls x0 1 3 true _ W0.out).mono ?_); rintro e_ w2 ⟨rfl, d_⟩; have b_ := kept_drawn d_; have H_2 := Aside0.mk (blk_below H_1.out b_); have HB2 := Aside0.mk (below_then HB1.out HB1.out.size b_); clear b_ d_ H_1 HB1 k0_1 k1_1 k2_1 k3_1 k4_1 k5_1 k6_1 k7_1 k8_1; obtain ⟨k0_2, k1_2, k2_2, k3_2, k4_2, k5_2, k6_2, k7_2, k8_2⟩ := CELLS.out w2 H_2.out) | (go_at_call 71; (with_reducible refine (impl_within.calls x1 1 1000 true _ W1.out).mono ?_); rintro e_ w3 ⟨rfl, d_⟩; have b_ := kept_drawn d_; have H_3 := Aside0.mk (blk_below H_2.out b_); have HB3 := Aside0.mk (below_then HB2.out HB2.out.size b_); clear b_ d_ H_2 HB2 k0_2 k1_2 k2_2 k3_2 k4_2 k5_2 k6_2 k7_2 k8_2; obtain ⟨k0_3, k1_3, k2_3, k3_3, k4_3, k5_3, k6_3, k7_3, k8_3⟩ := CELLS.out w3 H_3.out) | (go_at_call 71; (with_reducible refine (impl_within.calls x2 0 4095 true _ W2.out).mono ?_); rintro e_ w4 ⟨rfl, d_⟩; have b_ := kept_drawn d_; have H_4 := Aside0.mk (blk_below H_3.out b_); have HB4 := Aside0.mk (below_then HB3.out HB3.out.size b_); clear b_ d_ H_3 HB3 k0_3 k1_3 k2_3 k3_3 k4_3 k5_3 k6_3 k7_3 k8_3; obtain ⟨k0_4, k1_4, k2_4, k3_4, k4_4, k5_4, k6_4, k7_4, k8_4⟩ := CELLS.out w4 H_4.out) | (go_at_call 71; (with_reducible refine (impl_within.calls x3 0 65535 true _ W3.out).mono ?_); rintro e_ w5 ⟨rfl, d_⟩; have b_ := kept_drawn d_; have H_5 := Aside0.mk (blk_below H_4.out b_); have HB5 := Aside0.mk (below_then HB4.out HB4.out.size b_); clear b_ d_ H_4 HB4 k0_4 k1_4 k2_4 k3_4 k4_4 k5_4 k6_4 k7_4 k8_4; obtain ⟨k0_5, k1_5, k2_5, k3_5, k4_5, k5_5, k6_5, k7_5, k8_5⟩ := CELLS.out w5 H_5.out) | (go_at_call 71; (with_reducible refine (impl_within.calls x4 0 65535 true _ W4.out).mono ?_); rintro e_ w6 ⟨rfl, d_⟩; have b_ := kept_drawn d_; have H_6 := Aside0.mk (blk_below H_5.out b_); have HB6 := Aside0.mk (below_then HB5.out HB5.out.size b_); clear b_ d_ H_5 HB5 k0_5 k1_5 k2_5 k3_5 k4_5 k5_5 k6_5 k7_5 k8_5; obtain ⟨k0_6, k1_6, k2_6, k3_6, k4_6, k5_6, k6_6, k7_6, k8_6⟩ := CELLS.out w6 H_6.out) | (go_at_call 71; (with_reducible refine (impl_within.calls x6 1 1099511627776 true _ W6.out).mono ?_); rintro e_ w7 ⟨rfl, d_⟩; have b_ := kept_drawn d_; have H_7 := Aside0.mk (blk_below H_6.out b_); have HB7 := Aside0.mk (below_then HB6.out HB6.out.size b_); clear b_ d_ H_6 HB6 k0_6 k1_6 k2_6 k3_6 k4_6 k5_6 k6_6 k7_6 k8_6; obtain ⟨k0_7, k1_7, k2_7, k3_7, k4_7, k5_7, k6_7, k7_7, k8_7⟩ := CELLS.out w7 H_7.out) | (go_at_call 71; (with_reducible refine (impl_within.calls x7 1 1099511627776 true _ W7.out).mono ?_); rintro e_ w8 ⟨rfl, d_⟩; have b_ := kept_drawn d_; have H_8 := Aside0.mk (blk_below H_7.out b_); have HB8 := Aside0.mk (below_then HB7.out HB7.out.size b_); clear b_ d_ H_7 HB7 k0_7 k1_7 k2_7 k3_7 k4_7 k5_7 k6_7 k7_7 k8_7; obtain ⟨k0_8, k1_8, k2_8, k3_8, k4_8, k5_8, k6_8, k7_8, k8_8⟩ := CELLS.out w8 H_8.out) | (go_at_call 71; (with_reducible refine (impl_within.calls x8 1 1099511627776 true _ W8.out).mono ?_); rintro e_ w9 ⟨rfl, d_⟩; have b_ := kept_drawn d_; have H_9 := Aside0.mk (blk_below H_8.out b_); have HB9 := Aside0.mk (below_then HB8.out HB8.out.size b_); clear b_ d_ H_8 HB8 k0_8 k1_8 k2_8 k3_8 k4_8 k5_8 k6_8 k7_8 k8_8; obtain ⟨k0_9, k1_9, k2_9, k3_9, k4_9, k5_9, k6_9, k7_9, k8_9⟩ := CELLS.out w9 H_9.out; obtain ⟨q0, q1, q2, q3, q4, q5, q6, q7, q8, q9, q10, q11, q12, q13, q14⟩ := CELLR.out w9 H_9.out) | (go_at_call 44; (with_reducible refine (RC.out w9).mono ?_); rintro e_ w10 ⟨rfl, d_⟩; have b_ := d_; have H_10 := Aside0.mk (blk_below H_9.out b_); have HB10 := Aside0.mk (below_then HB9.out HB9.out.size b_); clear b_ d_ H_9 HB9 k0_9 k1_9 k2_9 k3_9 k4_9 k5_9 k6_9 k7_9 k8_9; obtain ⟨k0_10, k1_10, k2_10, k3_10, k4_10, k5_10, k6_10, k7_10, k8_10⟩ := CELLS.out w10 H_10.out))
                        go_ret
                        refine ⟨?_, HB10.out⟩
                        have e_ : inodeGood a0 = true := by rw [HIN.out, decide_eq_false HZ.out]; unfold inodeOk; rw [R0.out, R1.out, R2.out, R3.out, R4.out, R5.out, R6.out, R7.out, R8.out, R9.out]; rfl
                        rw [← H.out, e_]; rfl

open Go.Proofs.YtkghgjehjchajaaW Go.Proofs.YtkghgjehjchajaaW.PrintHand Go.Proofs.YtkghgjehjchajaaW.PrintHx
/-! ### impl_EncodeInode: function 23 -/
open Go.Proofs.YtkghgjehjchajaaW.PrintLe Go.Proofs.YtkghgjehjchajaaW.PrintRaw
theorem made_u8 (n : Nat) : madeCells (Value.int .u8 0).cells (n * 1) = (nums .u8 (List.replicate n 0)).toArray := by
  apply Array.ext
  · simp [madeCells, nums]
  · intro i h1 h2
    simp [madeCells, nums, Value.cells, Nat.mod_one]
theorem make_u8 {P : Program} {o : Oper} {a : Act} {w : World} (t e n : Nat) (x y : Operand) (ho : o.op = .makeSlice t x y) (hx : a.eval x = .int .i64 (n : Int)) (hy : a.eval y = .int .i64 (n : Int)) (ht : P.underlying t = some (.slice e)) (hinfo : (P.info? e).map (fun i => (i.zero, i.size, i.bytes)) = some (some (.int .u8 0), 1, 1)) (hn : n ≤ 1048576) :
    (execOp a.eval o).run P w = .ok (.value (.slice (some ⟨w.heap.size, 0, none⟩) n n)) (w.alloc (.cells (nums .u8 (List.replicate n 0)).toArray e)) := by
  obtain ⟨i0, hi, hzz⟩ := Option.map_eq_some_iff.1 hinfo
  simp only [Prod.mk.injEq] at hzz
  obtain ⟨hz0, hz1, hz2⟩ := hzz
  have hr := run_make (P := P) w t e i0 (.int .u8 0) ht hi hz0 .i64 .i64 (n : Int) (n : Int) (by omega) (by omega)
    (by
      have h3 : ((i0.bytes * n : Nat) : Int) ≤ 281474976710656 := by rw [hz2]; omega
      rwa [Int.natCast_mul] at h3) (by omega)
  simp only [Int.toNat_natCast] at hr
  rw [hz1, made_u8] at hr
  simp [execOp, ho, hx, hy, hr]
set_option maxHeartbeats 8000000 in
set_option maxRecDepth 100000 in
/-- put, on a block of bytes (the slice may begin inside it) -/
theorem impl_put_int.raw (g off n cap at_ size : Nat) (L : List Int) (v : Int) (w : World) (hg : w.heap[g]? = some (.cells (nums .u8 L).toArray 5 (0, 0))) (hn : off + n ≤ L.length) (hat : at_ + size ≤ n) (h8 : size ≤ 8) (hL : L.length ≤ 1048576) :
    Calls Try.prog 53 #[.slice (some ⟨g, off, none⟩) n cap, .int .i64 (at_ : Int), .int .i64 (size : Int), .int .i64 v] w fun e w' => e = .returned (.tuple #[]) ∧ MT g w w' ∧ w'.heap[g]? = some (.cells (nums .u8 (L.take (off + at_) ++ leB v size ++ L.drop (off + at_ + size))).toArray 5 (0, 0)) := by
  have HG := Aside0.mk hg
  have HN := Aside0.mk hn
  have HAT := Aside0.mk hat
  have H8 := Aside0.mk h8
  have HL := Aside0.mk hL
  clear hg hn hat h8 hL
  go_enter Try.func53, Try.ntmps53
  go_wp2
  go_loopw [8, 10] (fun v8 v10 wr => ∃ (j : Nat) (u : Value), u = v8 ∧ v10 = .int .i64 (j : Int) ∧ Aside0 (j ≤ size) ∧ Aside0 (MT g w wr) ∧ Aside0 (wr.heap[g]? = some (.cells (nums .u8 (L.take (off + at_) ++ leB v j ++ L.drop (off + at_ + j))).toArray 5 (0, 0)))) (fun _ v10 _ => size - (intOf v10).toNat)
  case atStart => exact ⟨0, _, rfl, rfl, ⟨Nat.zero_le _⟩, ⟨MT.refl _ _⟩, ⟨by simpa [leB] using HG.out⟩⟩
  case round =>
    obtain ⟨j, v8, rfl, rfl, hj, HM, HC⟩ := hrel
    by_cases c9 : j < size
    · have c9b0 : decide ((j : Int) < (size : Int)) = true := decide_eq_true (by omega)
      have c9b1 : decide (j < size) = true := decide_eq_true c9
      have hs8 := H8.out
      have hat2 := HAT.out
      have hn2 := HN.out
      have hl2 := HL.out
      have e1 : wrap64 ((at_ : Int) + (j : Int)) = ((at_ + j : Nat) : Int) := by unfold wrap64; omega
      have e2 : wrap64 (8 * (j : Int)) = ((8 * j : Nat) : Int) := by unfold wrap64; omega
      have q1 : (0 ≤ wrap64 ((at_ : Int) + (j : Int))) = True := eq_true (by rw [e1]; omega)
      have q2 : (wrap64 ((at_ : Int) + (j : Int)) < (n : Int)) = True := eq_true (by rw [e1]; omega)
      have q3 : (0 ≤ wrap64 (8 * (j : Int))) = True := eq_true (by rw [e2]; omega)
      have q4 : (wrap64 (8 * (j : Int)) < 0) = False := eq_false (by rw [e2]; omega)
      have q5 : decide (wrap64 (8 * (j : Int)) < 0) = false := decide_eq_false (by rw [e2]; omega)
      obtain ⟨M, hM⟩ : ∃ M, M = L.take (off + at_) ++ leB v j ++ L.drop (off + at_ + j) := ⟨_, rfl⟩
      have hml : M.length = L.length := by rw [hM, List.length_append, List.length_append, List.length_take, List.length_drop, leB_length]; omega
      have hc := HC.out
      rw [← hM] at hc
      have HC2 := Aside0.mk hc
      have HML := Aside0.mk (show off + (at_ + j) < M.length by rw [hml]; omega)
      have HMM := Aside0.mk hM
      have C9 := Aside0.mk c9
      have E1 := Aside0.mk e1
      have E2 := Aside0.mk e2
      clear hs8 hat2 hn2 hl2 hM hml hc HC c9 e1 e2
      go_wp2_with (first | ((with_reducible refine gate_store (t := 5) (p := 23) (v := .tmp 22) rfl ?_); refine st_num rfl rfl 5 (.tmp 23) (.tmp 22) rfl g (off + (at_ + j)) .u8 _ (by rw [E1.out]; rfl) rfl (by kernel_rfl) HC2.out HML.out ?_; intro w2 t2 g2))
      go_roundw
      case rel =>
        refine ⟨j + 1, _, rfl, by rw [show wrap64 ((j : Int) + 1) = ((j + 1 : Nat) : Int) by (have := C9.out; have := H8.out; unfold wrap64; omega)], ⟨by have := C9.out; omega⟩, ⟨HM.out.touch t2⟩, ⟨?_⟩⟩
        have hs8 := H8.out
        have hj2 := C9.out
        have hn2 := HN.out
        have ha2 := HAT.out
        have h_ := g2
        rw [byte_at v j (by omega), show off + (at_ + j) = (off + at_) + j by omega, set_next (p := off + at_) HMM.out (by omega), show off + at_ + (j + 1) = off + at_ + j + 1 by omega] at h_
        rw [show off + at_ + (j + 1) = off + at_ + j + 1 by omega]
        exact h_
      case measure =>
        rw [show wrap64 ((j : Int) + 1) = ((j + 1 : Nat) : Int) by (have := C9.out; have := H8.out; unfold wrap64; omega)]
        simp only [intOf, Int.toNat_natCast]
        have := C9.out
        omega
    · obtain rfl : j = size := by have := hj.out; omega
      have c9b0 : decide ((j : Int) < (j : Int)) = false := decide_eq_false (by omega)
      have c9b1 : decide (j < j) = false := decide_eq_false (by omega)
      clear c9
      go_wp2
      refine Go.Great.bodyPost_end0 rfl rfl ⟨rfl, HM.out, HC.out⟩
theorem impl_Root_put.rstep (s : Int) (xs L : List Int) (off j : Nat) (hx : xs.length = 14) (hj : j < 14) (hl : off + 64 ≤ L.length) (p : Int) (hp : p = xs.getD j 0) :
    let ls := L.take off ++ leB s 8 ++ flat4 (xs.take j) ++ L.drop (off + 8 + 4 * j)
    ls.take (off + (8 + 4 * j)) ++ leB p 4 ++ ls.drop (off + (8 + 4 * j) + 4) = L.take off ++ leB s 8 ++ flat4 (xs.take (j + 1)) ++ L.drop (off + 8 + 4 * (j + 1)) := by
  intro ls
  have h1 : (L.take off ++ leB s 8 ++ flat4 (xs.take j)).length = off + (8 + 4 * j) := by
    rw [List.length_append, List.length_append, leB_length, flat4_length, List.length_take, List.length_take, hx, Nat.min_eq_left (by omega), Nat.min_eq_left (by omega)]
    omega
  have e1 : ls.take (off + (8 + 4 * j)) = L.take off ++ leB s 8 ++ flat4 (xs.take j) := by rw [← h1]; exact List.take_left
  have e2 : ls.drop (off + (8 + 4 * j) + 4) = L.drop (off + 8 + 4 * (j + 1)) := by
    show (L.take off ++ leB s 8 ++ flat4 (xs.take j) ++ L.drop (off + 8 + 4 * j)).drop (off + (8 + 4 * j) + 4) = _
    rw [List.drop_append, h1, List.drop_eq_nil_of_le (by rw [h1]; omega), List.nil_append, List.drop_drop]
    congr 1
    omega
  rw [e1, e2, flat4_take xs j (by omega), hp, List.append_assoc (L.take off ++ leB s 8)]
theorem impl_Root_put.rlen (s : Int) (xs L : List Int) (off j : Nat) (hx : xs.length = 14) (hj : j < 14) (hl : off + 64 ≤ L.length) : (L.take off ++ leB s 8 ++ flat4 (xs.take j) ++ L.drop (off + 8 + 4 * j)).length = L.length := by
  rw [List.length_append, List.length_append, List.length_append, leB_length, flat4_length, List.length_take, List.length_take, hx, Nat.min_eq_left (by omega), Nat.min_eq_left (by omega), List.length_drop]
  omega
set_option maxHeartbeats 8000000 in
set_option maxRecDepth 100000 in
/-- Root.put, on a block of bytes (the slice may begin inside it) -/
theorem impl_Root_put.raw (a0 : List Int) (n0 : a0.length = 15) (hgood : rootGood a0 = true) (g off n cap : Nat) (L : List Int) (w : World) (hg : w.heap[g]? = some (.cells (nums .u8 L).toArray 5 (0, 0))) (hn : off + n ≤ L.length) (h64 : 64 ≤ n) (hL : L.length ≤ 1048576) :
    Calls Try.prog 45 #[.agg (nums .i64 a0).toArray, .slice (some ⟨g, off, none⟩) n cap] w fun e w' => e = .returned (.tuple #[]) ∧ MT g w w' ∧ w'.heap[g]? = some (.cells (nums .u8 (L.take off ++ rootBytes a0 ++ L.drop (off + 64))).toArray 5 (0, 0)) := by
  have N_ := Aside0.mk n0
  have HG := Aside0.mk hgood
  have HN := Aside0.mk hn
  have H64 := Aside0.mk h64
  have HL := Aside0.mk hL
  have HC0 := Aside0.mk hg
  have hgl := blk_lt hg
  have HGL := Aside0.mk hgl
  clear n0 hgood hn h64 hL hg
  obtain ⟨s, hs⟩ : ∃ s, s = a0.getD 0 0 := ⟨_, rfl⟩
  have HS := Aside0.mk hs
  clear hs
  obtain ⟨xs, hxs⟩ : ∃ xs, xs = seg a0 1 14 := ⟨_, rfl⟩
  have HP := Aside0.mk (show impl_Root_pointers.f a0 = some xs by rw [hxs]; exact if_pos N_.out)
  have HXL := Aside0.mk (show xs.length = 14 by rw [hxs]; exact part_len (n := 15) N_.out (by decide))
  have HXS := Aside0.mk hxs
  clear hxs
  have hu28 := Try.underlying28
  have HB0 : Aside0 (Below w.heap.size w w) := ⟨Below.refl _ _⟩
  obtain ⟨s0, Sz0⟩ : ∃ s0, Aside0 (w.heap.size = s0) := ⟨_, ⟨rfl⟩⟩
  have hw0 : w.heap.size ≤ s0 := Nat.le_of_eq Sz0.out
  have hw1 : s0 ≤ w.heap.size := Nat.le_of_eq Sz0.out.symm
  have hgs : g < s0 := by omega
  clear hgl
  go_enter Try.func45, Try.ntmps45
  go_wp2_with (first | ((with_reducible refine gate_dst (N := 2) rfl ?_); refine hx_box rfl 2 rfl 28 (.tmp 0) rfl Sz0 (.agg (nums .i64 a0).toArray) (nums .i64 a0).toArray rfl rfl ?_; intro w1 s1 L1 Sz1 b1 g_; have H1 := Aside0.mk g_; have HC1 := Aside0.mk (blk_below HC0.out b1); have M1 := Aside0.mk (MT.of_below (g := g) b1); clear g_ b1 HB0 HC0) | ((with_reducible refine gate_dst (N := 8) rfl ?_); refine hx_loadf rfl 3 (.tmp 7) rfl s0 0 rfl Try.underlying3 rfl H1.out (lt_len (n := 15) N_.out (by decide)) ?_; rw [← HS.out]) | ((with_reducible refine gate_dst (N := 9) rfl ?_); refine goesL_ (some 9) rfl rfl Try.func53 (by kernel_rfl) rfl #[.slice (some ⟨g, off, none⟩) n cap, .int .i64 0, .int .i64 8, .int .i64 s] rfl (by (try simp only [List.map_toArray, List.map_cons, List.map_nil]); first | done | rfl) ?_; refine (impl_put_int.raw g off n cap 0 8 L s w1 HC1.out HN.out (by have := H64.out; omega) (by decide) HL.out).mono ?_; rintro e_ w2 ⟨rfl, m_, g_⟩; refine ⟨_, rfl, ?_⟩; have H2 := Aside0.mk (m_.blk (show s0 ≠ g by omega) H1.out); have HC2 := Aside0.mk g_; have M2 := Aside0.mk (M1.out.trans m_); obtain ⟨s2, L2, Sz2⟩ := size_letter Sz1 m_.kept; clear m_ g_ H1 HC1 M1) | ((with_reducible refine gate_dst (N := 10) rfl ?_); refine hx_load rfl 28 (.tmp 2) rfl s0 15 rfl Try.underlying28 rfl (by kernel_rfl) H2.out (nums_size _ _ _ N_.out) ?_) | ((with_reducible refine gate_dst (N := 11) rfl ?_); refine goesL_ (some 11) rfl rfl Try.func72 (by kernel_rfl) rfl #[.agg (nums .i64 a0).toArray] rfl (by (try simp only [List.map_toArray, List.map_cons, List.map_nil]); first | done | rfl) ?_; refine (impl_Root_pointers.calls a0 N_.out xs _ HP.out).mono ?_; rintro e_ w3 ⟨v0_, rfl, R_, b_⟩; obtain ⟨A11, c11, rfl⟩ := Kd.R_slice R_; refine ⟨_, rfl, ?_⟩; obtain ⟨s3, L3, Sz3⟩ := size_letter Sz2 (kept_below b_); have OP := own_btw (B := 0) R_ Sz2.out Sz3 (Nat.zero_le _); have HC3 := Aside0.mk (blk_below HC2.out b_); have M3 := Aside0.mk (M2.out.then_ b_); clear R_ b_ HC2 M2 H2))
  (try simp only [Act.put, List.setIfInBounds_toArray, List.set_cons_succ, List.set_cons_zero])
  go_loopw [4, 5, 13] (fun v4 v5 v13 wr => ∃ (j : Nat) (u4 u5 : Value), u4 = v4 ∧ u5 = v5 ∧ v13 = .int .i64 (j : Int) ∧ Aside0 (j ≤ 14) ∧ Aside0 (wr.heap[g]? = some (.cells (nums .u8 (L.take off ++ leB s 8 ++ flat4 (xs.take j) ++ L.drop (off + 8 + 4 * j))).toArray 5 (0, 0))) ∧ Aside0 (Kd.R (Kd.int .i64) 3 wr 0 (Btw s2 s3) (.slice A11 xs.length c11) xs) ∧ Aside0 (MT g w wr)) (fun _ _ v13 _ => 14 - (intOf v13).toNat)
  case atStart => exact ⟨0, _, _, rfl, rfl, rfl, ⟨by omega⟩, ⟨by have := HC3.out; simpa [flat4] using this⟩, OP, M3⟩
  case round =>
    clear HC3 OP M3
    obtain ⟨j, v4, v5, rfl, rfl, rfl, hj, HC, OP, HM⟩ := hrel
    by_cases c9 : j < 14
    · have c9b0 : decide ((j : Int) < (xs.length : Int)) = true := decide_eq_true (by rw [HXL.out]; omega)
      have c9b1 : decide (j < xs.length) = true := decide_eq_true (by rw [HXL.out]; omega)
      have p112 : 0 ≤ (j : Int) := by omega
      have q112 : (j : Int) < (xs.length : Int) := by rw [HXL.out]; omega
      obtain ⟨ad112, e112, hx112⟩ := Kd.at_int (Kd.R_reads' OP.out).2.2 (j : Int) p112 q112
      cases e112
      rw [Int.toNat_natCast] at hx112
      replace p112 := eq_true p112
      replace q112 := eq_true q112
      have q113 : (j < xs.length) = True := eq_true (by rw [HXL.out]; omega)
      obtain ⟨p, hp⟩ : ∃ p, p = rd xs (j : Int) := ⟨_, rfl⟩
      rw [← hp] at hx112
      have HPV := Aside0.mk (show p = xs.getD j 0 by rw [hp, rd, Int.toNat_natCast])
      obtain ⟨ls, hls⟩ : ∃ ls, ls = L.take off ++ leB s 8 ++ flat4 (xs.take j) ++ L.drop (off + 8 + 4 * j) := ⟨_, rfl⟩
      have HLL := Aside0.mk (show ls.length = L.length by rw [hls]; exact impl_Root_put.rlen s xs L off j HXL.out c9 (by have h1_ := HN.out; have h2_ := H64.out; omega))
      have HAT := Aside0.mk (impl_Root_put.at_ j c9)
      have hc := HC.out
      rw [← hls] at hc
      have HC4 := Aside0.mk hc
      have HLS := Aside0.mk hls
      have C9 := Aside0.mk c9
      clear hp c9 hls hc HC
      go_wp2_with (first | ((with_reducible refine gate_dst (N := 23) rfl ?_); refine goesL_ (some 23) rfl rfl Try.func53 (by kernel_rfl) rfl #[.slice (some ⟨g, off, none⟩) n cap, .int .i64 ((8 + 4 * j : Nat) : Int), .int .i64 4, .int .i64 p] rfl (by (try simp only [List.map_toArray, List.map_cons, List.map_nil]); first | done | rfl | (rw [← HAT.out]; rfl)) ?_; refine (impl_put_int.raw g off n cap (8 + 4 * j) 4 ls p _ HC4.out (by rw [HLL.out]; exact HN.out) (by have h1_ := H64.out; have h2_ := C9.out; omega) (by decide) (by rw [HLL.out]; exact HL.out)).mono ?_; rintro e_ w4 ⟨rfl, m_, g_⟩; refine ⟨_, rfl, ?_⟩; have HC5 := Aside0.mk g_; have M5 := Aside0.mk (HM.out.trans m_); have OP5 := Aside0.mk (m_.R OP.out (fun k hk => by have h1_ := hk.1; omega)); clear m_ g_ HC4 HM OP))
      go_roundw
      case rel =>
        refine ⟨j + 1, _, _, rfl, rfl, by rw [show wrap64 ((j : Int) + 1) = ((j + 1 : Nat) : Int) by (have := C9.out; unfold wrap64; omega)], ⟨by have := C9.out; omega⟩, ⟨?_⟩, OP5, M5⟩
        have ho := HC5.out
        have e_ := impl_Root_put.rstep s xs L off j HXL.out C9.out (by have h1_ := HN.out; have h2_ := H64.out; omega) p HPV.out
        simp only [] at e_
        rw [← HLS.out] at e_
        rw [e_] at ho
        exact ho
      case measure =>
        rw [show wrap64 ((j : Int) + 1) = ((j + 1 : Nat) : Int) by (have := C9.out; unfold wrap64; omega)]
        simp only [intOf, Int.toNat_natCast]
        have := C9.out
        omega
    · obtain rfl : j = 14 := by have := hj.out; omega
      have c9b0 : decide ((14 : Int) < (xs.length : Int)) = false := decide_eq_false (by rw [HXL.out]; decide)
      have c9b1 : decide (14 < xs.length) = false := decide_eq_false (by rw [HXL.out]; decide)
      go_wp2
      have ho := HC.out
      rw [show xs.take 14 = xs from List.take_of_length_le (by rw [HXL.out]; exact Nat.le_refl _), HXS.out, HS.out, List.append_assoc (L.take off)] at ho
      refine Go.Great.bodyPost_end0 rfl rfl ⟨rfl, HM.out, ho⟩
open Go.Proofs.YtkghgjehjchajaaW.PrintIno
def impl_EncodeInode.f (a0 : List Int) : Option (List Int × Int) := some (if inodeGood a0 = true then (inodeBytes a0, 0) else ([], 7))
set_option maxHeartbeats 8000000 in
set_option maxRecDepth 100000 in
theorem impl_EncodeInode.calls (a0 : List Int) (n0 : a0.length = 24) (r1 : List Int) (r2 : Int) (w : World) (h : impl_EncodeInode.f a0 = some (r1, r2)) :
    Calls Try.prog 23 #[.agg (nums .i64 a0).toArray] w fun e w' => ∃ v0_ : Value, e = .returned (.tuple #[v0_, .int .i64 r2]) ∧ Kd.R (Kd.int .u8) 5 w' w.heap.size (fun _ => True) v0_ r1 ∧ Below w.heap.size w w' := by
  unfold impl_EncodeInode.f at h
  have hbl := inodeBytes_length n0
  have N_ := Aside0.mk n0
  clear n0
  have HB0 : Aside0 (Below w.heap.size w w) := ⟨Below.refl _ _⟩
  obtain ⟨s0, Sz0⟩ : ∃ s0, Aside0 (w.heap.size = s0) := ⟨_, ⟨rfl⟩⟩
  have hw0 : w.heap.size ≤ s0 := Nat.le_of_eq Sz0.out
  have hw1 : s0 ≤ w.heap.size := Nat.le_of_eq Sz0.out.symm
  by_cases hgood : inodeGood a0 = true
  case neg =>
    rw [if_neg hgood] at h
    simp only [Option.some.injEq, Prod.mk.injEq] at h
    obtain ⟨rfl, rfl⟩ := h
    have HG := Aside0.mk (show impl_Inode_right.f a0 = some false by rw [show false = inodeGood a0 by simpa using hgood]; rfl)
    clear hgood hbl
    go_enter Try.func23, Try.ntmps23
    go_wp2_with (first | ((with_reducible refine gate_dst (N := 1) rfl ?_); refine hx_box rfl 1 rfl 42 (.tmp 0) rfl Sz0 (.agg (nums .i64 a0).toArray) (nums .i64 a0).toArray rfl rfl ?_; intro w1 s1 L1 Sz1 b1 g_; have H_1 := Aside0.mk g_; have HB1 := Aside0.mk (below_then HB0.out HB0.out.size b1); clear g_ HB0 b1) | ((with_reducible refine gate_dst (N := 5) rfl ?_); refine hx_load rfl 42 (.tmp 1) rfl s0 24 rfl Try.underlying42 rfl (by kernel_rfl) H_1.out (nums_size _ _ _ N_.out) ?_) | ((with_reducible refine gate_dst (N := 6) rfl ?_); refine goesL_ (some 6) rfl rfl Try.func52 (by kernel_rfl) rfl #[.agg (nums .i64 a0).toArray] rfl (by (try simp only [List.map_toArray, List.map_cons, List.map_nil]); first | done | rfl) ?_; refine (impl_Inode_right.calls a0 N_.out false _ HG.out).mono ?_; rintro e_ w2 ⟨rfl, b_⟩; refine ⟨_, rfl, ?_⟩; have HB2 := Aside0.mk (below_then HB1.out HB1.out.size b_); have H_2 := Aside0.mk (blk_below H_1.out b_); obtain ⟨s2, L2, Sz2⟩ := size_letter Sz1 (kept_below b_); clear b_ HB1 H_1))
    go_ret2
    exact ⟨_, rfl, Kd.R_nil _ _ _ _ _, HB2.out⟩
  rw [if_pos hgood] at h
  simp only [Option.some.injEq, Prod.mk.injEq] at h
  obtain ⟨rfl, rfl⟩ := h
  have HG := Aside0.mk (show impl_Inode_right.f a0 = some true by rw [← hgood]; rfl)
  obtain ⟨g0, g1, g2, g3, g4, g5, g6, g7, g8, g9⟩ := inodeGood_get hgood
  have info5_ : (Try.prog.info? 5).map (fun i => (i.zero, i.size, i.bytes)) = some (some (.int .u8 0), 1, 1) := by kernel_rfl
  clear hgood
  obtain ⟨x0, hx0⟩ : ∃ x, x = a0.getD 0 0 := ⟨_, rfl⟩
  obtain ⟨x1, hx1⟩ : ∃ x, x = a0.getD 1 0 := ⟨_, rfl⟩
  obtain ⟨x2, hx2⟩ : ∃ x, x = a0.getD 2 0 := ⟨_, rfl⟩
  obtain ⟨x3, hx3⟩ : ∃ x, x = a0.getD 3 0 := ⟨_, rfl⟩
  obtain ⟨x4, hx4⟩ : ∃ x, x = a0.getD 4 0 := ⟨_, rfl⟩
  obtain ⟨x5, hx5⟩ : ∃ x, x = a0.getD 5 0 := ⟨_, rfl⟩
  obtain ⟨x6, hx6⟩ : ∃ x, x = a0.getD 6 0 := ⟨_, rfl⟩
  obtain ⟨x7, hx7⟩ : ∃ x, x = a0.getD 7 0 := ⟨_, rfl⟩
  obtain ⟨x8, hx8⟩ : ∃ x, x = a0.getD 8 0 := ⟨_, rfl⟩
  obtain ⟨xr, hxr⟩ : ∃ x, x = seg a0 9 15 := ⟨_, rfl⟩
  have NR := Aside0.mk (show xr.length = 15 by rw [hxr]; exact part_len N_.out (by decide))
  have G9 := Aside0.mk (show rootGood xr = true by rw [hxr]; exact g9)
  have GX := Aside0.mk (show 0 ≤ x0 ∧ x0 ≤ 255 by rw [hx0]; omega)
  have HIB := Aside0.mk (show inodeBytes a0 = ([leB x0 2, leB x1 2, leB x2 2, leB x3 2, leB x4 2, leB 0 2, leB x5 4, leB x6 8, leB x7 8, leB x8 8, rootBytes xr] : List (List Int)).flatten ++ List.replicate 24 0 by unfold inodeBytes inoParts; rw [← hx0, ← hx1, ← hx2, ← hx3, ← hx4, ← hx5, ← hx6, ← hx7, ← hx8, ← hxr])
  have HBL := Aside0.mk hbl
  have X0 := Aside0.mk hx0
  have X1 := Aside0.mk hx1
  have X2 := Aside0.mk hx2
  have X3 := Aside0.mk hx3
  have X4 := Aside0.mk hx4
  have X5 := Aside0.mk hx5
  have X6 := Aside0.mk hx6
  have X7 := Aside0.mk hx7
  have X8 := Aside0.mk hx8
  have XR := Aside0.mk hxr
  clear hx0 hx1 hx2 hx3 hx4 hx5 hx6 hx7 hx8 hxr hbl g0 g1 g2 g3 g4 g5 g6 g7 g8 g9
  go_enter Try.func23, Try.ntmps23
  go_wp2_with (first | ((with_reducible refine gate_dst (N := 1) rfl ?_); refine hx_box rfl 1 rfl 42 (.tmp 0) rfl Sz0 (.agg (nums .i64 a0).toArray) (nums .i64 a0).toArray rfl rfl ?_; intro w1 s1 L1 Sz1 b1 g_; have H_1 := Aside0.mk g_; have HB1 := Aside0.mk (below_then HB0.out HB0.out.size b1); clear g_ HB0 b1) | ((with_reducible refine gate_dst (N := 5) rfl ?_); refine hx_load rfl 42 (.tmp 1) rfl s0 24 rfl Try.underlying42 rfl (by kernel_rfl) H_1.out (nums_size _ _ _ N_.out) ?_) | ((with_reducible refine gate_dst (N := 6) rfl ?_); refine goesL_ (some 6) rfl rfl Try.func52 (by kernel_rfl) rfl #[.agg (nums .i64 a0).toArray] rfl (by (try simp only [List.map_toArray, List.map_cons, List.map_nil]); first | done | rfl) ?_; refine (impl_Inode_right.calls a0 N_.out true _ HG.out).mono ?_; rintro e_ w2 ⟨rfl, b_⟩; refine ⟨_, rfl, ?_⟩; have HB2 := Aside0.mk (below_then HB1.out HB1.out.size b_); have H_2 := Aside0.mk (blk_below H_1.out b_); obtain ⟨s2, L2, Sz2⟩ := size_letter Sz1 (kept_below b_); clear b_ HB1 H_1) | ((with_reducible refine gate_dst (N := 8) rfl ?_); refine make_num rfl (N := 8) rfl 128 5 .u8 Sz2 ?hr ?_; (case hr => exact make_u8 25 5 128 _ _ rfl rfl rfl Try.underlying25 info5_ (by decide)); intro w3 s3 L3 Sz3 b_ g_; have HB3 := Aside0.mk (below_then HB2.out HB2.out.size b_); have H_3 := Aside0.mk (blk_below H_2.out b_); obtain ⟨Q0, hq0⟩ : ∃ Q, Q = List.replicate 128 (0 : Int) := ⟨_, rfl⟩; rw [← hq0] at g_; have HC_3 := Aside0.mk g_; have E0 := Aside0.mk hq0; have N0 := Aside0.mk (show Q0.length = 128 by rw [hq0]; simp); have M_3 := Aside0.mk (MT.refl s2 w3); clear b_ g_ hq0 HB2 H_2) | ((with_reducible refine gate_dst (N := 11) rfl ?_); refine hx_loadf rfl 3 (.tmp 10) rfl s0 0 rfl Try.underlying3 rfl H_3.out (lt_len (n := 24) N_.out (by decide)) ?_; rw [← X0.out]) | ((with_reducible refine gate_dst (N := 12) rfl ?_); refine goesL_ (some 12) rfl rfl Try.func53 (by kernel_rfl) rfl #[.slice (some ⟨s2, 0, none⟩) 128 128, .int .i64 0, .int .i64 1, .int .i64 x0] rfl (by (try simp only [List.map_toArray, List.map_cons, List.map_nil]); first | done | rfl) ?_; refine (impl_put_int.raw s2 0 128 128 0 1 Q0 x0 w3 HC_3.out (by rw [N0.out]; decide) (by decide) (by decide) (by rw [N0.out]; decide)).mono ?_; rintro e_ w4 ⟨rfl, m_, g_⟩; refine ⟨_, rfl, ?_⟩; obtain ⟨Q1, hq_⟩ : ∃ Q, Q = Q0.take (0 + 0) ++ leB x0 1 ++ Q0.drop (0 + 0 + 1) := ⟨_, rfl⟩; rw [← hq_] at g_; have N1 := Aside0.mk (show Q1.length = 128 by rw [hq_, List.length_append, List.length_append, List.length_take, List.length_drop, leB_length, N0.out]; decide); have E1 := Aside0.mk hq_; have HC_4 := Aside0.mk g_; have H_4 := Aside0.mk (m_.blk (show s0 ≠ s2 by omega) H_3.out); have M_4 := Aside0.mk (M_3.out.trans m_); clear m_ g_ hq_ HC_3 H_3 M_3) | ((with_reducible refine gate_dst (N := 15) rfl ?_); refine hx_loadf rfl 3 (.tmp 14) rfl s0 1 rfl Try.underlying3 rfl H_4.out (lt_len (n := 24) N_.out (by decide)) ?_; rw [← X1.out]) | ((with_reducible refine gate_dst (N := 16) rfl ?_); refine goesL_ (some 16) rfl rfl Try.func53 (by kernel_rfl) rfl #[.slice (some ⟨s2, 0, none⟩) 128 128, .int .i64 2, .int .i64 2, .int .i64 x1] rfl (by (try simp only [List.map_toArray, List.map_cons, List.map_nil]); first | done | rfl) ?_; refine (impl_put_int.raw s2 0 128 128 2 2 Q1 x1 w4 HC_4.out (by rw [N1.out]; decide) (by decide) (by decide) (by rw [N1.out]; decide)).mono ?_; rintro e_ w5 ⟨rfl, m_, g_⟩; refine ⟨_, rfl, ?_⟩; obtain ⟨Q2, hq_⟩ : ∃ Q, Q = Q1.take (0 + 2) ++ leB x1 2 ++ Q1.drop (0 + 2 + 2) := ⟨_, rfl⟩; rw [← hq_] at g_; have N2 := Aside0.mk (show Q2.length = 128 by rw [hq_, List.length_append, List.length_append, List.length_take, List.length_drop, leB_length, N1.out]; decide); have E2 := Aside0.mk hq_; have HC_5 := Aside0.mk g_; have H_5 := Aside0.mk (m_.blk (show s0 ≠ s2 by omega) H_4.out); have M_5 := Aside0.mk (M_4.out.trans m_); clear m_ g_ hq_ HC_4 H_4 M_4) | ((with_reducible refine gate_dst (N := 19) rfl ?_); refine hx_loadf rfl 3 (.tmp 18) rfl s0 2 rfl Try.underlying3 rfl H_5.out (lt_len (n := 24) N_.out (by decide)) ?_; rw [← X2.out]) | ((with_reducible refine gate_dst (N := 20) rfl ?_); refine goesL_ (some 20) rfl rfl Try.func53 (by kernel_rfl) rfl #[.slice (some ⟨s2, 0, none⟩) 128 128, .int .i64 4, .int .i64 2, .int .i64 x2] rfl (by (try simp only [List.map_toArray, List.map_cons, List.map_nil]); first | done | rfl) ?_; refine (impl_put_int.raw s2 0 128 128 4 2 Q2 x2 w5 HC_5.out (by rw [N2.out]; decide) (by decide) (by decide) (by rw [N2.out]; decide)).mono ?_; rintro e_ w6 ⟨rfl, m_, g_⟩; refine ⟨_, rfl, ?_⟩; obtain ⟨Q3, hq_⟩ : ∃ Q, Q = Q2.take (0 + 4) ++ leB x2 2 ++ Q2.drop (0 + 4 + 2) := ⟨_, rfl⟩; rw [← hq_] at g_; have N3 := Aside0.mk (show Q3.length = 128 by rw [hq_, List.length_append, List.length_append, List.length_take, List.length_drop, leB_length, N2.out]; decide); have E3 := Aside0.mk hq_; have HC_6 := Aside0.mk g_; have H_6 := Aside0.mk (m_.blk (show s0 ≠ s2 by omega) H_5.out); have M_6 := Aside0.mk (M_5.out.trans m_); clear m_ g_ hq_ HC_5 H_5 M_5) | ((with_reducible refine gate_dst (N := 23) rfl ?_); refine hx_loadf rfl 3 (.tmp 22) rfl s0 3 rfl Try.underlying3 rfl H_6.out (lt_len (n := 24) N_.out (by decide)) ?_; rw [← X3.out]) | ((with_reducible refine gate_dst (N := 24) rfl ?_); refine goesL_ (some 24) rfl rfl Try.func53 (by kernel_rfl) rfl #[.slice (some ⟨s2, 0, none⟩) 128 128, .int .i64 6, .int .i64 2, .int .i64 x3] rfl (by (try simp only [List.map_toArray, List.map_cons, List.map_nil]); first | done | rfl) ?_; refine (impl_put_int.raw s2 0 128 128 6 2 Q3 x3 w6 HC_6.out (by rw [N3.out]; decide) (by decide) (by decide) (by rw [N3.out]; decide)).mono ?_; rintro e_ w7 ⟨rfl, m_, g_⟩; refine ⟨_, rfl, ?_⟩; obtain ⟨Q4, hq_⟩ : ∃ Q, Q = Q3.take (0 + 6) ++ leB x3 2 ++ Q3.drop (0 + 6 + 2) := ⟨_, rfl⟩; rw [← hq_] at g_; have N4 := Aside0.mk (show Q4.length = 128 by rw [hq_, List.length_append, List.length_append, List.length_take, List.length_drop, leB_length, N3.out]; decide); have E4 := Aside0.mk hq_; have HC_7 := Aside0.mk g_; have H_7 := Aside0.mk (m_.blk (show s0 ≠ s2 by omega) H_6.out); have M_7 := Aside0.mk (M_6.out.trans m_); clear m_ g_ hq_ HC_6 H_6 M_6) | ((with_reducible refine gate_dst (N := 27) rfl ?_); refine hx_loadf rfl 3 (.tmp 26) rfl s0 4 rfl Try.underlying3 rfl H_7.out (lt_len (n := 24) N_.out (by decide)) ?_; rw [← X4.out]) | ((with_reducible refine gate_dst (N := 28) rfl ?_); refine goesL_ (some 28) rfl rfl Try.func53 (by kernel_rfl) rfl #[.slice (some ⟨s2, 0, none⟩) 128 128, .int .i64 8, .int .i64 2, .int .i64 x4] rfl (by (try simp only [List.map_toArray, List.map_cons, List.map_nil]); first | done | rfl) ?_; refine (impl_put_int.raw s2 0 128 128 8 2 Q4 x4 w7 HC_7.out (by rw [N4.out]; decide) (by decide) (by decide) (by rw [N4.out]; decide)).mono ?_; rintro e_ w8 ⟨rfl, m_, g_⟩; refine ⟨_, rfl, ?_⟩; obtain ⟨Q5, hq_⟩ : ∃ Q, Q = Q4.take (0 + 8) ++ leB x4 2 ++ Q4.drop (0 + 8 + 2) := ⟨_, rfl⟩; rw [← hq_] at g_; have N5 := Aside0.mk (show Q5.length = 128 by rw [hq_, List.length_append, List.length_append, List.length_take, List.length_drop, leB_length, N4.out]; decide); have E5 := Aside0.mk hq_; have HC_8 := Aside0.mk g_; have H_8 := Aside0.mk (m_.blk (show s0 ≠ s2 by omega) H_7.out); have M_8 := Aside0.mk (M_7.out.trans m_); clear m_ g_ hq_ HC_7 H_7 M_7) | ((with_reducible refine gate_dst (N := 31) rfl ?_); refine hx_loadf rfl 3 (.tmp 30) rfl s0 5 rfl Try.underlying3 rfl H_8.out (lt_len (n := 24) N_.out (by decide)) ?_; rw [← X5.out]) | ((with_reducible refine gate_dst (N := 32) rfl ?_); refine goesL_ (some 32) rfl rfl Try.func53 (by kernel_rfl) rfl #[.slice (some ⟨s2, 0, none⟩) 128 128, .int .i64 12, .int .i64 4, .int .i64 x5] rfl (by (try simp only [List.map_toArray, List.map_cons, List.map_nil]); first | done | rfl) ?_; refine (impl_put_int.raw s2 0 128 128 12 4 Q5 x5 w8 HC_8.out (by rw [N5.out]; decide) (by decide) (by decide) (by rw [N5.out]; decide)).mono ?_; rintro e_ w9 ⟨rfl, m_, g_⟩; refine ⟨_, rfl, ?_⟩; obtain ⟨Q6, hq_⟩ : ∃ Q, Q = Q5.take (0 + 12) ++ leB x5 4 ++ Q5.drop (0 + 12 + 4) := ⟨_, rfl⟩; rw [← hq_] at g_; have N6 := Aside0.mk (show Q6.length = 128 by rw [hq_, List.length_append, List.length_append, List.length_take, List.length_drop, leB_length, N5.out]; decide); have E6 := Aside0.mk hq_; have HC_9 := Aside0.mk g_; have H_9 := Aside0.mk (m_.blk (show s0 ≠ s2 by omega) H_8.out); have M_9 := Aside0.mk (M_8.out.trans m_); clear m_ g_ hq_ HC_8 H_8 M_8) | ((with_reducible refine gate_dst (N := 35) rfl ?_); refine hx_loadf rfl 3 (.tmp 34) rfl s0 6 rfl Try.underlying3 rfl H_9.out (lt_len (n := 24) N_.out (by decide)) ?_; rw [← X6.out]) | ((with_reducible refine gate_dst (N := 36) rfl ?_); refine goesL_ (some 36) rfl rfl Try.func53 (by kernel_rfl) rfl #[.slice (some ⟨s2, 0, none⟩) 128 128, .int .i64 16, .int .i64 8, .int .i64 x6] rfl (by (try simp only [List.map_toArray, List.map_cons, List.map_nil]); first | done | rfl) ?_; refine (impl_put_int.raw s2 0 128 128 16 8 Q6 x6 w9 HC_9.out (by rw [N6.out]; decide) (by decide) (by decide) (by rw [N6.out]; decide)).mono ?_; rintro e_ w10 ⟨rfl, m_, g_⟩; refine ⟨_, rfl, ?_⟩; obtain ⟨Q7, hq_⟩ : ∃ Q, Q = Q6.take (0 + 16) ++ leB x6 8 ++ Q6.drop (0 + 16 + 8) := ⟨_, rfl⟩; rw [← hq_] at g_; have N7 := Aside0.mk (show Q7.length = 128 by rw [hq_, List.length_append, List.length_append, List.length_take, List.length_drop, leB_length, N6.out]; decide); have E7 := Aside0.mk hq_; have HC_10 := Aside0.mk g_; have H_10 := Aside0.mk (m_.blk (show s0 ≠ s2 by omega) H_9.out); have M_10 := Aside0.mk (M_9.out.trans m_); clear m_ g_ hq_ HC_9 H_9 M_9) | ((with_reducible refine gate_dst (N := 39) rfl ?_); refine hx_loadf rfl 3 (.tmp 38) rfl s0 7 rfl Try.underlying3 rfl H_10.out (lt_len (n := 24) N_.out (by decide)) ?_; rw [← X7.out]) | ((with_reducible refine gate_dst (N := 40) rfl ?_); refine goesL_ (some 40) rfl rfl Try.func53 (by kernel_rfl) rfl #[.slice (some ⟨s2, 0, none⟩) 128 128, .int .i64 24, .int .i64 8, .int .i64 x7] rfl (by (try simp only [List.map_toArray, List.map_cons, List.map_nil]); first | done | rfl) ?_; refine (impl_put_int.raw s2 0 128 128 24 8 Q7 x7 w10 HC_10.out (by rw [N7.out]; decide) (by decide) (by decide) (by rw [N7.out]; decide)).mono ?_; rintro e_ w11 ⟨rfl, m_, g_⟩; refine ⟨_, rfl, ?_⟩; obtain ⟨Q8, hq_⟩ : ∃ Q, Q = Q7.take (0 + 24) ++ leB x7 8 ++ Q7.drop (0 + 24 + 8) := ⟨_, rfl⟩; rw [← hq_] at g_; have N8 := Aside0.mk (show Q8.length = 128 by rw [hq_, List.length_append, List.length_append, List.length_take, List.length_drop, leB_length, N7.out]; decide); have E8 := Aside0.mk hq_; have HC_11 := Aside0.mk g_; have H_11 := Aside0.mk (m_.blk (show s0 ≠ s2 by omega) H_10.out); have M_11 := Aside0.mk (M_10.out.trans m_); clear m_ g_ hq_ HC_10 H_10 M_10) | ((with_reducible refine gate_dst (N := 43) rfl ?_); refine hx_loadf rfl 3 (.tmp 42) rfl s0 8 rfl Try.underlying3 rfl H_11.out (lt_len (n := 24) N_.out (by decide)) ?_; rw [← X8.out]) | ((with_reducible refine gate_dst (N := 44) rfl ?_); refine goesL_ (some 44) rfl rfl Try.func53 (by kernel_rfl) rfl #[.slice (some ⟨s2, 0, none⟩) 128 128, .int .i64 32, .int .i64 8, .int .i64 x8] rfl (by (try simp only [List.map_toArray, List.map_cons, List.map_nil]); first | done | rfl) ?_; refine (impl_put_int.raw s2 0 128 128 32 8 Q8 x8 w11 HC_11.out (by rw [N8.out]; decide) (by decide) (by decide) (by rw [N8.out]; decide)).mono ?_; rintro e_ w12 ⟨rfl, m_, g_⟩; refine ⟨_, rfl, ?_⟩; obtain ⟨Q9, hq_⟩ : ∃ Q, Q = Q8.take (0 + 32) ++ leB x8 8 ++ Q8.drop (0 + 32 + 8) := ⟨_, rfl⟩; rw [← hq_] at g_; have N9 := Aside0.mk (show Q9.length = 128 by rw [hq_, List.length_append, List.length_append, List.length_take, List.length_drop, leB_length, N8.out]; decide); have E9 := Aside0.mk hq_; have HC_12 := Aside0.mk g_; have H_12 := Aside0.mk (m_.blk (show s0 ≠ s2 by omega) H_11.out); have M_12 := Aside0.mk (M_11.out.trans m_); clear m_ g_ hq_ HC_11 H_11 M_11))
  refine PrintQTail.wp_region_quiet_tail 4 (by kernel_rfl) (by kernel_rfl) ?_
  simp only [List.take_succ_cons, List.take_zero, List.drop_succ_cons, List.drop_zero]
  quiet_step (fail)
  refine quiet_load_at rfl 28 (.tmp 45) rfl ⟨s0, 9, none⟩ rfl xr 15 Try.underlying28 rfl (by kernel_rfl) NR.out (fun i hi => by have h_ := row_cell H_12.out (9 + i) (by rw [N_.out]; omega); rw [show (⟨s0, 9, none⟩ : Addr).add i = ⟨s0, 9 + i, none⟩ by unfold Addr.add; split <;> simp_all]; rw [XR.out, seg_getD _ _ _ _ hi]; exact h_) ?_
  quiet_step (fail)
  quiet_step (fail)
  refine wpQuiet_nil ?_
  intro w_ hw_
  obtain ⟨nq, rfl⟩ := hw_
  go_wp2_with (first | ((with_reducible refine gate_dst (N := 49) rfl ?_); refine goesL_ (some 49) rfl rfl Try.func45 (by kernel_rfl) rfl #[.agg (nums .i64 xr).toArray, .slice (some ⟨s2, 40, none⟩) 88 88] rfl (by (try simp only [List.map_toArray, List.map_cons, List.map_nil]); first | done | rfl) ?_; refine (impl_Root_put.raw xr NR.out G9.out s2 40 88 88 Q9 _ (blk_drewN HC_12.out _) (by rw [N9.out]; decide) (by decide) (by rw [N9.out]; decide)).mono ?_; rintro e_ w13 ⟨rfl, m_, g_⟩; refine ⟨_, rfl, ?_⟩; have HC_13 := Aside0.mk g_; have M_13 := Aside0.mk ((M_12.out.then_ (pw_below_drewN (Below.refl _ _) nq)).trans m_); clear m_ g_))
  go_ret2
  have hfin := ino_puts (rootBytes_length NR.out) GX.out E0.out E1.out E2.out E3.out E4.out E5.out E6.out E7.out E8.out E9.out rfl
  rw [← HIB.out] at hfin
  have hc := HC_13.out
  rw [hfin] at hc
  have ho := own_blk (B := w.heap.size) hc (by omega) (by rw [HBL.out]; decide)
  rw [HBL.out] at ho
  exact ⟨_, rfl, ho, M_13.out.below HB3.out HB3.out.size (by omega)⟩

end Go.Proofs.Ytkghgjehjchajaa.PFnExactDecodeTable
