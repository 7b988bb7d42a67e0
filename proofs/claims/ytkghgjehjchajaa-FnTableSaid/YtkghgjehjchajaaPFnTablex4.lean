-- Written by a program of this session (patch_print.py over the kit print)
import Derived.Test.YtkghgjehjchajaaPFnTablex0
import Derived.Test.YtkghgjehjchajaaPFnTablex2
import Derived.Test.YtkghgjehjchajaaPFnTablex3
namespace Go.Proofs.Ytkghgjehjchajaa.PFnTable
open Go.RowKit Go.Proofs.YtkghgjehjchajaaW.PrintWords Go.Proofs.YtkghgjehjchajaaW.PrintLast Go.Proofs.YtkghgjehjchajaaW.PrintMore
attribute [local go_sem] max2_int min2_int max_two min_two max_three min_three max_four min_four   -- for this text's walks alone
set_option linter.unusedVariables false
set_option linter.unusedSimpArgs false

open Go.Proofs.YtkghgjehjchajaaW Go.Proofs.YtkghgjehjchajaaW.PrintHand Go.Proofs.YtkghgjehjchajaaW.PrintHx
/-! ### spec_l02InodeBytes: function 51 -/
open Go.Proofs.YtkghgjehjchajaaW.PrintLe Go.Proofs.YtkghgjehjchajaaW.PrintGrow Go.Proofs.YtkghgjehjchajaaW.PrintIno
def sumL : List (List Int) → Nat
  | [] => 0
  | x :: r => x.length + sumL r
theorem sumL_append (a b : List (List Int)) : sumL (a ++ b) = sumL a + sumL b := by
  induction a with
  | nil => simp [sumL]
  | cons x a ih => simp [sumL, ih]; omega
theorem sumL_flatten (a : List (List Int)) : sumL a = a.flatten.length := by
  induction a with
  | nil => simp [sumL]
  | cons x a ih => simp [sumL, ih]
theorem l02Join_l0 (xs : List (List Int)) (hx : xs.length ≤ 1048576) : ∀ (d i k : Nat) (out : List Int), i + d = xs.length → d < k → out.length + sumL (xs.drop i) < 140737488355328 → spec_l02Join.l0 k out xs (xs.length : Int) (i : Int) = some (out ++ (xs.drop i).flatten)
  | 0, i, k, out, h1, h2, h3 => by
    obtain ⟨k, rfl⟩ := sucK h2
    simp only [spec_l02Join.l0]
    rw [if_neg (by omega), List.drop_eq_nil_of_le (by omega)]
    simp
  | d + 1, i, k, out, h1, h2, h3 => by
    obtain ⟨k, rfl⟩ := sucK h2
    simp only [spec_l02Join.l0]
    have hi : i < xs.length := by omega
    have hr : rd_L1 xs (i : Int) = xs[i] := by simp [rd_L1, hi]
    have hd := List.drop_eq_getElem_cons hi
    rw [hd, sumL] at h3
    rw [if_pos (by omega), if_pos (by omega), if_pos (by omega), hr, if_pos (by omega), w64n (by omega), l02Join_l0 xs hx d (i + 1) k _ (by omega) (by omega) (by rw [List.length_append]; omega), List.append_assoc]
    conv => rhs; rw [hd, List.flatten_cons]
theorem l02Join_f (xs : List (List Int)) (k : Nat) (hx : xs.length ≤ 1048576) (hk : xs.length < k) (hl : sumL xs < 140737488355328) : spec_l02Join.f k xs = some xs.flatten := by
  unfold spec_l02Join.f
  have h := l02Join_l0 xs hx xs.length 0 k [] (by omega) hk (by simpa using hl)
  simpa using h
theorem l02Fill_l0 (n : Nat) (hn : n ≤ 1048576) : ∀ (d k : Nat) (l : List Int), l.length + d = n → d < k → spec_l02Fill.l0 k (n : Int) l = some (l ++ List.replicate d 0)
  | 0, k, l, h1, h2 => by
    obtain ⟨k, rfl⟩ := sucK h2
    simp only [spec_l02Fill.l0]
    rw [if_neg (by omega)]
    simp
  | d + 1, k, l, h1, h2 => by
    obtain ⟨k, rfl⟩ := sucK h2
    simp only [spec_l02Fill.l0]
    rw [if_pos (by omega), if_pos (by omega), l02Fill_l0 n hn d k _ (by rw [List.length_append, List.length_singleton]; omega) (by omega), List.append_assoc]
    rfl
theorem l02Fill_f (l : List Int) (n d k : Nat) (hn : n ≤ 1048576) (hl : l.length + d = n) (hk : d < k) : spec_l02Fill.f k l (n : Int) = some (l ++ List.replicate d 0) := by
  unfold spec_l02Fill.f
  simp only [Option.bind_some]
  rw [if_pos (by simp; omega), List.nil_append]
  exact l02Fill_l0 n hn d k l hl hk
def spec_l02InodeBytes.f (a0 : List Int) : Option (List Int) := if inodeGood a0 = true then some (inodeBytes a0) else none
set_option maxHeartbeats 8000000 in
set_option maxRecDepth 100000 in
theorem spec_l02InodeBytes.calls (a0 : List Int) (n0 : a0.length = 24) (r : List Int) (w : World) (h : spec_l02InodeBytes.f a0 = some r) :
    Calls Try.prog 51 #[.agg (nums .i64 a0).toArray] w fun e w' => ∃ v0_ : Value, e = .returned (v0_) ∧ Kd.R (Kd.int .u8) 5 w' w.heap.size (fun _ => True) v0_ r ∧ Below w.heap.size w w' := by
  unfold spec_l02InodeBytes.f at h
  by_cases hgood : inodeGood a0 = true
  case neg => rw [if_neg hgood] at h; cases h
  rw [if_pos hgood] at h
  obtain rfl := Option.some.inj h
  have N_ := Aside0.mk n0
  have hbl := inodeBytes_length n0
  obtain ⟨g0, g1, g2, g3, g4, g5, g6, g7, g8, g9⟩ := inodeGood_get hgood
  clear n0 h hgood
  obtain ⟨x0, hx0⟩ : ∃ x, x = a0.getD 0 0 := ⟨_, rfl⟩
  obtain ⟨x1, hx1⟩ : ∃ x, x = a0.getD 1 0 := ⟨_, rfl⟩
  obtain ⟨x2, hx2⟩ : ∃ x, x = a0.getD 2 0 := ⟨_, rfl⟩
  obtain ⟨x3, hx3⟩ : ∃ x, x = a0.getD 3 0 := ⟨_, rfl⟩
  obtain ⟨x4, hx4⟩ : ∃ x, x = a0.getD 4 0 := ⟨_, rfl⟩
  obtain ⟨x5, hx5⟩ : ∃ x, x = a0.getD 5 0 := ⟨_, rfl⟩
  obtain ⟨x6, hx6⟩ : ∃ x, x = a0.getD 6 0 := ⟨_, rfl⟩
  obtain ⟨x7, hx7⟩ : ∃ x, x = a0.getD 7 0 := ⟨_, rfl⟩
  obtain ⟨x8, hx8⟩ : ∃ x, x = a0.getD 8 0 := ⟨_, rfl⟩
  obtain ⟨xr, hxr⟩ : ∃ x, x = seg a0 9 15 := ⟨_, rfl⟩
  have NR := Aside0.mk (show xr.length = 15 by rw [hxr]; exact part_len N_.out (by decide))
  rw [← hx0] at g0
  rw [← hx1] at g1
  rw [← hx2] at g2
  rw [← hx3] at g3
  rw [← hx4] at g4
  rw [← hx5] at g5
  rw [← hx6] at g6
  rw [← hx7] at g7
  rw [← hx8] at g8
  rw [← hxr] at g9
  have E0 := Aside0.mk (show spec_l02Put.f 20 x0 2 = some (leB x0 2) from l02Put_f x0 2 20 (by decide) (by omega) (by omega) (by decide))
  have E1 := Aside0.mk (show spec_l02Put.f 20 x1 2 = some (leB x1 2) from l02Put_f x1 2 20 (by decide) (by omega) (by omega) (by decide))
  have E2 := Aside0.mk (show spec_l02Put.f 20 x2 2 = some (leB x2 2) from l02Put_f x2 2 20 (by decide) (by omega) (by omega) (by decide))
  have E3 := Aside0.mk (show spec_l02Put.f 20 x3 2 = some (leB x3 2) from l02Put_f x3 2 20 (by decide) (by omega) (by omega) (by decide))
  have E4 := Aside0.mk (show spec_l02Put.f 20 x4 2 = some (leB x4 2) from l02Put_f x4 2 20 (by decide) (by omega) (by omega) (by decide))
  have E5 := Aside0.mk (show spec_l02Put.f 20 0 2 = some (leB 0 2) from l02Put_f 0 2 20 (by decide) (by omega) (by omega) (by decide))
  have E6 := Aside0.mk (show spec_l02Put.f 20 x5 4 = some (leB x5 4) from l02Put_f x5 4 20 (by decide) (by omega) (by omega) (by decide))
  have E7 := Aside0.mk (show spec_l02Put.f 20 x6 8 = some (leB x6 8) from l02Put_f x6 8 20 (by decide) (by omega) (by omega) (by decide))
  have E8 := Aside0.mk (show spec_l02Put.f 20 x7 8 = some (leB x7 8) from l02Put_f x7 8 20 (by decide) (by omega) (by omega) (by decide))
  have E9 := Aside0.mk (show spec_l02Put.f 20 x8 8 = some (leB x8 8) from l02Put_f x8 8 20 (by decide) (by omega) (by omega) (by decide))
  have ER := Aside0.mk (show spec_l02RootBytes.f xr = some (rootBytes xr) from if_pos g9)
  obtain ⟨fl, hfl⟩ : ∃ fl, fl = ([leB x0 2, leB x1 2, leB x2 2, leB x3 2, leB x4 2, leB 0 2, leB x5 4, leB x6 8, leB x7 8, leB x8 8, rootBytes xr] : List (List Int)).flatten := ⟨_, rfl⟩
  have hpa : inoParts a0 = [leB x0 2, leB x1 2, leB x2 2, leB x3 2, leB x4 2, leB 0 2, leB x5 4, leB x6 8, leB x7 8, leB x8 8, rootBytes xr] := by unfold inoParts; rw [← hx0, ← hx1, ← hx2, ← hx3, ← hx4, ← hx5, ← hx6, ← hx7, ← hx8, ← hxr]
  have hib : inodeBytes a0 = fl ++ List.replicate 24 0 := by unfold inodeBytes; rw [hpa, hfl]
  have hll : fl.length = 104 := by rw [hib, List.length_append, List.length_replicate] at hbl; omega
  obtain ⟨fb, hfb⟩ : ∃ fb, fb = fl ++ List.replicate 24 0 := ⟨_, rfl⟩
  rw [hib, ← hfb]
  have EJ := Aside0.mk (show spec_l02Join.f 20 [leB x0 2, leB x1 2, leB x2 2, leB x3 2, leB x4 2, leB 0 2, leB x5 4, leB x6 8, leB x7 8, leB x8 8, rootBytes xr] = some fl by rw [hfl]; exact l02Join_f _ 20 (by simp) (by simp) (by rw [sumL_flatten, ← hfl]; omega))
  have EF := Aside0.mk (show spec_l02Fill.f 40 fl 128 = some fb by rw [hfb]; exact l02Fill_f fl 128 24 40 (by decide) (by omega) (by decide))
  clear hfb
  have X0 := Aside0.mk hx0
  have X1 := Aside0.mk hx1
  have X2 := Aside0.mk hx2
  have X3 := Aside0.mk hx3
  have X4 := Aside0.mk hx4
  have X5 := Aside0.mk hx5
  have X6 := Aside0.mk hx6
  have X7 := Aside0.mk hx7
  have X8 := Aside0.mk hx8
  have XR := Aside0.mk hxr
  clear hx0 hx1 hx2 hx3 hx4 hx5 hx6 hx7 hx8 hxr hfl hpa hib hll hbl g0 g1 g2 g3 g4 g5 g6 g7 g8 g9
  have HB0 : Aside0 (Below w.heap.size w w) := ⟨Below.refl _ _⟩
  obtain ⟨s0, Sz0⟩ : ∃ s0, Aside0 (w.heap.size = s0) := ⟨_, ⟨rfl⟩⟩
  have hw0 : w.heap.size ≤ s0 := Nat.le_of_eq Sz0.out
  have hw1 : s0 ≤ w.heap.size := Nat.le_of_eq Sz0.out.symm
  go_enter Try.func51, Try.ntmps51
  go_wp2_with (first | ((with_reducible refine gate_dst (N := 1) rfl ?_); refine hx_box rfl 1 rfl 42 (.tmp 0) rfl Sz0 (.agg (nums .i64 a0).toArray) (nums .i64 a0).toArray rfl rfl ?_; intro w1 s1 L1 Sz1 b1 g_; have H_1 := Aside0.mk g_; have HB1 := Aside0.mk (below_then HB0.out HB0.out.size b1); clear g_ HB0 b1))
  have HBS := Aside0.mk HB1.out.size
  refine wp_region_grow [Is (.pointer (some ⟨s0, 0, none⟩)), Is (.int .i64 x0), Own (Kd.int .u8) 5 w.heap.size (leB x0 2), Is (.pointer (some ⟨s0, 1, none⟩)), Is (.int .i64 x1), Own (Kd.int .u8) 5 w.heap.size (leB x1 2), Is (.pointer (some ⟨s0, 2, none⟩)), Is (.int .i64 x2), Own (Kd.int .u8) 5 w.heap.size (leB x2 2), Is (.pointer (some ⟨s0, 3, none⟩)), Is (.int .i64 x3), Own (Kd.int .u8) 5 w.heap.size (leB x3 2), Is (.pointer (some ⟨s0, 4, none⟩)), Is (.int .i64 x4), Own (Kd.int .u8) 5 w.heap.size (leB x4 2), Own (Kd.int .u8) 5 w.heap.size (leB 0 2), Is (.pointer (some ⟨s0, 5, none⟩)), Is (.int .i64 x5), Own (Kd.int .u8) 5 w.heap.size (leB x5 4), Is (.pointer (some ⟨s0, 6, none⟩)), Is (.int .i64 x6), Own (Kd.int .u8) 5 w.heap.size (leB x6 8), Is (.pointer (some ⟨s0, 7, none⟩)), Is (.int .i64 x7), Own (Kd.int .u8) 5 w.heap.size (leB x7 8), Is (.pointer (some ⟨s0, 8, none⟩)), Is (.int .i64 x8), Own (Kd.int .u8) 5 w.heap.size (leB x8 8), Is (.pointer (some ⟨s0, 9, none⟩)), Is (.agg (nums .i64 xr).toArray), Own (Kd.int .u8) 5 w.heap.size (rootBytes xr), Row (Kd.slice 5 (Kd.int .u8)) [(leB x0 2), (leB x1 2), (leB x2 2), (leB x3 2), (leB x4 2), (leB 0 2), (leB x5 4), (leB x6 8), (leB x7 8), (leB x8 8), (rootBytes xr)], Own (Kd.int .u8) 5 w.heap.size fl, Own (Kd.int .u8) 5 w.heap.size fl] (by kernel_rfl) (by kernel_rfl) (by kernel_rfl) (allst_cons st_is (allst_cons st_is (allst_cons st_own (allst_cons st_is (allst_cons st_is (allst_cons st_own (allst_cons st_is (allst_cons st_is (allst_cons st_own (allst_cons st_is (allst_cons st_is (allst_cons st_own (allst_cons st_is (allst_cons st_is (allst_cons st_own (allst_cons st_own (allst_cons st_is (allst_cons st_is (allst_cons st_own (allst_cons st_is (allst_cons st_is (allst_cons st_own (allst_cons st_is (allst_cons st_is (allst_cons st_own (allst_cons st_is (allst_cons st_is (allst_cons st_own (allst_cons st_is (allst_cons st_is (allst_cons st_own (allst_cons st_row (allst_cons st_own (allst_cons st_own allst_nil)))))))))))))))))))))))))))))))))) ?_ (fun w2 hgn => ?_)
  · refine steps_cons ?_ ?_
    · refine stepO_val rfl [] [1] (by kernel_rfl) (.pointer (some ⟨s0, 0, none⟩)) (fun a w_ hg hf => ?_) (fun w_ _ => rfl)
      obtain ⟨_, ⟨o1, _⟩⟩ := hf
      have e1 : a.tmps[1]? = some (.pointer (some ⟨s0, 0, none⟩)) := o1.trans rfl
      unfold execOp
      simp only [PrintLast.eval_of e1, Act.eval]
      go_simp
      (try rfl)
    refine steps_cons ?_ ?_
    · refine stepO_val rfl [(0, 4)] [] (by kernel_rfl) (.int .i64 x0) (fun a w_ hg hf => ?_) (fun w_ _ => rfl)
      obtain ⟨⟨⟨_, e4, rfl⟩, _⟩, _⟩ := hf
      replace e4 : a.tmps[4]? = some (.pointer (some ⟨s0, 0, none⟩)) := e4
      have c_ : w_.cell? ⟨s0, 0, none⟩ = some (.int .i64 x0) := by have h_ := row_cell (blk_below H_1.out hg) 0 (lt_len (n := 24) N_.out (by decide)); rw [← X0.out] at h_; exact h_
      unfold execOp
      simp only [PrintLast.eval_of e4, Act.eval]
      go_simp
      (try rfl)
    refine steps_cons ?_ ?_
    · refine stepO_call rfl [(1, 5)] [] (by kernel_rfl) Try.func70 (by kernel_rfl) rfl rfl (fun a w_ hg hf => ?_)
      obtain ⟨⟨⟨_, e5, rfl⟩, _⟩, _⟩ := hf
      replace e5 : a.tmps[5]? = some (.int .i64 x0) := e5
      refine ⟨#[.int .i64 x0, .int .i64 2], (by simp only [List.map_toArray, List.map_cons, List.map_nil, PrintLast.eval_of e5]; first | done | rfl), (spec_l02Put.calls 20 x0 2 (leB x0 2) w_ E0.out).mono ?_⟩
      rintro e_ w2_ ⟨v_, rfl, R_, b_⟩
      exact ⟨_, rfl, b_, Kd.R_lower R_ (Nat.le_trans HBS.out hg.size)⟩
    refine steps_cons ?_ ?_
    · refine stepO_val rfl [] [1] (by kernel_rfl) (.pointer (some ⟨s0, 1, none⟩)) (fun a w_ hg hf => ?_) (fun w_ _ => rfl)
      obtain ⟨_, ⟨o1, _⟩⟩ := hf
      have e1 : a.tmps[1]? = some (.pointer (some ⟨s0, 0, none⟩)) := o1.trans rfl
      unfold execOp
      simp only [PrintLast.eval_of e1, Act.eval]
      go_simp
      (try rfl)
    refine steps_cons ?_ ?_
    · refine stepO_val rfl [(3, 7)] [] (by kernel_rfl) (.int .i64 x1) (fun a w_ hg hf => ?_) (fun w_ _ => rfl)
      obtain ⟨⟨⟨_, e7, rfl⟩, _⟩, _⟩ := hf
      replace e7 : a.tmps[7]? = some (.pointer (some ⟨s0, 1, none⟩)) := e7
      have c_ : w_.cell? ⟨s0, 1, none⟩ = some (.int .i64 x1) := by have h_ := row_cell (blk_below H_1.out hg) 1 (lt_len (n := 24) N_.out (by decide)); rw [← X1.out] at h_; exact h_
      unfold execOp
      simp only [PrintLast.eval_of e7, Act.eval]
      go_simp
      (try rfl)
    refine steps_cons ?_ ?_
    · refine stepO_call rfl [(4, 8)] [] (by kernel_rfl) Try.func70 (by kernel_rfl) rfl rfl (fun a w_ hg hf => ?_)
      obtain ⟨⟨⟨_, e8, rfl⟩, _⟩, _⟩ := hf
      replace e8 : a.tmps[8]? = some (.int .i64 x1) := e8
      refine ⟨#[.int .i64 x1, .int .i64 2], (by simp only [List.map_toArray, List.map_cons, List.map_nil, PrintLast.eval_of e8]; first | done | rfl), (spec_l02Put.calls 20 x1 2 (leB x1 2) w_ E1.out).mono ?_⟩
      rintro e_ w2_ ⟨v_, rfl, R_, b_⟩
      exact ⟨_, rfl, b_, Kd.R_lower R_ (Nat.le_trans HBS.out hg.size)⟩
    refine steps_cons ?_ ?_
    · refine stepO_val rfl [] [1] (by kernel_rfl) (.pointer (some ⟨s0, 2, none⟩)) (fun a w_ hg hf => ?_) (fun w_ _ => rfl)
      obtain ⟨_, ⟨o1, _⟩⟩ := hf
      have e1 : a.tmps[1]? = some (.pointer (some ⟨s0, 0, none⟩)) := o1.trans rfl
      unfold execOp
      simp only [PrintLast.eval_of e1, Act.eval]
      go_simp
      (try rfl)
    refine steps_cons ?_ ?_
    · refine stepO_val rfl [(6, 10)] [] (by kernel_rfl) (.int .i64 x2) (fun a w_ hg hf => ?_) (fun w_ _ => rfl)
      obtain ⟨⟨⟨_, e10, rfl⟩, _⟩, _⟩ := hf
      replace e10 : a.tmps[10]? = some (.pointer (some ⟨s0, 2, none⟩)) := e10
      have c_ : w_.cell? ⟨s0, 2, none⟩ = some (.int .i64 x2) := by have h_ := row_cell (blk_below H_1.out hg) 2 (lt_len (n := 24) N_.out (by decide)); rw [← X2.out] at h_; exact h_
      unfold execOp
      simp only [PrintLast.eval_of e10, Act.eval]
      go_simp
      (try rfl)
    refine steps_cons ?_ ?_
    · refine stepO_call rfl [(7, 11)] [] (by kernel_rfl) Try.func70 (by kernel_rfl) rfl rfl (fun a w_ hg hf => ?_)
      obtain ⟨⟨⟨_, e11, rfl⟩, _⟩, _⟩ := hf
      replace e11 : a.tmps[11]? = some (.int .i64 x2) := e11
      refine ⟨#[.int .i64 x2, .int .i64 2], (by simp only [List.map_toArray, List.map_cons, List.map_nil, PrintLast.eval_of e11]; first | done | rfl), (spec_l02Put.calls 20 x2 2 (leB x2 2) w_ E2.out).mono ?_⟩
      rintro e_ w2_ ⟨v_, rfl, R_, b_⟩
      exact ⟨_, rfl, b_, Kd.R_lower R_ (Nat.le_trans HBS.out hg.size)⟩
    refine steps_cons ?_ ?_
    · refine stepO_val rfl [] [1] (by kernel_rfl) (.pointer (some ⟨s0, 3, none⟩)) (fun a w_ hg hf => ?_) (fun w_ _ => rfl)
      obtain ⟨_, ⟨o1, _⟩⟩ := hf
      have e1 : a.tmps[1]? = some (.pointer (some ⟨s0, 0, none⟩)) := o1.trans rfl
      unfold execOp
      simp only [PrintLast.eval_of e1, Act.eval]
      go_simp
      (try rfl)
    refine steps_cons ?_ ?_
    · refine stepO_val rfl [(9, 13)] [] (by kernel_rfl) (.int .i64 x3) (fun a w_ hg hf => ?_) (fun w_ _ => rfl)
      obtain ⟨⟨⟨_, e13, rfl⟩, _⟩, _⟩ := hf
      replace e13 : a.tmps[13]? = some (.pointer (some ⟨s0, 3, none⟩)) := e13
      have c_ : w_.cell? ⟨s0, 3, none⟩ = some (.int .i64 x3) := by have h_ := row_cell (blk_below H_1.out hg) 3 (lt_len (n := 24) N_.out (by decide)); rw [← X3.out] at h_; exact h_
      unfold execOp
      simp only [PrintLast.eval_of e13, Act.eval]
      go_simp
      (try rfl)
    refine steps_cons ?_ ?_
    · refine stepO_call rfl [(10, 14)] [] (by kernel_rfl) Try.func70 (by kernel_rfl) rfl rfl (fun a w_ hg hf => ?_)
      obtain ⟨⟨⟨_, e14, rfl⟩, _⟩, _⟩ := hf
      replace e14 : a.tmps[14]? = some (.int .i64 x3) := e14
      refine ⟨#[.int .i64 x3, .int .i64 2], (by simp only [List.map_toArray, List.map_cons, List.map_nil, PrintLast.eval_of e14]; first | done | rfl), (spec_l02Put.calls 20 x3 2 (leB x3 2) w_ E3.out).mono ?_⟩
      rintro e_ w2_ ⟨v_, rfl, R_, b_⟩
      exact ⟨_, rfl, b_, Kd.R_lower R_ (Nat.le_trans HBS.out hg.size)⟩
    refine steps_cons ?_ ?_
    · refine stepO_val rfl [] [1] (by kernel_rfl) (.pointer (some ⟨s0, 4, none⟩)) (fun a w_ hg hf => ?_) (fun w_ _ => rfl)
      obtain ⟨_, ⟨o1, _⟩⟩ := hf
      have e1 : a.tmps[1]? = some (.pointer (some ⟨s0, 0, none⟩)) := o1.trans rfl
      unfold execOp
      simp only [PrintLast.eval_of e1, Act.eval]
      go_simp
      (try rfl)
    refine steps_cons ?_ ?_
    · refine stepO_val rfl [(12, 16)] [] (by kernel_rfl) (.int .i64 x4) (fun a w_ hg hf => ?_) (fun w_ _ => rfl)
      obtain ⟨⟨⟨_, e16, rfl⟩, _⟩, _⟩ := hf
      replace e16 : a.tmps[16]? = some (.pointer (some ⟨s0, 4, none⟩)) := e16
      have c_ : w_.cell? ⟨s0, 4, none⟩ = some (.int .i64 x4) := by have h_ := row_cell (blk_below H_1.out hg) 4 (lt_len (n := 24) N_.out (by decide)); rw [← X4.out] at h_; exact h_
      unfold execOp
      simp only [PrintLast.eval_of e16, Act.eval]
      go_simp
      (try rfl)
    refine steps_cons ?_ ?_
    · refine stepO_call rfl [(13, 17)] [] (by kernel_rfl) Try.func70 (by kernel_rfl) rfl rfl (fun a w_ hg hf => ?_)
      obtain ⟨⟨⟨_, e17, rfl⟩, _⟩, _⟩ := hf
      replace e17 : a.tmps[17]? = some (.int .i64 x4) := e17
      refine ⟨#[.int .i64 x4, .int .i64 2], (by simp only [List.map_toArray, List.map_cons, List.map_nil, PrintLast.eval_of e17]; first | done | rfl), (spec_l02Put.calls 20 x4 2 (leB x4 2) w_ E4.out).mono ?_⟩
      rintro e_ w2_ ⟨v_, rfl, R_, b_⟩
      exact ⟨_, rfl, b_, Kd.R_lower R_ (Nat.le_trans HBS.out hg.size)⟩
    refine steps_cons ?_ ?_
    · refine stepO_call rfl [] [] (by kernel_rfl) Try.func70 (by kernel_rfl) rfl rfl (fun a w_ hg hf => ?_)
      obtain ⟨_, _⟩ := hf
      refine ⟨#[.int .i64 0, .int .i64 2], (by simp only [List.map_toArray, List.map_cons, List.map_nil]; first | done | rfl), (spec_l02Put.calls 20 0 2 (leB 0 2) w_ E5.out).mono ?_⟩
      rintro e_ w2_ ⟨v_, rfl, R_, b_⟩
      exact ⟨_, rfl, b_, Kd.R_lower R_ (Nat.le_trans HBS.out hg.size)⟩
    refine steps_cons ?_ ?_
    · refine stepO_val rfl [] [1] (by kernel_rfl) (.pointer (some ⟨s0, 5, none⟩)) (fun a w_ hg hf => ?_) (fun w_ _ => rfl)
      obtain ⟨_, ⟨o1, _⟩⟩ := hf
      have e1 : a.tmps[1]? = some (.pointer (some ⟨s0, 0, none⟩)) := o1.trans rfl
      unfold execOp
      simp only [PrintLast.eval_of e1, Act.eval]
      go_simp
      (try rfl)
    refine steps_cons ?_ ?_
    · refine stepO_val rfl [(16, 20)] [] (by kernel_rfl) (.int .i64 x5) (fun a w_ hg hf => ?_) (fun w_ _ => rfl)
      obtain ⟨⟨⟨_, e20, rfl⟩, _⟩, _⟩ := hf
      replace e20 : a.tmps[20]? = some (.pointer (some ⟨s0, 5, none⟩)) := e20
      have c_ : w_.cell? ⟨s0, 5, none⟩ = some (.int .i64 x5) := by have h_ := row_cell (blk_below H_1.out hg) 5 (lt_len (n := 24) N_.out (by decide)); rw [← X5.out] at h_; exact h_
      unfold execOp
      simp only [PrintLast.eval_of e20, Act.eval]
      go_simp
      (try rfl)
    refine steps_cons ?_ ?_
    · refine stepO_call rfl [(17, 21)] [] (by kernel_rfl) Try.func70 (by kernel_rfl) rfl rfl (fun a w_ hg hf => ?_)
      obtain ⟨⟨⟨_, e21, rfl⟩, _⟩, _⟩ := hf
      replace e21 : a.tmps[21]? = some (.int .i64 x5) := e21
      refine ⟨#[.int .i64 x5, .int .i64 4], (by simp only [List.map_toArray, List.map_cons, List.map_nil, PrintLast.eval_of e21]; first | done | rfl), (spec_l02Put.calls 20 x5 4 (leB x5 4) w_ E6.out).mono ?_⟩
      rintro e_ w2_ ⟨v_, rfl, R_, b_⟩
      exact ⟨_, rfl, b_, Kd.R_lower R_ (Nat.le_trans HBS.out hg.size)⟩
    refine steps_cons ?_ ?_
    · refine stepO_val rfl [] [1] (by kernel_rfl) (.pointer (some ⟨s0, 6, none⟩)) (fun a w_ hg hf => ?_) (fun w_ _ => rfl)
      obtain ⟨_, ⟨o1, _⟩⟩ := hf
      have e1 : a.tmps[1]? = some (.pointer (some ⟨s0, 0, none⟩)) := o1.trans rfl
      unfold execOp
      simp only [PrintLast.eval_of e1, Act.eval]
      go_simp
      (try rfl)
    refine steps_cons ?_ ?_
    · refine stepO_val rfl [(19, 23)] [] (by kernel_rfl) (.int .i64 x6) (fun a w_ hg hf => ?_) (fun w_ _ => rfl)
      obtain ⟨⟨⟨_, e23, rfl⟩, _⟩, _⟩ := hf
      replace e23 : a.tmps[23]? = some (.pointer (some ⟨s0, 6, none⟩)) := e23
      have c_ : w_.cell? ⟨s0, 6, none⟩ = some (.int .i64 x6) := by have h_ := row_cell (blk_below H_1.out hg) 6 (lt_len (n := 24) N_.out (by decide)); rw [← X6.out] at h_; exact h_
      unfold execOp
      simp only [PrintLast.eval_of e23, Act.eval]
      go_simp
      (try rfl)
    refine steps_cons ?_ ?_
    · refine stepO_call rfl [(20, 24)] [] (by kernel_rfl) Try.func70 (by kernel_rfl) rfl rfl (fun a w_ hg hf => ?_)
      obtain ⟨⟨⟨_, e24, rfl⟩, _⟩, _⟩ := hf
      replace e24 : a.tmps[24]? = some (.int .i64 x6) := e24
      refine ⟨#[.int .i64 x6, .int .i64 8], (by simp only [List.map_toArray, List.map_cons, List.map_nil, PrintLast.eval_of e24]; first | done | rfl), (spec_l02Put.calls 20 x6 8 (leB x6 8) w_ E7.out).mono ?_⟩
      rintro e_ w2_ ⟨v_, rfl, R_, b_⟩
      exact ⟨_, rfl, b_, Kd.R_lower R_ (Nat.le_trans HBS.out hg.size)⟩
    refine steps_cons ?_ ?_
    · refine stepO_val rfl [] [1] (by kernel_rfl) (.pointer (some ⟨s0, 7, none⟩)) (fun a w_ hg hf => ?_) (fun w_ _ => rfl)
      obtain ⟨_, ⟨o1, _⟩⟩ := hf
      have e1 : a.tmps[1]? = some (.pointer (some ⟨s0, 0, none⟩)) := o1.trans rfl
      unfold execOp
      simp only [PrintLast.eval_of e1, Act.eval]
      go_simp
      (try rfl)
    refine steps_cons ?_ ?_
    · refine stepO_val rfl [(22, 26)] [] (by kernel_rfl) (.int .i64 x7) (fun a w_ hg hf => ?_) (fun w_ _ => rfl)
      obtain ⟨⟨⟨_, e26, rfl⟩, _⟩, _⟩ := hf
      replace e26 : a.tmps[26]? = some (.pointer (some ⟨s0, 7, none⟩)) := e26
      have c_ : w_.cell? ⟨s0, 7, none⟩ = some (.int .i64 x7) := by have h_ := row_cell (blk_below H_1.out hg) 7 (lt_len (n := 24) N_.out (by decide)); rw [← X7.out] at h_; exact h_
      unfold execOp
      simp only [PrintLast.eval_of e26, Act.eval]
      go_simp
      (try rfl)
    refine steps_cons ?_ ?_
    · refine stepO_call rfl [(23, 27)] [] (by kernel_rfl) Try.func70 (by kernel_rfl) rfl rfl (fun a w_ hg hf => ?_)
      obtain ⟨⟨⟨_, e27, rfl⟩, _⟩, _⟩ := hf
      replace e27 : a.tmps[27]? = some (.int .i64 x7) := e27
      refine ⟨#[.int .i64 x7, .int .i64 8], (by simp only [List.map_toArray, List.map_cons, List.map_nil, PrintLast.eval_of e27]; first | done | rfl), (spec_l02Put.calls 20 x7 8 (leB x7 8) w_ E8.out).mono ?_⟩
      rintro e_ w2_ ⟨v_, rfl, R_, b_⟩
      exact ⟨_, rfl, b_, Kd.R_lower R_ (Nat.le_trans HBS.out hg.size)⟩
    refine steps_cons ?_ ?_
    · refine stepO_val rfl [] [1] (by kernel_rfl) (.pointer (some ⟨s0, 8, none⟩)) (fun a w_ hg hf => ?_) (fun w_ _ => rfl)
      obtain ⟨_, ⟨o1, _⟩⟩ := hf
      have e1 : a.tmps[1]? = some (.pointer (some ⟨s0, 0, none⟩)) := o1.trans rfl
      unfold execOp
      simp only [PrintLast.eval_of e1, Act.eval]
      go_simp
      (try rfl)
    refine steps_cons ?_ ?_
    · refine stepO_val rfl [(25, 29)] [] (by kernel_rfl) (.int .i64 x8) (fun a w_ hg hf => ?_) (fun w_ _ => rfl)
      obtain ⟨⟨⟨_, e29, rfl⟩, _⟩, _⟩ := hf
      replace e29 : a.tmps[29]? = some (.pointer (some ⟨s0, 8, none⟩)) := e29
      have c_ : w_.cell? ⟨s0, 8, none⟩ = some (.int .i64 x8) := by have h_ := row_cell (blk_below H_1.out hg) 8 (lt_len (n := 24) N_.out (by decide)); rw [← X8.out] at h_; exact h_
      unfold execOp
      simp only [PrintLast.eval_of e29, Act.eval]
      go_simp
      (try rfl)
    refine steps_cons ?_ ?_
    · refine stepO_call rfl [(26, 30)] [] (by kernel_rfl) Try.func70 (by kernel_rfl) rfl rfl (fun a w_ hg hf => ?_)
      obtain ⟨⟨⟨_, e30, rfl⟩, _⟩, _⟩ := hf
      replace e30 : a.tmps[30]? = some (.int .i64 x8) := e30
      refine ⟨#[.int .i64 x8, .int .i64 8], (by simp only [List.map_toArray, List.map_cons, List.map_nil, PrintLast.eval_of e30]; first | done | rfl), (spec_l02Put.calls 20 x8 8 (leB x8 8) w_ E9.out).mono ?_⟩
      rintro e_ w2_ ⟨v_, rfl, R_, b_⟩
      exact ⟨_, rfl, b_, Kd.R_lower R_ (Nat.le_trans HBS.out hg.size)⟩
    refine steps_cons ?_ ?_
    · refine stepO_val rfl [] [1] (by kernel_rfl) (.pointer (some ⟨s0, 9, none⟩)) (fun a w_ hg hf => ?_) (fun w_ _ => rfl)
      obtain ⟨_, ⟨o1, _⟩⟩ := hf
      have e1 : a.tmps[1]? = some (.pointer (some ⟨s0, 0, none⟩)) := o1.trans rfl
      unfold execOp
      simp only [PrintLast.eval_of e1, Act.eval]
      go_simp
      (try rfl)
    refine steps_cons ?_ ?_
    · refine stepO_val rfl [(28, 32)] [] (by kernel_rfl) (.agg (nums .i64 xr).toArray) (fun a w_ hg hf => ?_) (fun w_ _ => rfl)
      obtain ⟨⟨⟨_, e32, rfl⟩, _⟩, _⟩ := hf
      replace e32 : a.tmps[32]? = some (.pointer (some ⟨s0, 9, none⟩)) := e32
      have c_ : (loadVar 28 ⟨s0, 9, none⟩).run Try.prog w_ = .ok (.agg (nums .i64 xr).toArray) w_ := by have h_ := run_load_part (P := Try.prog) w_ s0 9 15 42 28 _ (0, 0) _ (blk_below H_1.out hg) Try.underlying28 rfl (by kernel_rfl) (by rw [nums_size _ _ _ N_.out]; decide); rw [take_nums, Array.toArray_toList] at h_; rw [XR.out]; exact h_
      unfold execOp
      simp only [PrintLast.eval_of e32, Instr.loadAt, Instr.sureAddr, Sem.run_bind, Sem.run_pure, Result.andThen_ok, c_]
    refine steps_cons ?_ ?_
    · refine stepO_call rfl [(29, 33)] [] (by kernel_rfl) Try.func42 (by kernel_rfl) rfl rfl (fun a w_ hg hf => ?_)
      obtain ⟨⟨⟨_, e33, rfl⟩, _⟩, _⟩ := hf
      replace e33 : a.tmps[33]? = some (.agg (nums .i64 xr).toArray) := e33
      refine ⟨#[.agg (nums .i64 xr).toArray], (by simp only [List.map_toArray, List.map_cons, List.map_nil, PrintLast.eval_of e33]; first | done | rfl), (spec_l02RootBytes.calls xr NR.out (rootBytes xr) w_ ER.out).mono ?_⟩
      rintro e_ w2_ ⟨v_, rfl, R_, b_⟩
      exact ⟨_, rfl, b_, Kd.R_lower R_ (Nat.le_trans HBS.out hg.size)⟩
    refine steps_cons ?_ ?_
    · refine stepO_lit rfl [(2, 6), (5, 9), (8, 12), (11, 15), (14, 18), (15, 19), (18, 22), (21, 25), (24, 28), (27, 31), (30, 34)] [] (by kernel_rfl) (Kd.int .u8) 5 25 [(leB x0 2), (leB x1 2), (leB x2 2), (leB x3 2), (leB x4 2), (leB 0 2), (leB x5 4), (leB x6 8), (leB x7 8), (leB x8 8), (rootBytes xr)] (by simp) (fun a w_ hg hf => ?_) (fun _ _ h => h)
      obtain ⟨⟨⟨v6, e6, p6⟩, ⟨v9, e9, p9⟩, ⟨v12, e12, p12⟩, ⟨v15, e15, p15⟩, ⟨v18, e18, p18⟩, ⟨v19, e19, p19⟩, ⟨v22, e22, p22⟩, ⟨v25, e25, p25⟩, ⟨v28, e28, p28⟩, ⟨v31, e31, p31⟩, ⟨v34, e34, p34⟩, _⟩, _⟩ := hf
      replace e6 : a.tmps[6]? = some (v6) := e6
      replace e9 : a.tmps[9]? = some (v9) := e9
      replace e12 : a.tmps[12]? = some (v12) := e12
      replace e15 : a.tmps[15]? = some (v15) := e15
      replace e18 : a.tmps[18]? = some (v18) := e18
      replace e19 : a.tmps[19]? = some (v19) := e19
      replace e22 : a.tmps[22]? = some (v22) := e22
      replace e25 : a.tmps[25]? = some (v25) := e25
      replace e28 : a.tmps[28]? = some (v28) := e28
      replace e31 : a.tmps[31]? = some (v31) := e31
      replace e34 : a.tmps[34]? = some (v34) := e34
      obtain ⟨A34, c34, rfl, h34, C34⟩ := own_row p34
      obtain ⟨A31, c31, rfl, h31, C31⟩ := own_row p31
      obtain ⟨A28, c28, rfl, h28, C28⟩ := own_row p28
      obtain ⟨A25, c25, rfl, h25, C25⟩ := own_row p25
      obtain ⟨A22, c22, rfl, h22, C22⟩ := own_row p22
      obtain ⟨A19, c19, rfl, h19, C19⟩ := own_row p19
      obtain ⟨A18, c18, rfl, h18, C18⟩ := own_row p18
      obtain ⟨A15, c15, rfl, h15, C15⟩ := own_row p15
      obtain ⟨A12, c12, rfl, h12, C12⟩ := own_row p12
      obtain ⟨A9, c9, rfl, h9, C9⟩ := own_row p9
      obtain ⟨A6, c6, rfl, h6, C6⟩ := own_row p6
      refine ⟨[(.slice A6 (leB x0 2).length c6), (.slice A9 (leB x1 2).length c9), (.slice A12 (leB x2 2).length c12), (.slice A15 (leB x3 2).length c15), (.slice A18 (leB x4 2).length c18), (.slice A19 (leB 0 2).length c19), (.slice A22 (leB x5 4).length c22), (.slice A25 (leB x6 8).length c25), (.slice A28 (leB x7 8).length c28), (.slice A31 (leB x8 8).length c31), (.slice A34 (rootBytes xr).length c34)], rows_cons ⟨_, _, rfl, h6, C6⟩ (rows_cons ⟨_, _, rfl, h9, C9⟩ (rows_cons ⟨_, _, rfl, h12, C12⟩ (rows_cons ⟨_, _, rfl, h15, C15⟩ (rows_cons ⟨_, _, rfl, h18, C18⟩ (rows_cons ⟨_, _, rfl, h19, C19⟩ (rows_cons ⟨_, _, rfl, h22, C22⟩ (rows_cons ⟨_, _, rfl, h25, C25⟩ (rows_cons ⟨_, _, rfl, h28, C28⟩ (rows_cons ⟨_, _, rfl, h31, C31⟩ (rows_cons ⟨_, _, rfl, h34, C34⟩ (rows_nil))))))))))), ?_⟩
      unfold execOp
      simp only [PrintLast.eval_of e6, PrintLast.eval_of e9, PrintLast.eval_of e12, PrintLast.eval_of e15, PrintLast.eval_of e18, PrintLast.eval_of e19, PrintLast.eval_of e22, PrintLast.eval_of e25, PrintLast.eval_of e28, PrintLast.eval_of e31, PrintLast.eval_of e34]
      go_simp
      (try rfl)
    refine steps_cons ?_ ?_
    · refine stepO_call rfl [(31, 35)] [] (by kernel_rfl) Try.func78 (by kernel_rfl) rfl rfl (fun a w_ hg hf => ?_)
      obtain ⟨⟨⟨v35, e35, p35⟩, _⟩, _⟩ := hf
      replace e35 : a.tmps[35]? = some (v35) := e35
      obtain ⟨A35, c35, rfl, h35, C35⟩ := p35
      refine ⟨#[.slice A35 [(leB x0 2), (leB x1 2), (leB x2 2), (leB x3 2), (leB x4 2), (leB 0 2), (leB x5 4), (leB x6 8), (leB x7 8), (leB x8 8), (rootBytes xr)].length c35], (by simp only [List.map_toArray, List.map_cons, List.map_nil, PrintLast.eval_of e35]; first | done | rfl), (spec_l02Join.calls 20 A35 c35 _ fl w_ C35 h35 EJ.out).mono ?_⟩
      rintro e_ w2_ ⟨v_, rfl, R_, b_⟩
      exact ⟨_, rfl, b_, Kd.R_lower R_ (Nat.le_trans HBS.out hg.size)⟩
    refine steps_cons ?_ ?_
    · refine stepO_run rfl [(32, 36)] [] (by kernel_rfl) (fun a w_ hg hf => ?_)
      obtain ⟨⟨⟨v36, e36, p36⟩, _⟩, _⟩ := hf
      replace e36 : a.tmps[36]? = some (v36) := e36
      exact ⟨v36, w_, by unfold execOp; simp only [PrintLast.eval_of e36]; rfl, Below.refl _ _, p36⟩
    exact steps_nil
  · skip
    refine ends_cons (fun v0_ p0_ => ?_)
    obtain rfl : v0_ = _ := p0_
    refine ends_cons (fun v1_ p1_ => ?_)
    obtain rfl : v1_ = _ := p1_
    refine ends_cons (fun v2_ p2_ => ?_)
    replace p2_ := Aside0.mk (show Own (Kd.int .u8) 5 w.heap.size (leB x0 2) v2_ w2 from p2_)
    refine ends_cons (fun v3_ p3_ => ?_)
    obtain rfl : v3_ = _ := p3_
    refine ends_cons (fun v4_ p4_ => ?_)
    obtain rfl : v4_ = _ := p4_
    refine ends_cons (fun v5_ p5_ => ?_)
    replace p5_ := Aside0.mk (show Own (Kd.int .u8) 5 w.heap.size (leB x1 2) v5_ w2 from p5_)
    refine ends_cons (fun v6_ p6_ => ?_)
    obtain rfl : v6_ = _ := p6_
    refine ends_cons (fun v7_ p7_ => ?_)
    obtain rfl : v7_ = _ := p7_
    refine ends_cons (fun v8_ p8_ => ?_)
    replace p8_ := Aside0.mk (show Own (Kd.int .u8) 5 w.heap.size (leB x2 2) v8_ w2 from p8_)
    refine ends_cons (fun v9_ p9_ => ?_)
    obtain rfl : v9_ = _ := p9_
    refine ends_cons (fun v10_ p10_ => ?_)
    obtain rfl : v10_ = _ := p10_
    refine ends_cons (fun v11_ p11_ => ?_)
    replace p11_ := Aside0.mk (show Own (Kd.int .u8) 5 w.heap.size (leB x3 2) v11_ w2 from p11_)
    refine ends_cons (fun v12_ p12_ => ?_)
    obtain rfl : v12_ = _ := p12_
    refine ends_cons (fun v13_ p13_ => ?_)
    obtain rfl : v13_ = _ := p13_
    refine ends_cons (fun v14_ p14_ => ?_)
    replace p14_ := Aside0.mk (show Own (Kd.int .u8) 5 w.heap.size (leB x4 2) v14_ w2 from p14_)
    refine ends_cons (fun v15_ p15_ => ?_)
    replace p15_ := Aside0.mk (show Own (Kd.int .u8) 5 w.heap.size (leB 0 2) v15_ w2 from p15_)
    refine ends_cons (fun v16_ p16_ => ?_)
    obtain rfl : v16_ = _ := p16_
    refine ends_cons (fun v17_ p17_ => ?_)
    obtain rfl : v17_ = _ := p17_
    refine ends_cons (fun v18_ p18_ => ?_)
    replace p18_ := Aside0.mk (show Own (Kd.int .u8) 5 w.heap.size (leB x5 4) v18_ w2 from p18_)
    refine ends_cons (fun v19_ p19_ => ?_)
    obtain rfl : v19_ = _ := p19_
    refine ends_cons (fun v20_ p20_ => ?_)
    obtain rfl : v20_ = _ := p20_
    refine ends_cons (fun v21_ p21_ => ?_)
    replace p21_ := Aside0.mk (show Own (Kd.int .u8) 5 w.heap.size (leB x6 8) v21_ w2 from p21_)
    refine ends_cons (fun v22_ p22_ => ?_)
    obtain rfl : v22_ = _ := p22_
    refine ends_cons (fun v23_ p23_ => ?_)
    obtain rfl : v23_ = _ := p23_
    refine ends_cons (fun v24_ p24_ => ?_)
    replace p24_ := Aside0.mk (show Own (Kd.int .u8) 5 w.heap.size (leB x7 8) v24_ w2 from p24_)
    refine ends_cons (fun v25_ p25_ => ?_)
    obtain rfl : v25_ = _ := p25_
    refine ends_cons (fun v26_ p26_ => ?_)
    obtain rfl : v26_ = _ := p26_
    refine ends_cons (fun v27_ p27_ => ?_)
    replace p27_ := Aside0.mk (show Own (Kd.int .u8) 5 w.heap.size (leB x8 8) v27_ w2 from p27_)
    refine ends_cons (fun v28_ p28_ => ?_)
    obtain rfl : v28_ = _ := p28_
    refine ends_cons (fun v29_ p29_ => ?_)
    obtain rfl : v29_ = _ := p29_
    refine ends_cons (fun v30_ p30_ => ?_)
    replace p30_ := Aside0.mk (show Own (Kd.int .u8) 5 w.heap.size (rootBytes xr) v30_ w2 from p30_)
    refine ends_cons (fun v31_ p31_ => ?_)
    replace p31_ := Aside0.mk (show Row (Kd.slice 5 (Kd.int .u8)) [(leB x0 2), (leB x1 2), (leB x2 2), (leB x3 2), (leB x4 2), (leB 0 2), (leB x5 4), (leB x6 8), (leB x7 8), (leB x8 8), (rootBytes xr)] v31_ w2 from p31_)
    refine ends_cons (fun v32_ p32_ => ?_)
    replace p32_ := Aside0.mk (show Own (Kd.int .u8) 5 w.heap.size fl v32_ w2 from p32_)
    refine ends_cons (fun v33_ p33_ => ?_)
    replace p33_ := Aside0.mk (show Own (Kd.int .u8) 5 w.heap.size fl v33_ w2 from p33_)
    refine ends_nil ?_
    simp only [Act.put, List.setIfInBounds_toArray, List.set_cons_succ, List.set_cons_zero]
    have HB2 := Aside0.mk (below_then HB1.out HB1.out.size hgn)
    obtain ⟨A3, c3, rfl⟩ := Kd.R_slice p33_.out
    have O3_2 : Aside0 (Kd.R (Kd.int .u8) 5 w2 w.heap.size (fun _ => True) (.slice A3 fl.length c3) fl) := ⟨p33_.out⟩
    clear p2_ p5_ p8_ p11_ p14_ p15_ p18_ p21_ p24_ p27_ p30_ p31_ p32_ p33_ HB1 hgn
    go_wp2_with (first | ((with_reducible refine gate_dst (N := 38) rfl ?_); refine goesL_ (some 38) rfl rfl Try.func79 (by kernel_rfl) rfl #[.slice A3 fl.length c3, .int .i64 128] rfl (by (try simp only [List.map_toArray, List.map_cons, List.map_nil]); first | done | rfl) ?_; refine (spec_l02Fill.calls 40 A3 c3 fl 128 fb w2 (Kd.R_reads' O3_2.out).2.2 (Kd.R_reads' O3_2.out).2.1 EF.out).mono ?_; rintro e_ w3 ⟨v_, rfl, R_, b_⟩; obtain ⟨A38, c38, rfl⟩ := Kd.R_slice R_; refine ⟨_, rfl, ?_⟩; have O38_3 := Aside0.mk (Kd.R_lower R_ HB2.out.size); clear R_; have HB3 := Aside0.mk (below_then HB2.out HB2.out.size b_); have O3_3 := Aside0.mk (Kd.R_below O3_2.out b_); clear b_ HB2 O3_2))
    go_ret
    exact ⟨_, rfl, O38_3.out, HB3.out⟩

open Go.Proofs.YtkghgjehjchajaaW Go.Proofs.YtkghgjehjchajaaW.PrintHand Go.Proofs.YtkghgjehjchajaaW.PrintHx
/-! ### spec_l05Bytes: function 58 -/
open Go.Proofs.YtkghgjehjchajaaW.PrintLe Go.Proofs.YtkghgjehjchajaaW.PrintIno Go.Proofs.YtkghgjehjchajaaW.PrintTabl Go.Proofs.YtkghgjehjchajaaW.PrintTab2
def spec_l05Bytes.f (l0 : List (List Int)) : Option (List Int) := if allGood l0 = true ∧ lastOf l0 ≤ 1000 then some (tableBytes l0) else none
set_option maxHeartbeats 8000000 in
set_option maxRecDepth 100000 in
theorem spec_l05Bytes.calls (A0 : Option Addr) (c0 : Nat) (l0 : List (List Int)) (r : List Int) (w : World) (hr0 : Kd.C (PrintHx.wide 24) w A0 l0.length l0) (hc0 : l0.length ≤ c0) (h : spec_l05Bytes.f l0 = some r) :
    Calls Try.prog 58 #[.slice A0 l0.length c0] w fun e w' => ∃ v0_ : Value, e = .returned (v0_) ∧ Kd.R (Kd.int .u8) 5 w' w.heap.size (fun _ => True) v0_ r ∧ Below w.heap.size w w' := by
  unfold spec_l05Bytes.f at h
  by_cases hdom : allGood l0 = true ∧ lastOf l0 ≤ 1000
  case neg => rw [if_neg hdom] at h; cases h
  rw [if_pos hdom] at h
  obtain rfl := Option.some.inj h
  have HW := Aside0.mk (wide_len hr0)
  have HR0 := Aside0.mk hr0
  have HC0 := Aside0.mk hc0
  have HG := Aside0.mk hdom.1
  obtain ⟨m, hm⟩ : ∃ m : Nat, (m : Int) = lastOf l0 := ⟨(lastOf l0).toNat, by have := lastOf_pos l0; omega⟩
  have HM := Aside0.mk (show m ≤ 1000 by have := hdom.2; omega)
  have HRES := Aside0.mk (show tableBytes l0 = tableBytesTo l0 (m + 1) by unfold tableBytes; rw [show (lastOf l0).toNat = m by omega])
  have HLAST := Aside0.mk (show spec_l05Last.f l0 = some (m : Int) by rw [hm]; rfl)
  have HLEN := Aside0.mk (show l0.length ≤ 9223372036854775807 from hr0.2.1)
  have info5_ : (Try.prog.info? 5).map (fun i => (i.zero, i.size, i.bytes)) = some (some (.int .u8 0), 1, 1) := by kernel_rfl
  have Z42 : ∀ w, (zeroValue 42).run Try.prog w = .ok (.agg (nums .i64 (List.replicate 24 0)).toArray) w := fun _ => by kernel_rfl
  obtain ⟨zz, hzz⟩ : ∃ z, z = List.replicate 24 (0 : Int) := ⟨_, rfl⟩
  have ZZ := Aside0.mk hzz
  have NZ := Aside0.mk (show zz.length = 24 by rw [hzz]; simp)
  have HB := Aside0.mk (Below.refl w.heap.size w)
  clear hr0 hc0 h hdom hm hzz
  go_enter Try.func58, Try.ntmps58
  go_wp2
  (try simp only [Act.put, List.setIfInBounds_toArray, List.set_cons_succ, List.set_cons_zero])
  go_loopw [3, 4, 5] (fun v3 v4 v5 wr => ∃ (j : Nat) (u3 u5 : Value), u3 = v3 ∧ u5 = v5 ∧ v4 = .int .i64 (j : Int) ∧ Aside0 (j ≤ m + 1) ∧ Aside0 (Kd.R (Kd.int .u8) 5 wr w.heap.size (fun _ => True) v3 (tableBytesTo l0 j)) ∧ Aside0 (Below w.heap.size w wr)) (fun _ v4 _ _ => 1002 - (intOf v4).toNat)
  case atStart => exact ⟨0, _, _, rfl, rfl, rfl, ⟨Nat.zero_le _⟩, ⟨PrintRaw.own_blk (L := []) (blk_new _ _) (Nat.le_refl _) (by decide)⟩, ⟨below_alloc (Below.refl _ _) _⟩⟩
  case round =>
    clear HB
    obtain ⟨j, v3, v5, rfl, rfl, rfl, hj, OO, HB⟩ := hrel
    obtain ⟨bs, hbs⟩ : ∃ bs, bs = tableBytesTo l0 j := ⟨_, rfl⟩
    have HBL := Aside0.mk (show bs.length = 128 * j by rw [hbs]; exact tableBytesTo_length HW.out j)
    rw [← hbs] at OO
    have HBS := Aside0.mk hbs
    clear hbs
    by_cases c9 : j ≤ m
    · have c9b0 : decide ((j : Int) ≤ (m : Int)) = true := decide_eq_true (by omega)
      have c9b1 : decide (j ≤ m) = true := decide_eq_true c9
      have C9 := Aside0.mk c9
      clear c9
      obtain ⟨x, hx⟩ : ∃ x, x = atI l0 j := ⟨_, rfl⟩
      have HXL := Aside0.mk (show x.length = 24 by rw [hx]; exact atI_length HW.out j)
      have HXB := Aside0.mk (show spec_l02InodeBytes.f x = some (inodeBytes x) by rw [hx]; exact if_pos (atI_good HG.out j))
      have HYL := Aside0.mk (inodeBytes_length HXL.out)
      by_cases c10 : j < l0.length
      · have c10b0 : decide ((j : Int) < (l0.length : Int)) = true := decide_eq_true (by omega)
        have c10b1 : decide (j < l0.length) = true := decide_eq_true c10
        have q3 : ((j : Int) < (l0.length : Int)) = True := eq_true (by omega)
        have q4 : (0 ≤ (j : Int)) = True := eq_true (by omega)
        have q5 : (j < l0.length) = True := eq_true c10
        obtain ⟨ad, ea, hl, hc⟩ := wide_at HR0.out j c10
        have HAT := Aside0.mk (show x = l0.getD j [] by rw [hx]; unfold atI; rw [if_pos c10])
        rw [← HAT.out] at hl hc
        subst ea
        have HRC := Aside0.mk (fun (W : World) (hW : Below w.heap.size w W) => (show ∀ i, i < 24 → W.cell? (ad.add (j * 24 + i)) = some (.int .i64 (x.getD i 0)) from by
          obtain ⟨ad2, ea2, hl2, hc2⟩ := wide_at (Kd.C_below HR0.out hW) j c10
          cases ea2
          rw [← HAT.out] at hc2
          exact hc2))
        have HX := Aside0.mk hx
        clear hx c10 hl hc
        go_wp2_with (first | ((with_reducible refine gate_dst (N := 9) rfl ?_); refine goesL_ (some 9) rfl rfl Try.func57 (by kernel_rfl) rfl #[.slice (some ad) l0.length c0] rfl (by (try simp only [List.map_toArray, List.map_cons, List.map_nil]); first | done | rfl) ?_; refine (spec_l05Last.calls (some ad) c0 l0 _ _ (Kd.C_below HR0.out HB.out) HC0.out HLAST.out).mono ?_; rintro e_ w1 ⟨rfl, b_⟩; refine ⟨_, rfl, ?_⟩; have HB1 := Aside0.mk (below_then HB.out HB.out.size b_); obtain ⟨s1, Sz1⟩ : ∃ s, Aside0 (w1.heap.size = s) := ⟨_, ⟨rfl⟩⟩; have hs1 : w.heap.size ≤ s1 := (by rw [← Sz1.out]; exact HB1.out.size); have OO1 := Aside0.mk (Kd.R_mono (ok' := fun k => k < s1) (Kd.R_bound (Kd.R_below OO.out b_)) (fun k hk => by have h_ := hk.2.2.1; rw [Sz1.out] at h_; exact h_)); clear b_ HB OO) | ((with_reducible refine gate_dst (N := 5) rfl ?_); refine hx_alloc rfl 5 rfl 42 rfl Sz1 (.agg (nums .i64 (List.replicate 24 0)).toArray) (nums .i64 (List.replicate 24 0)).toArray Z42 rfl ?_; intro w2 s2 L2 Sz2 b_ g_; have HA := Aside0.mk g_; have HB2 := Aside0.mk (below_then HB1.out HB1.out.size b_); have OO2 := Aside0.mk (Kd.R_below OO1.out b_); clear b_ g_ HB1 OO1) | ((with_reducible refine gate_store (t := 42) (p := 5) (v := .tmp 13) rfl ?_); refine hx_store rfl rfl 42 (.tmp 5) (.tmp 13) rfl s1 24 rfl (nums .i64 zz).toArray (by rw [ZZ.out]; rfl) (by kernel_rfl) (nums_size _ _ _ NZ.out) (nums_one _ _) HA.out (by simp [nums]) ?_; intro w3 t_ gg_; have HA3 := Aside0.mk gg_; have HB3 := Aside0.mk (t_.below HB2.out (by omega)); have OO3 := Aside0.mk (Kd.R_kept OO2.out (kept_touch t_) (fun k hk h_ => by have h1_ : k = s1 := h_; have h2_ : k < s1 := hk; omega)); clear t_ gg_ HA HB2 OO2) | ((with_reducible refine gate_dst (N := 21) rfl ?_); refine hx_load_at rfl 42 (.tmp 20) rfl (ad.add (j * 24)) rfl x 24 Try.underlying42 rfl (by kernel_rfl) HXL.out (fun i hi => by rw [Addr.add_add]; exact HRC.out _ HB3.out i hi) ?_) | ((with_reducible refine gate_store (t := 42) (p := 5) (v := .tmp 21) rfl ?_); refine hx_store rfl rfl 42 (.tmp 5) (.tmp 21) rfl s1 24 rfl (nums .i64 x).toArray rfl (by kernel_rfl) (nums_size _ _ _ HXL.out) (nums_one _ _) HA3.out (nums_size _ _ _ NZ.out) ?_; intro w4 t_ gg_; have HA4 := Aside0.mk gg_; have HB4 := Aside0.mk (t_.below HB3.out (by omega)); have OO4 := Aside0.mk (Kd.R_kept OO3.out (kept_touch t_) (fun k hk h_ => by have h1_ : k = s1 := h_; have h2_ : k < s1 := hk; omega)); clear t_ gg_ HA3 HB3 OO3) | ((with_reducible refine gate_dst (N := 23) rfl ?_); refine hx_load rfl 42 (.tmp 5) rfl s1 24 rfl Try.underlying42 rfl (by kernel_rfl) HA4.out (nums_size _ _ _ HXL.out) ?_) | ((with_reducible refine gate_dst (N := 24) rfl ?_); refine goesL_ (some 24) rfl rfl Try.func51 (by kernel_rfl) rfl #[.agg (nums .i64 x).toArray] rfl (by (try simp only [List.map_toArray, List.map_cons, List.map_nil]); first | done | rfl) ?_; refine (spec_l02InodeBytes.calls x HXL.out (inodeBytes x) _ HXB.out).mono ?_; rintro e_ w5 ⟨v24, rfl, R_, b_⟩; obtain ⟨A24, c24, rfl⟩ := Kd.R_slice R_; refine ⟨_, rfl, ?_⟩; have O24 := Aside0.mk R_; have HB5 := Aside0.mk (below_then HB4.out HB4.out.size b_); have OO5 := Aside0.mk (Kd.R_mono (ok' := fun _ => True) (Kd.R_below OO4.out b_) (fun _ _ => trivial)); clear R_ b_ HB4 OO4) | ((with_reducible refine gate_dst (N := 25) rfl ?_); refine Kd.R_append_rows (Kd.int .u8) (w0 := w) w.heap.size rfl (.tmp 22) (.tmp 24) 25 5 (.int .u8 0) 1 rfl Try.underlying25 info5_ rfl (by decide) (by omega) v3 bs (inodeBytes x) _ _ _ (fun _ => True) (fun _ => False) rfl rfl OO5.out (Kd.R_reads' O24.out).2.2 (fun _ _ h => h) (fun _ h => h.elim) (fun _ _ => trivial) HB5.out HB5.out.size (by have h1_ := HBL.out; have h2_ := C9.out; have h3_ := HM.out; have h4_ := HYL.out; omega) ?_; intro v25 w6 ho hb hg_ hn_; have OO6 := Aside0.mk ho; have HB6 := Aside0.mk hb; clear ho hb hg_ hn_ HB5 OO5 O24))
        go_roundw
        case rel => exact ⟨j + 1, _, _, rfl, rfl, by rw [show wrap64 ((j : Int) + 1) = ((j + 1 : Nat) : Int) by (have := HM.out; have := C9.out; unfold wrap64; omega)], ⟨by have := C9.out; omega⟩, ⟨by rw [tableBytesTo_succ, ← HBS.out, ← HX.out]; exact OO6.out⟩, HB6⟩
        case measure =>
          rw [show wrap64 ((j : Int) + 1) = ((j + 1 : Nat) : Int) by (have := HM.out; have := C9.out; unfold wrap64; omega)]
          simp only [intOf, Int.toNat_natCast]
          have := C9.out
          have := HM.out
          omega
      · have c10b0 : decide ((j : Int) < (l0.length : Int)) = false := decide_eq_false (by omega)
        have c10b1 : decide (j < l0.length) = false := decide_eq_false c10
        have HXZ := Aside0.mk (show x = zz by rw [hx, ZZ.out]; unfold atI; rw [if_neg c10]; rfl)
        have HX := Aside0.mk hx
        clear hx c10
        go_wp2_with (first | ((with_reducible refine gate_dst (N := 9) rfl ?_); refine goesL_ (some 9) rfl rfl Try.func57 (by kernel_rfl) rfl #[.slice A0 l0.length c0] rfl (by (try simp only [List.map_toArray, List.map_cons, List.map_nil]); first | done | rfl) ?_; refine (spec_l05Last.calls A0 c0 l0 _ _ (Kd.C_below HR0.out HB.out) HC0.out HLAST.out).mono ?_; rintro e_ w1 ⟨rfl, b_⟩; refine ⟨_, rfl, ?_⟩; have HB1 := Aside0.mk (below_then HB.out HB.out.size b_); obtain ⟨s1, Sz1⟩ : ∃ s, Aside0 (w1.heap.size = s) := ⟨_, ⟨rfl⟩⟩; have hs1 : w.heap.size ≤ s1 := (by rw [← Sz1.out]; exact HB1.out.size); have OO1 := Aside0.mk (Kd.R_mono (ok' := fun k => k < s1) (Kd.R_bound (Kd.R_below OO.out b_)) (fun k hk => by have h_ := hk.2.2.1; rw [Sz1.out] at h_; exact h_)); clear b_ HB OO) | ((with_reducible refine gate_dst (N := 5) rfl ?_); refine hx_alloc rfl 5 rfl 42 rfl Sz1 (.agg (nums .i64 (List.replicate 24 0)).toArray) (nums .i64 (List.replicate 24 0)).toArray Z42 rfl ?_; intro w2 s2 L2 Sz2 b_ g_; have HA := Aside0.mk g_; have HB2 := Aside0.mk (below_then HB1.out HB1.out.size b_); have OO2 := Aside0.mk (Kd.R_below OO1.out b_); clear b_ g_ HB1 OO1) | ((with_reducible refine gate_store (t := 42) (p := 5) (v := .tmp 13) rfl ?_); refine hx_store rfl rfl 42 (.tmp 5) (.tmp 13) rfl s1 24 rfl (nums .i64 zz).toArray (by rw [ZZ.out]; rfl) (by kernel_rfl) (nums_size _ _ _ NZ.out) (nums_one _ _) HA.out (by simp [nums]) ?_; intro w3 t_ gg_; have HA3 := Aside0.mk gg_; have HB3 := Aside0.mk (t_.below HB2.out (by omega)); have OO3 := Aside0.mk (Kd.R_kept OO2.out (kept_touch t_) (fun k hk h_ => by have h1_ : k = s1 := h_; have h2_ : k < s1 := hk; omega)); clear t_ gg_ HA HB2 OO2) | ((with_reducible refine gate_dst (N := 23) rfl ?_); refine hx_load rfl 42 (.tmp 5) rfl s1 24 rfl Try.underlying42 rfl (by kernel_rfl) HA3.out (nums_size _ _ _ NZ.out) ?_) | ((with_reducible refine gate_dst (N := 24) rfl ?_); refine goesL_ (some 24) rfl rfl Try.func51 (by kernel_rfl) rfl #[.agg (nums .i64 zz).toArray] rfl (by (try simp only [List.map_toArray, List.map_cons, List.map_nil]); first | done | rfl) ?_; refine (spec_l02InodeBytes.calls zz NZ.out (inodeBytes x) _ (by rw [← HXZ.out]; exact HXB.out)).mono ?_; rintro e_ w5 ⟨v24, rfl, R_, b_⟩; obtain ⟨A24, c24, rfl⟩ := Kd.R_slice R_; refine ⟨_, rfl, ?_⟩; have O24 := Aside0.mk R_; have HB5 := Aside0.mk (below_then HB3.out HB3.out.size b_); have OO5 := Aside0.mk (Kd.R_mono (ok' := fun _ => True) (Kd.R_below OO3.out b_) (fun _ _ => trivial)); clear R_ b_ HB3 OO3) | ((with_reducible refine gate_dst (N := 25) rfl ?_); refine Kd.R_append_rows (Kd.int .u8) (w0 := w) w.heap.size rfl (.tmp 22) (.tmp 24) 25 5 (.int .u8 0) 1 rfl Try.underlying25 info5_ rfl (by decide) (by omega) v3 bs (inodeBytes x) _ _ _ (fun _ => True) (fun _ => False) rfl rfl OO5.out (Kd.R_reads' O24.out).2.2 (fun _ _ h => h) (fun _ h => h.elim) (fun _ _ => trivial) HB5.out HB5.out.size (by have h1_ := HBL.out; have h2_ := C9.out; have h3_ := HM.out; have h4_ := HYL.out; omega) ?_; intro v25 w6 ho hb hg_ hn_; have OO6 := Aside0.mk ho; have HB6 := Aside0.mk hb; clear ho hb hg_ hn_ HB5 OO5 O24))
        go_roundw
        case rel => exact ⟨j + 1, _, _, rfl, rfl, by rw [show wrap64 ((j : Int) + 1) = ((j + 1 : Nat) : Int) by (have := HM.out; have := C9.out; unfold wrap64; omega)], ⟨by have := C9.out; omega⟩, ⟨by rw [tableBytesTo_succ, ← HBS.out, ← HX.out]; exact OO6.out⟩, HB6⟩
        case measure =>
          rw [show wrap64 ((j : Int) + 1) = ((j + 1 : Nat) : Int) by (have := HM.out; have := C9.out; unfold wrap64; omega)]
          simp only [intOf, Int.toNat_natCast]
          have := C9.out
          have := HM.out
          omega
    · obtain rfl : j = m + 1 := by have := hj.out; omega
      have c9b0 : decide (((m + 1 : Nat) : Int) ≤ (m : Int)) = false := decide_eq_false (by omega)
      have c9b1 : decide (m + 1 ≤ m) = false := decide_eq_false c9
      have c9b2 : decide ((m : Int) + 1 ≤ (m : Int)) = false := decide_eq_false (by omega)
      clear c9
      go_wp2_with (first | ((with_reducible refine gate_dst (N := 9) rfl ?_); refine goesL_ (some 9) rfl rfl Try.func57 (by kernel_rfl) rfl #[.slice A0 l0.length c0] rfl (by (try simp only [List.map_toArray, List.map_cons, List.map_nil]); first | done | rfl) ?_; refine (spec_l05Last.calls A0 c0 l0 _ _ (Kd.C_below HR0.out HB.out) HC0.out HLAST.out).mono ?_; rintro e_ w1 ⟨rfl, b_⟩; refine ⟨_, rfl, ?_⟩; have HB1 := Aside0.mk (below_then HB.out HB.out.size b_); obtain ⟨s1, Sz1⟩ : ∃ s, Aside0 (w1.heap.size = s) := ⟨_, ⟨rfl⟩⟩; have hs1 : w.heap.size ≤ s1 := (by rw [← Sz1.out]; exact HB1.out.size); have OO1 := Aside0.mk (Kd.R_mono (ok' := fun k => k < s1) (Kd.R_bound (Kd.R_below OO.out b_)) (fun k hk => by have h_ := hk.2.2.1; rw [Sz1.out] at h_; exact h_)); clear b_ HB OO))
      go_ret
      rw [HRES.out, ← HBS.out]
      exact ⟨_, rfl, Kd.R_mono OO1.out (fun _ _ => trivial), HB1.out⟩

end Go.Proofs.Ytkghgjehjchajaa.PFnTable
