-- Written by a program of this session (patch_print.py over the kit print)
import Derived.Test.YtkghgjehjchajaaDoorPFnExactChooseFsinfox0
import Derived.Test.YtkghgjehjchajaaDoorPFnExactChooseFsinfox1
namespace Go.Proofs.YtkghgjehjchajaaDoor.PFnExactChooseFsinfo
open Go.RowKit Go.Proofs.YtkghgjehjchajaaDoorW.PrintWords Go.Proofs.YtkghgjehjchajaaDoorW.PrintLast Go.Proofs.YtkghgjehjchajaaDoorW.PrintMore
attribute [local go_sem] max2_int min2_int max_two min_two max_three min_three max_four min_four   -- for this text's walks alone
set_option linter.unusedVariables false
set_option linter.unusedSimpArgs false

open Go.Proofs.YtkghgjehjchajaaDoorW Go.Proofs.YtkghgjehjchajaaDoorW.PrintHand Go.Proofs.YtkghgjehjchajaaDoorW.PrintHx
/-! ### spec_l02RootOf: function 52 -/
open Go.Proofs.YtkghgjehjchajaaDoorW.PrintLe Go.Proofs.YtkghgjehjchajaaDoorW.PrintGrow Go.Proofs.YtkghgjehjchajaaDoorW.PrintDec Go.Proofs.YtkghgjehjchajaaDoorW.PrintRaw
theorem get_l0 (x0 : List Int) (hb : Byt x0) (h8 : x0.length ≤ 8) : ∀ (n k : Nat), n ≤ x0.length → n < k → le (x0.drop n) < 18014398509481984 → spec_l02Get.l0 k x0 (le (x0.drop n)) ((n : Int) - 1) = some (if le x0 < 18014398509481984 then le x0 else 4611686018427387904)
  | 0, k, h1, h2, h3 => by
    obtain ⟨k, rfl⟩ := sucK h2
    simp only [spec_l02Get.l0]
    rw [List.drop_zero] at h3 ⊢
    rw [if_neg (by omega), if_pos h3]
  | n + 1, k, h1, h2, h3 => by
    obtain ⟨k, rfl⟩ := sucK h2
    have hn : n < x0.length := by omega
    have hd := List.drop_eq_getElem_cons hn
    have hx := hb x0[n] (List.getElem_mem hn)
    have h0 := le_nonneg (hb.drop (n + 1))
    simp only [spec_l02Get.l0]
    rw [if_pos (by omega)]
    by_cases hc : le (x0.drop (n + 1)) ≥ 70368744177664
    · rw [if_pos hc]
      have hs := le_split x0 (n + 1) (by omega)
      have ht := le_nonneg (hb.take (n + 1))
      have hp := p256 n
      rw [Int.pow_succ] at hs
      have : 256 ^ n * 256 * le (x0.drop (n + 1)) ≥ 1 * 256 * le (x0.drop (n + 1)) := Int.mul_le_mul_of_nonneg_right (by omega) h0
      rw [if_neg (by omega)]
    · rw [if_neg hc, if_pos (by omega), if_pos (by omega)]
      have hv : wrap64 ((wrap64 (le (x0.drop (n + 1)) * 256)) + (wrap64 (rd x0 (((n + 1 : Nat) : Int) - 1)))) = le (x0.drop n) := by
        rw [show ((n + 1 : Nat) : Int) - 1 = (n : Int) by omega, rd_some hn, hd]
        simp only [le]
        unfold wrap64
        omega
      rw [hv, show wrap64 (((n + 1 : Nat) : Int) - 1 - 1) = (n : Int) - 1 by unfold wrap64; omega]
      exact get_l0 x0 hb h8 n k (by omega) (by omega) (by rw [hd]; simp only [le]; omega)
/-- l02Get: the number, or 2^62 where it is 2^54 or more -/
theorem get_f (l : List Int) (hb : Byt l) (h8 : l.length ≤ 8) (k : Nat) (hk : 8 < k) : spec_l02Get.f k l = some (if le l < 18014398509481984 then le l else 4611686018427387904) := by
  unfold spec_l02Get.f
  rw [show wrap64 ((l.length : Int) - 1) = (l.length : Int) - 1 by unfold wrap64; omega]
  have h := get_l0 l hb h8 l.length k (by omega) (by omega) (by simp [le])
  rw [List.drop_length] at h
  exact h
def spec_l02RootOf.f (l0 : List Int) : Option (List Int) := if l0.length = 64 ∧ (∀ x ∈ l0, 0 ≤ x ∧ x ≤ 255) then some (rootA l0) else none
theorem at8 (a j : Nat) (ha : a ≤ 1000) (hj : j < 32) : wrap64 ((a : Int) + wrap64 (4 * (j : Int))) = ((a + 4 * j : Nat) : Int) := by
  have h : wrap64 (4 * (j : Int)) = 4 * (j : Int) := by unfold wrap64; omega
  rw [h]
  unfold wrap64
  omega
set_option maxHeartbeats 8000000 in
set_option maxRecDepth 100000 in
theorem spec_l02RootOf.calls (A0 : Option Addr) (c0 : Nat) (l0 : List Int) (r : List Int) (w : World) (hr0 : Kd.C (Kd.int .u8) w A0 l0.length l0) (hc0 : l0.length ≤ c0) (h : spec_l02RootOf.f l0 = some r) :
    Calls Tryd.prog 52 #[.slice A0 l0.length c0] w fun e w' => e = .returned (.agg (nums .i64 r).toArray) ∧ Below w.heap.size w w' := by
  unfold spec_l02RootOf.f at h
  by_cases hdom : l0.length = 64 ∧ (∀ x ∈ l0, 0 ≤ x ∧ x ≤ 255)
  case neg => rw [if_neg hdom] at h; cases h
  rw [if_pos hdom] at h
  obtain rfl := Option.some.inj h
  have HL := Aside0.mk hdom.1
  have HBY : Aside0 (Byt l0) := ⟨hdom.2⟩
  have HR0 := Aside0.mk hr0
  have HC0 := Aside0.mk hc0
  clear h hdom hr0 hc0
  have info5_ : (Tryd.prog.info? 5).map (fun i => (i.zero, i.size, i.bytes)) = some (some (.int .u8 0), 1, 1) := by kernel_rfl
  obtain ⟨i0_, hi0_, _, hsz_, _⟩ := info_parts info5_
  have Z31 : ∀ w, (zeroValue 31).run Tryd.prog w = .ok (.agg (nums .i64 (List.replicate 15 0)).toArray) w := fun _ => by kernel_rfl
  obtain ⟨hcut6, hA6, hC6⟩ := print_take_of (P := Tryd.prog) (Value.int .u8) 0 28 5 .i64 Tryd.underlying28 hi0_ hsz_ A0 c0 l0 (8 : Int) (by decide) (by rw [HL.out]; decide) HC0.out
  obtain ⟨q6, hq6⟩ : ∃ q, q = l0.take (8 : Int).toNat := ⟨_, rfl⟩
  rw [← hq6] at hcut6 hA6 hC6
  have hs6 : q6 = seg l0 0 8 := by rw [hq6]; exact rfl
  have HR6 := Aside0.mk (Kd.C_of_reads (h1 := fun _ => rfl) (hA6 _ (Kd.reads_of_C HR0.out)))
  have HC6 := Aside0.mk hC6
  obtain ⟨g0, hg0⟩ : ∃ g, g = gcap (seg l0 0 8) := ⟨_, rfl⟩
  have EG6 := Aside0.mk (show spec_l02Get.f 20 q6 = some g0 by rw [hg0, hs6]; exact get_f (seg l0 0 8) (seg_byt HBY.out _ _) (by rw [seg_le _ _ (by rw [HL.out]; decide)]; decide) 20 (by decide))
  clear hs6 hq6 hA6 hC6
  obtain ⟨A9, hcut9, hA9, hC9⟩ := print_mid_of (P := Tryd.prog) (Value.int .u8) 0 28 5 .i64 .i64 Tryd.underlying28 hi0_ hsz_ A0 c0 l0 (56 : Int) (60 : Int) (by decide) (by decide) (by rw [HL.out]; decide) HC0.out
  obtain ⟨q9, hq9⟩ : ∃ q, q = (l0.take (60 : Int).toNat).drop (56 : Int).toNat := ⟨_, rfl⟩
  rw [← hq9] at hcut9 hA9 hC9
  obtain ⟨k9, hk9⟩ : ∃ k, k = c0 - (56 : Int).toNat := ⟨_, rfl⟩
  rw [← hk9] at hcut9 hC9
  clear hk9
  have hs9 : q9 = seg l0 56 4 := by rw [hq9]; exact take_drop l0 56 60
  have HR9 := Aside0.mk (Kd.C_of_reads (h1 := fun _ => rfl) (hA9 _ (Kd.reads_of_C HR0.out)))
  have HC9 := Aside0.mk hC9
  obtain ⟨g1, hg1⟩ : ∃ g, g = le (seg l0 56 4) := ⟨_, rfl⟩
  have EG9 := Aside0.mk (show spec_l02Get.f 20 q9 = some g1 by rw [hg1, hs9, ← gcap4 (seg_byt HBY.out _ _) (by rw [seg_le _ _ (by rw [HL.out]; decide)]; decide)]; exact get_f (seg l0 56 4) (seg_byt HBY.out _ _) (by rw [seg_le _ _ (by rw [HL.out]; decide)]; decide) 20 (by decide))
  clear hs9 hq9 hA9 hC9
  obtain ⟨A12, hcut12, hA12, hC12⟩ := print_mid_of (P := Tryd.prog) (Value.int .u8) 0 28 5 .i64 .i64 Tryd.underlying28 hi0_ hsz_ A0 c0 l0 (60 : Int) (64 : Int) (by decide) (by decide) (by rw [HL.out]; decide) HC0.out
  obtain ⟨q12, hq12⟩ : ∃ q, q = (l0.take (64 : Int).toNat).drop (60 : Int).toNat := ⟨_, rfl⟩
  rw [← hq12] at hcut12 hA12 hC12
  obtain ⟨k12, hk12⟩ : ∃ k, k = c0 - (60 : Int).toNat := ⟨_, rfl⟩
  rw [← hk12] at hcut12 hC12
  clear hk12
  have hs12 : q12 = seg l0 60 4 := by rw [hq12]; exact take_drop l0 60 64
  have HR12 := Aside0.mk (Kd.C_of_reads (h1 := fun _ => rfl) (hA12 _ (Kd.reads_of_C HR0.out)))
  have HC12 := Aside0.mk hC12
  obtain ⟨g2, hg2⟩ : ∃ g, g = le (seg l0 60 4) := ⟨_, rfl⟩
  have EG12 := Aside0.mk (show spec_l02Get.f 20 q12 = some g2 by rw [hg2, hs12, ← gcap4 (seg_byt HBY.out _ _) (by rw [seg_le _ _ (by rw [HL.out]; decide)]; decide)]; exact get_f (seg l0 60 4) (seg_byt HBY.out _ _) (by rw [seg_le _ _ (by rw [HL.out]; decide)]; decide) 20 (by decide))
  clear hs12 hq12 hA12 hC12
  obtain ⟨ds, hds⟩ : ∃ d, d = rootVals l0 := ⟨_, rfl⟩
  have DL := Aside0.mk (show ds.length = 12 by rw [hds]; exact rootVals_length l0)
  have EGJ := Aside0.mk (show ∀ j, j < 12 → spec_l02Get.f 20 (seg l0 (8 + 4 * j) 4) = some (ds.getD j 0) from fun j hj => by rw [hds, rootVals_get l0 j hj, ← gcap4 (seg_byt HBY.out _ _) (by rw [seg_le _ _ (by rw [HL.out]; omega)]; decide)]; exact get_f _ (seg_byt HBY.out _ _) (by rw [seg_le _ _ (by rw [HL.out]; omega)]; decide) 20 (by decide))
  have hres : rootA l0 = g0 :: (ds ++ [g1, g2]) := by rw [hg0, hg1, hg2, hds]; rfl
  rw [hres]
  clear hres hg0 hg1 hg2 hds
  have HB0 : Aside0 (Below w.heap.size w w) := ⟨Below.refl _ _⟩
  obtain ⟨s0, Sz0⟩ : ∃ s0, Aside0 (w.heap.size = s0) := ⟨_, ⟨rfl⟩⟩
  have hw0 : w.heap.size ≤ s0 := Nat.le_of_eq Sz0.out
  have hw1 : s0 ≤ w.heap.size := Nat.le_of_eq Sz0.out.symm
  go_enter Tryd.func52, Tryd.ntmps52
  go_wp2_with (first | ((with_reducible refine gate_dst (N := 2) rfl ?_); refine hx_alloc rfl 2 rfl 31 rfl Sz0 (.agg (nums .i64 (List.replicate 15 0)).toArray) (nums .i64 (List.replicate 15 0)).toArray Z31 rfl ?_; intro w1 s1 L1 Sz1 b_ g_; have H2_1 := Aside0.mk g_; have HB1 := Aside0.mk (below_then HB0.out HB0.out.size b_); clear b_ g_ HB0))
  refine wp_region_grow_last 11 [Is (.slice A0 l0.length c0), Is (.slice A0 q6.length c0), Is (.int .i64 g0), Is (.slice A0 l0.length c0), Is (.slice A9 q9.length k9), Is (.int .i64 g1), Is (.slice A0 l0.length c0), Is (.slice A12 q12.length k12), Is (.int .i64 g2), Is (.agg (nums .i64 [g0, 0, 0, 0, 0, 0, 0, 0, 0, 0, 0, 0, 0, g1, g2]).toArray), New 31 (nums .i64 (List.replicate 15 0)).toArray w1.heap.size] (by kernel_rfl) (by kernel_rfl) (by kernel_rfl) (by kernel_rfl) (allst_cons st_is (allst_cons st_is (allst_cons st_is (allst_cons st_is (allst_cons st_is (allst_cons st_is (allst_cons st_is (allst_cons st_is (allst_cons st_is (allst_cons st_is (allst_cons st_new allst_nil))))))))))) ?_ (fun w2 hgn => ?_)
  · refine steps_cons ?_ ?_
    · refine stepO_val rfl [] [0] (by kernel_rfl) (.slice A0 l0.length c0) (fun a w_ hg hf => ?_) (fun w_ _ => rfl)
      obtain ⟨_, ⟨o0, _⟩⟩ := hf
      have e0 : a.tmps[0]? = some (.slice A0 l0.length c0) := o0.trans rfl
      unfold execOp
      simp only [PrintLast.eval_of e0]
      rfl
    refine steps_cons ?_ ?_
    · refine stepO_val rfl [(0, 5)] [] (by kernel_rfl) (.slice A0 q6.length c0) (fun a w_ hg hf => ?_) (fun w_ _ => rfl)
      obtain ⟨⟨⟨_, e5, rfl⟩, _⟩, _⟩ := hf
      replace e5 : a.tmps[5]? = some (.slice A0 l0.length c0) := e5
      unfold execOp
      simp only [PrintLast.eval_of e5, Act.eval]
      go_simp
      (try rfl)
    refine steps_cons ?_ ?_
    · refine stepO_call rfl [(1, 6)] [] (by kernel_rfl) Tryd.func51 (by kernel_rfl) rfl rfl (fun a w_ hg hf => ?_)
      obtain ⟨⟨⟨_, e6, rfl⟩, _⟩, _⟩ := hf
      replace e6 : a.tmps[6]? = some (.slice A0 q6.length c0) := e6
      refine ⟨#[.slice A0 q6.length c0], (by simp only [List.map_toArray, List.map_cons, List.map_nil, PrintLast.eval_of e6]; first | done | rfl), (spec_l02Get.calls 20 A0 c0 q6 g0 w_ (Kd.C_below HR6.out (below_then HB1.out HB1.out.size hg)) HC6.out EG6.out).mono ?_⟩
      rintro e_ w2_ ⟨rfl, d_⟩
      have b_ := kept_drawn d_
      exact ⟨_, rfl, b_, rfl⟩
    refine steps_cons ?_ ?_
    · refine stepO_val rfl [] [0] (by kernel_rfl) (.slice A0 l0.length c0) (fun a w_ hg hf => ?_) (fun w_ _ => rfl)
      obtain ⟨_, ⟨o0, _⟩⟩ := hf
      have e0 : a.tmps[0]? = some (.slice A0 l0.length c0) := o0.trans rfl
      unfold execOp
      simp only [PrintLast.eval_of e0]
      rfl
    refine steps_cons ?_ ?_
    · refine stepO_val rfl [(3, 8)] [] (by kernel_rfl) (.slice A9 q9.length k9) (fun a w_ hg hf => ?_) (fun w_ _ => rfl)
      obtain ⟨⟨⟨_, e8, rfl⟩, _⟩, _⟩ := hf
      replace e8 : a.tmps[8]? = some (.slice A0 l0.length c0) := e8
      unfold execOp
      simp only [PrintLast.eval_of e8, Act.eval]
      go_simp
      (try rfl)
    refine steps_cons ?_ ?_
    · refine stepO_call rfl [(4, 9)] [] (by kernel_rfl) Tryd.func51 (by kernel_rfl) rfl rfl (fun a w_ hg hf => ?_)
      obtain ⟨⟨⟨_, e9, rfl⟩, _⟩, _⟩ := hf
      replace e9 : a.tmps[9]? = some (.slice A9 q9.length k9) := e9
      refine ⟨#[.slice A9 q9.length k9], (by simp only [List.map_toArray, List.map_cons, List.map_nil, PrintLast.eval_of e9]; first | done | rfl), (spec_l02Get.calls 20 A9 k9 q9 g1 w_ (Kd.C_below HR9.out (below_then HB1.out HB1.out.size hg)) HC9.out EG9.out).mono ?_⟩
      rintro e_ w2_ ⟨rfl, d_⟩
      have b_ := kept_drawn d_
      exact ⟨_, rfl, b_, rfl⟩
    refine steps_cons ?_ ?_
    · refine stepO_val rfl [] [0] (by kernel_rfl) (.slice A0 l0.length c0) (fun a w_ hg hf => ?_) (fun w_ _ => rfl)
      obtain ⟨_, ⟨o0, _⟩⟩ := hf
      have e0 : a.tmps[0]? = some (.slice A0 l0.length c0) := o0.trans rfl
      unfold execOp
      simp only [PrintLast.eval_of e0]
      rfl
    refine steps_cons ?_ ?_
    · refine stepO_val rfl [(6, 11)] [] (by kernel_rfl) (.slice A12 q12.length k12) (fun a w_ hg hf => ?_) (fun w_ _ => rfl)
      obtain ⟨⟨⟨_, e11, rfl⟩, _⟩, _⟩ := hf
      replace e11 : a.tmps[11]? = some (.slice A0 l0.length c0) := e11
      unfold execOp
      simp only [PrintLast.eval_of e11, Act.eval]
      go_simp
      (try rfl)
    refine steps_cons ?_ ?_
    · refine stepO_call rfl [(7, 12)] [] (by kernel_rfl) Tryd.func51 (by kernel_rfl) rfl rfl (fun a w_ hg hf => ?_)
      obtain ⟨⟨⟨_, e12, rfl⟩, _⟩, _⟩ := hf
      replace e12 : a.tmps[12]? = some (.slice A12 q12.length k12) := e12
      refine ⟨#[.slice A12 q12.length k12], (by simp only [List.map_toArray, List.map_cons, List.map_nil, PrintLast.eval_of e12]; first | done | rfl), (spec_l02Get.calls 20 A12 k12 q12 g2 w_ (Kd.C_below HR12.out (below_then HB1.out HB1.out.size hg)) HC12.out EG12.out).mono ?_⟩
      rintro e_ w2_ ⟨rfl, d_⟩
      have b_ := kept_drawn d_
      exact ⟨_, rfl, b_, rfl⟩
    refine steps_cons ?_ ?_
    · refine stepO_val rfl [(2, 7), (5, 10), (8, 13)] [] (by kernel_rfl) (.agg (nums .i64 [g0, 0, 0, 0, 0, 0, 0, 0, 0, 0, 0, 0, 0, g1, g2]).toArray) (fun a w_ hg hf => ?_) (fun w_ _ => rfl)
      obtain ⟨⟨⟨_, e7, rfl⟩, ⟨_, e10, rfl⟩, ⟨_, e13, rfl⟩, _⟩, _⟩ := hf
      replace e7 : a.tmps[7]? = some (.int .i64 g0) := e7
      replace e10 : a.tmps[10]? = some (.int .i64 g1) := e10
      replace e13 : a.tmps[13]? = some (.int .i64 g2) := e13
      unfold execOp
      simp only [PrintLast.eval_of e7, PrintLast.eval_of e10, PrintLast.eval_of e13, Act.eval]
      go_simp
      (try rfl)
    refine steps_cons ?_ ?_
    · refine stepO_alloc rfl [] [] (by kernel_rfl) rfl (.agg (nums .i64 (List.replicate 15 0)).toArray) (nums .i64 (List.replicate 15 0)).toArray Z31 rfl (fun _ _ h => h)
    exact steps_nil
  · skip
    refine ends_cons (fun v0_ p0_ => ?_)
    obtain rfl : v0_ = _ := p0_
    refine ends_cons (fun v1_ p1_ => ?_)
    obtain rfl : v1_ = _ := p1_
    refine ends_cons (fun v2_ p2_ => ?_)
    obtain rfl : v2_ = _ := p2_
    refine ends_cons (fun v3_ p3_ => ?_)
    obtain rfl : v3_ = _ := p3_
    refine ends_cons (fun v4_ p4_ => ?_)
    obtain rfl : v4_ = _ := p4_
    refine ends_cons (fun v5_ p5_ => ?_)
    obtain rfl : v5_ = _ := p5_
    refine ends_cons (fun v6_ p6_ => ?_)
    obtain rfl : v6_ = _ := p6_
    refine ends_cons (fun v7_ p7_ => ?_)
    obtain rfl : v7_ = _ := p7_
    refine ends_cons (fun v8_ p8_ => ?_)
    obtain rfl : v8_ = _ := p8_
    refine ends_cons (fun v9_ p9_ => ?_)
    obtain rfl : v9_ = _ := p9_
    refine ends_cons (fun v10_ p10_ => ?_)
    obtain ⟨g10_, l10_, rfl, n10_⟩ := p10_
    refine ends_nil ?_
    simp only [Act.put, List.setIfInBounds_toArray, List.set_cons_succ, List.set_cons_zero]
    have HB2 := Aside0.mk (below_then HB1.out HB1.out.size hgn)
    have H2_2 := Aside0.mk (blk_below H2_1.out hgn)
    rw [Sz1.out] at l10_
    have N10 := Aside0.mk n10_
    clear n10_ hgn HB1 H2_1
    simp only [List.drop_succ_cons, List.drop_zero]
    go_wp2_with (first | ((with_reducible refine gate_store (t := 31) (p := 3) (v := .tmp 14) rfl ?_); refine hx_store rfl rfl 31 (.tmp 3) (.tmp 14) rfl g10_ 15 rfl (nums .i64 (g0 :: (filled ds 0 ++ [g1, g2]))).toArray rfl (by kernel_rfl) (nums_size _ _ _ (filled_length DL.out 0 (by decide) _ _ _)) (nums_one _ _) N10.out (by simp [nums]) ?_; intro w3 t_ gg_; have HG_3 := Aside0.mk gg_; have H2_3 := Aside0.mk (t_.keep (show s0 ≠ g10_ by omega) H2_2.out); have HB3 := Aside0.mk (t_.below HB2.out (by omega)); clear t_ gg_ H2_2 HB2 N10))
    (try simp only [Act.put, List.setIfInBounds_toArray, List.set_cons_succ, List.set_cons_zero])
    go_loopw [4, 15] (fun v4 v15 wr => ∃ (j : Nat) (u : Value), u = v4 ∧ v15 = .int .i64 (j : Int) ∧ Aside0 (j ≤ 12) ∧ Aside0 (wr.heap[g10_]? = some (.cells (nums .i64 (g0 :: (filled ds j ++ [g1, g2]))).toArray 31 (0, 0))) ∧ Aside0 (wr.heap[s0]? = some (.cells (nums .i64 (List.replicate 15 0)).toArray 31 (0, 0))) ∧ Aside0 (Below w.heap.size w wr)) (fun _ v15 _ => 12 - (intOf v15).toNat)
    case atStart => exact ⟨0, _, rfl, rfl, ⟨by omega⟩, HG_3, H2_3, HB3⟩
    case round =>
      clear HG_3 H2_3 HB3
      obtain ⟨j, v4, rfl, rfl, hj, HG, H2, HB⟩ := hrel
      by_cases c9 : j < 12
      · have c9b0 : decide ((j : Int) < 12) = true := decide_eq_true (by omega)
        have c9b1 : decide (j < 12) = true := decide_eq_true c9
        have e8 : wrap64 (8 + wrap64 (4 * (j : Int))) = ((8 + 4 * j : Nat) : Int) := at8 8 j (by decide) (by omega)
        have e12 : wrap64 (12 + wrap64 (4 * (j : Int))) = ((12 + 4 * j : Nat) : Int) := at8 12 j (by decide) (by omega)
        obtain ⟨Az, hcutz, hAz, hCz⟩ := print_mid_of (P := Tryd.prog) (Value.int .u8) 0 28 5 .i64 .i64 Tryd.underlying28 hi0_ hsz_ A0 c0 l0 (wrap64 (8 + wrap64 (4 * (j : Int))) : Int) (wrap64 (12 + wrap64 (4 * (j : Int))) : Int) (by rw [e8]; omega) (by rw [e8, e12]; omega) (by rw [e12, HL.out]; omega) HC0.out
        obtain ⟨qz, hqz⟩ : ∃ q, q = (l0.take (wrap64 (12 + wrap64 (4 * (j : Int))) : Int).toNat).drop (wrap64 (8 + wrap64 (4 * (j : Int))) : Int).toNat := ⟨_, rfl⟩
        rw [← hqz] at hcutz hAz hCz
        obtain ⟨kz, hkz⟩ : ∃ k, k = c0 - (wrap64 (8 + wrap64 (4 * (j : Int))) : Int).toNat := ⟨_, rfl⟩
        rw [← hkz] at hcutz hCz
        clear hkz
        have hsz : qz = seg l0 (8 + 4 * j) 4 := by rw [hqz, e8, e12]; exact (take_drop l0 (8 + 4 * j) (12 + 4 * j)).trans (by rw [show 12 + 4 * j - (8 + 4 * j) = 4 by omega])
        have HRz := Aside0.mk (Kd.C_of_reads (h1 := fun _ => rfl) (hAz _ (Kd.reads_of_C HR0.out)))
        have HCz := Aside0.mk hCz
        have EGz := Aside0.mk (show spec_l02Get.f 20 qz = some (ds.getD j 0) by rw [hsz]; exact EGJ.out j c9)
        obtain ⟨dv, hdv⟩ : ∃ d, d = ds.getD j 0 := ⟨_, rfl⟩
        rw [← hdv] at EGz
        have HDV := Aside0.mk hdv
        have C9 := Aside0.mk c9
        have q9 : (0 ≤ (j : Int)) = True := eq_true (by omega)
        have q10 : ((j : Int) < 12) = True := eq_true (by omega)
        have q11 : (j < 12) = True := eq_true c9
        clear hsz hqz hAz hCz hdv c9 e8 e12
        go_wp2_with (first | ((with_reducible refine gate_dst (N := 27) rfl ?_); refine goesL_ (some 27) rfl rfl Tryd.func51 (by kernel_rfl) rfl #[.slice Az qz.length kz] rfl (by (try simp only [List.map_toArray, List.map_cons, List.map_nil]); first | done | rfl) ?_; refine (spec_l02Get.calls 20 Az kz qz dv _ (Kd.C_below HRz.out HB.out) HCz.out EGz.out).mono ?_; rintro e_ w5 ⟨rfl, d_⟩; refine ⟨_, rfl, ?_⟩; have b_ := kept_drawn d_; have HG5 := Aside0.mk (blk_below HG.out b_); have H25 := Aside0.mk (blk_below H2.out b_); have HB5 := Aside0.mk (below_then HB.out HB.out.size b_); clear b_ d_ HG H2 HB) | ((with_reducible refine gate_store (t := 3) (p := 29) (v := .tmp 27) rfl ?_); refine st_num rfl rfl 3 (.tmp 29) (.tmp 27) rfl g10_ (1 + j) .i64 dv rfl rfl (by kernel_rfl) HG5.out (by rw [filled_length DL.out j (by have := C9.out; omega)]; have := C9.out; omega) ?_; intro w6 t_ gg_; have HG6 := Aside0.mk gg_; have H26 := Aside0.mk (t_.keep (show s0 ≠ g10_ by omega) H25.out); have HB6 := Aside0.mk (t_.below HB5.out (by omega)); clear t_ gg_ HG5 H25 HB5))
        go_roundw
        case rel =>
          refine ⟨j + 1, _, rfl, by rw [show wrap64 ((j : Int) + 1) = ((j + 1 : Nat) : Int) by (have := C9.out; unfold wrap64; omega)], ⟨by have := C9.out; omega⟩, ⟨?_⟩, H26, HB6⟩
          have h_ := HG6.out
          rw [HDV.out, filled_next DL.out j C9.out] at h_
          exact h_
        case measure =>
          rw [show wrap64 ((j : Int) + 1) = ((j + 1 : Nat) : Int) by (have := C9.out; unfold wrap64; omega)]
          simp only [intOf, Int.toNat_natCast]
          have := C9.out
          omega
      · obtain rfl : j = 12 := by have := hj.out; omega
        have c9b0 : decide ((12 : Int) < 12) = false := by decide
        have hf := HG.out
        rw [filled_all DL.out] at hf
        have HF := Aside0.mk hf
        clear c9 hf HG
        go_wp2_with (first | ((with_reducible refine gate_dst (N := 31) rfl ?_); refine hx_load rfl 31 (.tmp 3) rfl g10_ 15 rfl Tryd.underlying31 rfl (by kernel_rfl) HF.out (by simp [nums, DL.out]) ?_) | ((with_reducible refine gate_store (t := 31) (p := 2) (v := .tmp 31) rfl ?_); refine hx_store rfl rfl 31 (.tmp 2) (.tmp 31) rfl s0 15 rfl (nums .i64 (g0 :: (ds ++ [g1, g2]))).toArray rfl (by kernel_rfl) (by simp [nums, DL.out]) (nums_one _ _) H2.out (by simp [nums]) ?_; intro w7 t_ gg_; have HR7 := Aside0.mk gg_; have HB7 := Aside0.mk (t_.below HB.out (by omega)); clear t_ gg_))
        exact bodyPost_ret (results_cell_row rfl _ _ s0 31 _ (0, 0) _ rfl HR7.out Tryd.underlying31 rfl (by rw [nums_size _ _ 15 (by simp [DL.out])]; kernel_rfl)) rfl ⟨rfl, HB7.out⟩

open Go.Proofs.YtkghgjehjchajaaDoorW Go.Proofs.YtkghgjehjchajaaDoorW.PrintHand Go.Proofs.YtkghgjehjchajaaDoorW.PrintHx
/-! ### spec_DecodeFsinfo: function 23 -/
open Go.Proofs.YtkghgjehjchajaaDoorW.PrintLe Go.Proofs.YtkghgjehjchajaaDoorW.PrintGrow Go.Proofs.YtkghgjehjchajaaDoorW.PrintDec Go.Proofs.YtkghgjehjchajaaDoorW.PrintIno Go.Proofs.YtkghgjehjchajaaDoorW.PrintTab2 Go.Proofs.YtkghgjehjchajaaDoorW.PrintTab3 Go.Proofs.YtkghgjehjchajaaDoorW.PrintFsi Go.Proofs.YtkghgjehjchajaaDoorW.PrintFsb Go.Proofs.YtkghgjehjchajaaDoorW.PrintFsd Go.Proofs.YtkghgjehjchajaaDoorW.PrintCrc
def spec_DecodeFsinfo.f (l0 : List Int) : Option (List Int × Int) := if (∀ x ∈ l0, 0 ≤ x ∧ x ≤ 255) then some (decF (fsA l0) l0) else none
set_option maxHeartbeats 8000000 in
set_option maxRecDepth 100000 in
theorem spec_DecodeFsinfo.calls (A0 : Option Addr) (c0 : Nat) (l0 : List Int) (r1 : List Int) (r2 : Int) (w : World) (hr0 : Kd.C (Kd.int .u8) w A0 l0.length l0) (hc0 : l0.length ≤ c0) (h : spec_DecodeFsinfo.f l0 = some (r1, r2)) :
    Calls Tryd.prog 23 #[.slice A0 l0.length c0] w fun e w' => e = .returned (.tuple #[.agg (nums .i64 r1).toArray, .int .i64 r2]) ∧ Below w.heap.size w w' := by
  unfold spec_DecodeFsinfo.f at h
  by_cases hdom : ∀ x ∈ l0, 0 ≤ x ∧ x ≤ 255
  case neg => rw [if_neg hdom] at h; cases h
  rw [if_pos hdom] at h
  replace h := Option.some.inj h
  have HBY : Aside0 (Byt l0) := ⟨hdom⟩
  have HR0 := Aside0.mk hr0
  have HC0 := Aside0.mk hc0
  clear hdom hr0 hc0
  have Z48 : ∀ w, (zeroValue 48).run Tryd.prog w = .ok (.agg (nums .i64 (List.replicate 68 0)).toArray) w := fun _ => by kernel_rfl
  have HB0 : Aside0 (Below w.heap.size w w) := ⟨Below.refl _ _⟩
  obtain ⟨s0, Sz0⟩ : ∃ s0, Aside0 (w.heap.size = s0) := ⟨_, ⟨rfl⟩⟩
  have hw0 : w.heap.size ≤ s0 := Nat.le_of_eq Sz0.out
  have hw1 : s0 ≤ w.heap.size := Nat.le_of_eq Sz0.out.symm
  by_cases hl : l0.length = 512
  case neg =>
    have hd : decF (fsA l0) l0 = (List.replicate 68 0, 21) := by unfold decF; rw [if_neg (fun h_ => hl h_.1)]
    rw [hd] at h
    simp only [Prod.mk.injEq] at h
    obtain ⟨rfl, rfl⟩ := h
    clear hd
    have k0 : ((l0.length : Int) != 512) = true := bne_iff_ne.2 (by omega)
    clear hl
    go_enter Tryd.func23, Tryd.ntmps23
    go_wp2_with (first | ((with_reducible refine gate_dst (N := 2) rfl ?_); refine hx_alloc rfl 2 rfl 48 rfl Sz0 (.agg (nums .i64 (List.replicate 68 0)).toArray) (nums .i64 (List.replicate 68 0)).toArray Z48 rfl ?_; intro w1 s1 Ls1 Ss1 b_ g_; have H2 := Aside0.mk g_; have HB1 := Aside0.mk (below_then HB0.out HB0.out.size b_); clear b_ g_ HB0) | ((with_reducible refine gate_store (t := 48) (p := 2) (v := .tmp 11) rfl ?_); refine hx_store rfl rfl 48 (.tmp 2) (.tmp 11) rfl s0 68 rfl (nums .i64 (List.replicate 68 0)).toArray rfl (by kernel_rfl) (by kernel_rfl) (nums_one _ _) H2.out (by simp [nums]) ?_; intro we t_ gg_; have HE := Aside0.mk gg_; have HEB := Aside0.mk (t_.below HB1.out (by omega)); clear t_ gg_ H2 HB1 ))
    exact bodyPost_ret (results_ct rfl _ _ s0 48 (nums .i64 (List.replicate 68 0)).toArray (0, 0) _ rfl HE.out Tryd.underlying48 rfl (by kernel_rfl)) rfl ⟨rfl, HEB.out⟩
  have k0 : ((l0.length : Int) != 512) = false := by rw [hl]; rfl
  have HL := Aside0.mk hl
  clear hl
  have info5_ : (Tryd.prog.info? 5).map (fun i => (i.zero, i.size, i.bytes)) = some (some (.int .u8 0), 1, 1) := by kernel_rfl
  obtain ⟨i0_, hi0_, _, hsz_, _⟩ := info_parts info5_
  obtain ⟨A13, hcut13, hA13, hC13⟩ := print_mid_of (P := Tryd.prog) (Value.int .u8) 0 28 5 .i64 .i64 Tryd.underlying28 hi0_ hsz_ A0 c0 l0 (8 : Int) (16 : Int) (by decide) (by decide) (by rw [HL.out]; decide) HC0.out
  obtain ⟨q13, hq13⟩ : ∃ q, q = (l0.take (16 : Int).toNat).drop (8 : Int).toNat := ⟨_, rfl⟩
  rw [← hq13] at hcut13 hA13 hC13
  obtain ⟨k13, hk13⟩ : ∃ k, k = c0 - (8 : Int).toNat := ⟨_, rfl⟩
  rw [← hk13] at hcut13 hC13
  clear hk13
  have hs13 : q13 = seg l0 8 8 := by rw [hq13]; exact take_drop l0 8 16
  have HR13 := Aside0.mk (Kd.C_of_reads (h1 := fun _ => rfl) (hA13 _ (Kd.reads_of_C HR0.out)))
  have HC13 := Aside0.mk hC13
  obtain ⟨g0, hg0⟩ : ∃ g, g = gcap (seg l0 8 8) := ⟨_, rfl⟩
  have EG13 := Aside0.mk (show spec_l02Get.f 20 q13 = some g0 by rw [hg0, hs13]; exact get_f (seg l0 8 8) (seg_byt HBY.out _ _) (by rw [seg_le _ _ (by rw [HL.out]; decide)]; decide) 20 (by decide))
  clear hs13 hq13 hA13 hC13
  obtain ⟨A16, hcut16, hA16, hC16⟩ := print_mid_of (P := Tryd.prog) (Value.int .u8) 0 28 5 .i64 .i64 Tryd.underlying28 hi0_ hsz_ A0 c0 l0 (16 : Int) (20 : Int) (by decide) (by decide) (by rw [HL.out]; decide) HC0.out
  obtain ⟨q16, hq16⟩ : ∃ q, q = (l0.take (20 : Int).toNat).drop (16 : Int).toNat := ⟨_, rfl⟩
  rw [← hq16] at hcut16 hA16 hC16
  obtain ⟨k16, hk16⟩ : ∃ k, k = c0 - (16 : Int).toNat := ⟨_, rfl⟩
  rw [← hk16] at hcut16 hC16
  clear hk16
  have hs16 : q16 = seg l0 16 4 := by rw [hq16]; exact take_drop l0 16 20
  have HR16 := Aside0.mk (Kd.C_of_reads (h1 := fun _ => rfl) (hA16 _ (Kd.reads_of_C HR0.out)))
  have HC16 := Aside0.mk hC16
  obtain ⟨g1, hg1⟩ : ∃ g, g = le (seg l0 16 4) := ⟨_, rfl⟩
  have EG16 := Aside0.mk (show spec_l02Get.f 20 q16 = some g1 by rw [hg1, hs16, ← gcap4 (seg_byt HBY.out _ _) (by rw [seg_le _ _ (by rw [HL.out]; decide)]; decide)]; exact get_f (seg l0 16 4) (seg_byt HBY.out _ _) (by rw [seg_le _ _ (by rw [HL.out]; decide)]; decide) 20 (by decide))
  clear hs16 hq16 hA16 hC16
  obtain ⟨A19, hcut19, hA19, hC19⟩ := print_mid_of (P := Tryd.prog) (Value.int .u8) 0 28 5 .i64 .i64 Tryd.underlying28 hi0_ hsz_ A0 c0 l0 (20 : Int) (24 : Int) (by decide) (by decide) (by rw [HL.out]; decide) HC0.out
  obtain ⟨q19, hq19⟩ : ∃ q, q = (l0.take (24 : Int).toNat).drop (20 : Int).toNat := ⟨_, rfl⟩
  rw [← hq19] at hcut19 hA19 hC19
  obtain ⟨k19, hk19⟩ : ∃ k, k = c0 - (20 : Int).toNat := ⟨_, rfl⟩
  rw [← hk19] at hcut19 hC19
  clear hk19
  have hs19 : q19 = seg l0 20 4 := by rw [hq19]; exact take_drop l0 20 24
  have HR19 := Aside0.mk (Kd.C_of_reads (h1 := fun _ => rfl) (hA19 _ (Kd.reads_of_C HR0.out)))
  have HC19 := Aside0.mk hC19
  obtain ⟨g2, hg2⟩ : ∃ g, g = le (seg l0 20 4) := ⟨_, rfl⟩
  have EG19 := Aside0.mk (show spec_l02Get.f 20 q19 = some g2 by rw [hg2, hs19, ← gcap4 (seg_byt HBY.out _ _) (by rw [seg_le _ _ (by rw [HL.out]; decide)]; decide)]; exact get_f (seg l0 20 4) (seg_byt HBY.out _ _) (by rw [seg_le _ _ (by rw [HL.out]; decide)]; decide) 20 (by decide))
  clear hs19 hq19 hA19 hC19
  obtain ⟨A22, hcut22, hA22, hC22⟩ := print_mid_of (P := Tryd.prog) (Value.int .u8) 0 28 5 .i64 .i64 Tryd.underlying28 hi0_ hsz_ A0 c0 l0 (24 : Int) (32 : Int) (by decide) (by decide) (by rw [HL.out]; decide) HC0.out
  obtain ⟨q22, hq22⟩ : ∃ q, q = (l0.take (32 : Int).toNat).drop (24 : Int).toNat := ⟨_, rfl⟩
  rw [← hq22] at hcut22 hA22 hC22
  obtain ⟨k22, hk22⟩ : ∃ k, k = c0 - (24 : Int).toNat := ⟨_, rfl⟩
  rw [← hk22] at hcut22 hC22
  clear hk22
  have hs22 : q22 = seg l0 24 8 := by rw [hq22]; exact take_drop l0 24 32
  have HR22 := Aside0.mk (Kd.C_of_reads (h1 := fun _ => rfl) (hA22 _ (Kd.reads_of_C HR0.out)))
  have HC22 := Aside0.mk hC22
  obtain ⟨g3, hg3⟩ : ∃ g, g = gcap (seg l0 24 8) := ⟨_, rfl⟩
  have EG22 := Aside0.mk (show spec_l02Get.f 20 q22 = some g3 by rw [hg3, hs22]; exact get_f (seg l0 24 8) (seg_byt HBY.out _ _) (by rw [seg_le _ _ (by rw [HL.out]; decide)]; decide) 20 (by decide))
  clear hs22 hq22 hA22 hC22
  obtain ⟨A25, hcut25, hA25, hC25⟩ := print_mid_of (P := Tryd.prog) (Value.int .u8) 0 28 5 .i64 .i64 Tryd.underlying28 hi0_ hsz_ A0 c0 l0 (32 : Int) (40 : Int) (by decide) (by decide) (by rw [HL.out]; decide) HC0.out
  obtain ⟨q25, hq25⟩ : ∃ q, q = (l0.take (40 : Int).toNat).drop (32 : Int).toNat := ⟨_, rfl⟩
  rw [← hq25] at hcut25 hA25 hC25
  obtain ⟨k25, hk25⟩ : ∃ k, k = c0 - (32 : Int).toNat := ⟨_, rfl⟩
  rw [← hk25] at hcut25 hC25
  clear hk25
  have hs25 : q25 = seg l0 32 8 := by rw [hq25]; exact take_drop l0 32 40
  have HR25 := Aside0.mk (Kd.C_of_reads (h1 := fun _ => rfl) (hA25 _ (Kd.reads_of_C HR0.out)))
  have HC25 := Aside0.mk hC25
  obtain ⟨g4, hg4⟩ : ∃ g, g = gcap (seg l0 32 8) := ⟨_, rfl⟩
  have EG25 := Aside0.mk (show spec_l02Get.f 20 q25 = some g4 by rw [hg4, hs25]; exact get_f (seg l0 32 8) (seg_byt HBY.out _ _) (by rw [seg_le _ _ (by rw [HL.out]; decide)]; decide) 20 (by decide))
  clear hs25 hq25 hA25 hC25
  obtain ⟨A28, hcut28, hA28, hC28⟩ := print_mid_of (P := Tryd.prog) (Value.int .u8) 0 28 5 .i64 .i64 Tryd.underlying28 hi0_ hsz_ A0 c0 l0 (40 : Int) (44 : Int) (by decide) (by decide) (by rw [HL.out]; decide) HC0.out
  obtain ⟨q28, hq28⟩ : ∃ q, q = (l0.take (44 : Int).toNat).drop (40 : Int).toNat := ⟨_, rfl⟩
  rw [← hq28] at hcut28 hA28 hC28
  obtain ⟨k28, hk28⟩ : ∃ k, k = c0 - (40 : Int).toNat := ⟨_, rfl⟩
  rw [← hk28] at hcut28 hC28
  clear hk28
  have hs28 : q28 = seg l0 40 4 := by rw [hq28]; exact take_drop l0 40 44
  have HR28 := Aside0.mk (Kd.C_of_reads (h1 := fun _ => rfl) (hA28 _ (Kd.reads_of_C HR0.out)))
  have HC28 := Aside0.mk hC28
  obtain ⟨g5, hg5⟩ : ∃ g, g = le (seg l0 40 4) := ⟨_, rfl⟩
  have EG28 := Aside0.mk (show spec_l02Get.f 20 q28 = some g5 by rw [hg5, hs28, ← gcap4 (seg_byt HBY.out _ _) (by rw [seg_le _ _ (by rw [HL.out]; decide)]; decide)]; exact get_f (seg l0 40 4) (seg_byt HBY.out _ _) (by rw [seg_le _ _ (by rw [HL.out]; decide)]; decide) 20 (by decide))
  clear hs28 hq28 hA28 hC28
  obtain ⟨A31, hcut31, hA31, hC31⟩ := print_mid_of (P := Tryd.prog) (Value.int .u8) 0 28 5 .i64 .i64 Tryd.underlying28 hi0_ hsz_ A0 c0 l0 (44 : Int) (48 : Int) (by decide) (by decide) (by rw [HL.out]; decide) HC0.out
  obtain ⟨q31, hq31⟩ : ∃ q, q = (l0.take (48 : Int).toNat).drop (44 : Int).toNat := ⟨_, rfl⟩
  rw [← hq31] at hcut31 hA31 hC31
  obtain ⟨k31, hk31⟩ : ∃ k, k = c0 - (44 : Int).toNat := ⟨_, rfl⟩
  rw [← hk31] at hcut31 hC31
  clear hk31
  have hs31 : q31 = seg l0 44 4 := by rw [hq31]; exact take_drop l0 44 48
  have HR31 := Aside0.mk (Kd.C_of_reads (h1 := fun _ => rfl) (hA31 _ (Kd.reads_of_C HR0.out)))
  have HC31 := Aside0.mk hC31
  obtain ⟨g6, hg6⟩ : ∃ g, g = le (seg l0 44 4) := ⟨_, rfl⟩
  have EG31 := Aside0.mk (show spec_l02Get.f 20 q31 = some g6 by rw [hg6, hs31, ← gcap4 (seg_byt HBY.out _ _) (by rw [seg_le _ _ (by rw [HL.out]; decide)]; decide)]; exact get_f (seg l0 44 4) (seg_byt HBY.out _ _) (by rw [seg_le _ _ (by rw [HL.out]; decide)]; decide) 20 (by decide))
  clear hs31 hq31 hA31 hC31
  obtain ⟨A34, hcut34, hA34, hC34⟩ := print_mid_of (P := Tryd.prog) (Value.int .u8) 0 28 5 .i64 .i64 Tryd.underlying28 hi0_ hsz_ A0 c0 l0 (48 : Int) (112 : Int) (by decide) (by decide) (by rw [HL.out]; decide) HC0.out
  obtain ⟨q34, hq34⟩ : ∃ q, q = (l0.take (112 : Int).toNat).drop (48 : Int).toNat := ⟨_, rfl⟩
  rw [← hq34] at hcut34 hA34 hC34
  obtain ⟨k34, hk34⟩ : ∃ k, k = c0 - (48 : Int).toNat := ⟨_, rfl⟩
  rw [← hk34] at hcut34 hC34
  clear hk34
  have hs34 : q34 = seg l0 48 64 := by rw [hq34]; exact take_drop l0 48 112
  have HR34 := Aside0.mk (Kd.C_of_reads (h1 := fun _ => rfl) (hA34 _ (Kd.reads_of_C HR0.out)))
  have HC34 := Aside0.mk hC34
  obtain ⟨ri, hri⟩ : ∃ g, g = rootA (seg l0 48 64) := ⟨_, rfl⟩
  have NRI := Aside0.mk (show ri.length = 15 by rw [hri]; exact rootOf_length _ _)
  have EG34 := Aside0.mk (show spec_l02RootOf.f q34 = some ri by rw [hri, hs34]; exact if_pos ⟨seg_le _ _ (by rw [HL.out]; decide), seg_byt HBY.out _ _⟩)
  clear hs34 hq34 hA34 hC34
  obtain ⟨A37, hcut37, hA37, hC37⟩ := print_mid_of (P := Tryd.prog) (Value.int .u8) 0 28 5 .i64 .i64 Tryd.underlying28 hi0_ hsz_ A0 c0 l0 (112 : Int) (176 : Int) (by decide) (by decide) (by rw [HL.out]; decide) HC0.out
  obtain ⟨q37, hq37⟩ : ∃ q, q = (l0.take (176 : Int).toNat).drop (112 : Int).toNat := ⟨_, rfl⟩
  rw [← hq37] at hcut37 hA37 hC37
  obtain ⟨k37, hk37⟩ : ∃ k, k = c0 - (112 : Int).toNat := ⟨_, rfl⟩
  rw [← hk37] at hcut37 hC37
  clear hk37
  have hs37 : q37 = seg l0 112 64 := by rw [hq37]; exact take_drop l0 112 176
  have HR37 := Aside0.mk (Kd.C_of_reads (h1 := fun _ => rfl) (hA37 _ (Kd.reads_of_C HR0.out)))
  have HC37 := Aside0.mk hC37
  obtain ⟨rm, hrm⟩ : ∃ g, g = rootA (seg l0 112 64) := ⟨_, rfl⟩
  have NRM := Aside0.mk (show rm.length = 15 by rw [hrm]; exact rootOf_length _ _)
  have EG37 := Aside0.mk (show spec_l02RootOf.f q37 = some rm by rw [hrm, hs37]; exact if_pos ⟨seg_le _ _ (by rw [HL.out]; decide), seg_byt HBY.out _ _⟩)
  clear hs37 hq37 hA37 hC37
  obtain ⟨ss, hss⟩ : ∃ s, s = snapsOf l0 := ⟨_, rfl⟩
  have HSS := Aside0.mk hss
  have HSL := Aside0.mk (show ss.length = 31 by rw [hss]; exact snapsOf_length l0)
  have BU : ∀ z y : List Int, z.length = 15 → y.length = 15 → ∀ w, (Instr.build 48 #[(0, .int .i64 g0), (1, .int .i64 g1), (2, .int .i64 g2), (3, .int .i64 g3), (4, .int .i64 g4), (5, .int .i64 g5), (6, .int .i64 g6), (7, .agg (nums .i64 z).toArray), (8, .agg (nums .i64 y).toArray)]).run Tryd.prog w = .ok (.agg (nums .i64 (g0 :: g1 :: g2 :: g3 :: g4 :: g5 :: g6 :: (z ++ y) ++ List.replicate 31 0)).toArray) w := by
    intro z y h k w_
    obtain ⟨x0, xb0, rfl, h0⟩ := cons_of_len h
    obtain ⟨x1, xb1, rfl, h1⟩ := cons_of_len h0
    obtain ⟨x2, xb2, rfl, h2⟩ := cons_of_len h1
    obtain ⟨x3, xb3, rfl, h3⟩ := cons_of_len h2
    obtain ⟨x4, xb4, rfl, h4⟩ := cons_of_len h3
    obtain ⟨x5, xb5, rfl, h5⟩ := cons_of_len h4
    obtain ⟨x6, xb6, rfl, h6⟩ := cons_of_len h5
    obtain ⟨x7, xb7, rfl, h7⟩ := cons_of_len h6
    obtain ⟨x8, xb8, rfl, h8⟩ := cons_of_len h7
    obtain ⟨x9, xb9, rfl, h9⟩ := cons_of_len h8
    obtain ⟨x10, xb10, rfl, h10⟩ := cons_of_len h9
    obtain ⟨x11, xb11, rfl, h11⟩ := cons_of_len h10
    obtain ⟨x12, xb12, rfl, h12⟩ := cons_of_len h11
    obtain ⟨x13, xb13, rfl, h13⟩ := cons_of_len h12
    obtain ⟨x14, xb14, rfl, h14⟩ := cons_of_len h13
    obtain ⟨y0, yb0, rfl, k0⟩ := cons_of_len k
    obtain ⟨y1, yb1, rfl, k1⟩ := cons_of_len k0
    obtain ⟨y2, yb2, rfl, k2⟩ := cons_of_len k1
    obtain ⟨y3, yb3, rfl, k3⟩ := cons_of_len k2
    obtain ⟨y4, yb4, rfl, k4⟩ := cons_of_len k3
    obtain ⟨y5, yb5, rfl, k5⟩ := cons_of_len k4
    obtain ⟨y6, yb6, rfl, k6⟩ := cons_of_len k5
    obtain ⟨y7, yb7, rfl, k7⟩ := cons_of_len k6
    obtain ⟨y8, yb8, rfl, k8⟩ := cons_of_len k7
    obtain ⟨y9, yb9, rfl, k9⟩ := cons_of_len k8
    obtain ⟨y10, yb10, rfl, k10⟩ := cons_of_len k9
    obtain ⟨y11, yb11, rfl, k11⟩ := cons_of_len k10
    obtain ⟨y12, yb12, rfl, k12⟩ := cons_of_len k11
    obtain ⟨y13, yb13, rfl, k13⟩ := cons_of_len k12
    obtain ⟨y14, yb14, rfl, k14⟩ := cons_of_len k13
    obtain rfl := List.length_eq_zero_iff.mp h14
    obtain rfl := List.length_eq_zero_iff.mp k14
    exact run_build w_ 48 _ _ (by kernel_rfl)
  replace BU := BU ri rm NRI.out NRM.out
  obtain ⟨tp, htp⟩ : ∃ t, t = g0 :: g1 :: g2 :: g3 :: g4 :: g5 :: g6 :: (ri ++ rm) := ⟨_, rfl⟩
  have hres : fsA l0 = tp ++ ss := by rw [htp, hss, hg0, hg1, hg2, hg3, hg4, hg5, hg6, hri, hrm]; rfl
  have HTL := Aside0.mk (show tp.length = 37 by rw [htp]; simp [NRI.out, NRM.out])
  obtain ⟨ra, hra⟩ : ∃ a, a = tp ++ List.replicate 31 0 := ⟨_, rfl⟩
  have hra2 : ra = g0 :: g1 :: g2 :: g3 :: g4 :: g5 :: g6 :: (ri ++ rm) ++ List.replicate 31 0 := by rw [hra, htp]
  rw [← hra2] at BU
  have BU_ := Aside0.mk BU
  have NA := Aside0.mk (show ra.length = 68 by rw [hra, List.length_append, HTL.out]; rfl)
  have HRA := Aside0.mk (show fsUp tp ss 0 = ra by rw [hra]; exact fsUp_zero)
  obtain ⟨rz, hrz⟩ : ∃ a, a = tp ++ ss := ⟨_, rfl⟩
  rw [hres, ← hrz] at h
  have NL := Aside0.mk (show rz.length = 68 by rw [hrz, List.length_append, HTL.out, HSL.out])
  have HRZ := Aside0.mk hrz
  clear BU hra hra2 hrz hres htp hss hri hrm hg0 hg1 hg2 hg3 hg4 hg5 hg6
  go_enter Tryd.func23, Tryd.ntmps23
  go_wp2_with (first | ((with_reducible refine gate_dst (N := 2) rfl ?_); refine hx_alloc rfl 2 rfl 48 rfl Sz0 (.agg (nums .i64 (List.replicate 68 0)).toArray) (nums .i64 (List.replicate 68 0)).toArray Z48 rfl ?_; intro w1 s1 Ls1 Ss1 b_ g_; have H2 := Aside0.mk g_; have HB1 := Aside0.mk (below_then HB0.out HB0.out.size b_); clear b_ g_ HB0))
  refine wp_region_grow_last 29 [Is (.slice A0 l0.length c0), Is (.slice A13 q13.length k13), Is (.int .i64 g0), Is (.slice A0 l0.length c0), Is (.slice A16 q16.length k16), Is (.int .i64 g1), Is (.slice A0 l0.length c0), Is (.slice A19 q19.length k19), Is (.int .i64 g2), Is (.slice A0 l0.length c0), Is (.slice A22 q22.length k22), Is (.int .i64 g3), Is (.slice A0 l0.length c0), Is (.slice A25 q25.length k25), Is (.int .i64 g4), Is (.slice A0 l0.length c0), Is (.slice A28 q28.length k28), Is (.int .i64 g5), Is (.slice A0 l0.length c0), Is (.slice A31 q31.length k31), Is (.int .i64 g6), Is (.slice A0 l0.length c0), Is (.slice A34 q34.length k34), Is (.agg (nums .i64 ri).toArray), Is (.slice A0 l0.length c0), Is (.slice A37 q37.length k37), Is (.agg (nums .i64 rm).toArray), Is (.agg (nums .i64 ra).toArray), New 48 (nums .i64 (List.replicate 68 0)).toArray w1.heap.size] (by kernel_rfl) (by kernel_rfl) (by kernel_rfl) (by kernel_rfl) (allst_cons st_is (allst_cons st_is (allst_cons st_is (allst_cons st_is (allst_cons st_is (allst_cons st_is (allst_cons st_is (allst_cons st_is (allst_cons st_is (allst_cons st_is (allst_cons st_is (allst_cons st_is (allst_cons st_is (allst_cons st_is (allst_cons st_is (allst_cons st_is (allst_cons st_is (allst_cons st_is (allst_cons st_is (allst_cons st_is (allst_cons st_is (allst_cons st_is (allst_cons st_is (allst_cons st_is (allst_cons st_is (allst_cons st_is (allst_cons st_is (allst_cons st_is (allst_cons st_new allst_nil))))))))))))))))))))))))))))) ?_ (fun w2 hgn => ?_)
  · refine steps_cons ?_ ?_
    · refine stepO_val rfl [] [0] (by kernel_rfl) (.slice A0 l0.length c0) (fun a w_ hg hf => ?_) (fun w_ _ => rfl)
      obtain ⟨_, ⟨o0, _⟩⟩ := hf
      have e0 : a.tmps[0]? = some (.slice A0 l0.length c0) := o0.trans rfl
      unfold execOp
      simp only [PrintLast.eval_of e0]
      rfl
    refine steps_cons ?_ ?_
    · refine stepO_val rfl [(0, 12)] [] (by kernel_rfl) (.slice A13 q13.length k13) (fun a w_ hg hf => ?_) (fun w_ _ => rfl)
      obtain ⟨⟨⟨_, e12, rfl⟩, _⟩, _⟩ := hf
      replace e12 : a.tmps[12]? = some (.slice A0 l0.length c0) := e12
      unfold execOp
      simp only [PrintLast.eval_of e12, Act.eval]
      go_simp
      (try rfl)
    refine steps_cons ?_ ?_
    · refine stepO_call rfl [(1, 13)] [] (by kernel_rfl) Tryd.func51 (by kernel_rfl) rfl rfl (fun a w_ hg hf => ?_)
      obtain ⟨⟨⟨_, e13, rfl⟩, _⟩, _⟩ := hf
      replace e13 : a.tmps[13]? = some (.slice A13 q13.length k13) := e13
      refine ⟨#[.slice A13 q13.length k13], (by simp only [List.map_toArray, List.map_cons, List.map_nil, PrintLast.eval_of e13]; first | done | rfl), (spec_l02Get.calls 20 A13 k13 q13 g0 w_ (Kd.C_below HR13.out (below_then HB1.out HB1.out.size hg)) HC13.out EG13.out).mono ?_⟩
      rintro e_ w2_ ⟨rfl, d_⟩
      have b_ := kept_drawn d_
      exact ⟨_, rfl, b_, rfl⟩
    refine steps_cons ?_ ?_
    · refine stepO_val rfl [] [0] (by kernel_rfl) (.slice A0 l0.length c0) (fun a w_ hg hf => ?_) (fun w_ _ => rfl)
      obtain ⟨_, ⟨o0, _⟩⟩ := hf
      have e0 : a.tmps[0]? = some (.slice A0 l0.length c0) := o0.trans rfl
      unfold execOp
      simp only [PrintLast.eval_of e0]
      rfl
    refine steps_cons ?_ ?_
    · refine stepO_val rfl [(3, 15)] [] (by kernel_rfl) (.slice A16 q16.length k16) (fun a w_ hg hf => ?_) (fun w_ _ => rfl)
      obtain ⟨⟨⟨_, e15, rfl⟩, _⟩, _⟩ := hf
      replace e15 : a.tmps[15]? = some (.slice A0 l0.length c0) := e15
      unfold execOp
      simp only [PrintLast.eval_of e15, Act.eval]
      go_simp
      (try rfl)
    refine steps_cons ?_ ?_
    · refine stepO_call rfl [(4, 16)] [] (by kernel_rfl) Tryd.func51 (by kernel_rfl) rfl rfl (fun a w_ hg hf => ?_)
      obtain ⟨⟨⟨_, e16, rfl⟩, _⟩, _⟩ := hf
      replace e16 : a.tmps[16]? = some (.slice A16 q16.length k16) := e16
      refine ⟨#[.slice A16 q16.length k16], (by simp only [List.map_toArray, List.map_cons, List.map_nil, PrintLast.eval_of e16]; first | done | rfl), (spec_l02Get.calls 20 A16 k16 q16 g1 w_ (Kd.C_below HR16.out (below_then HB1.out HB1.out.size hg)) HC16.out EG16.out).mono ?_⟩
      rintro e_ w2_ ⟨rfl, d_⟩
      have b_ := kept_drawn d_
      exact ⟨_, rfl, b_, rfl⟩
    refine steps_cons ?_ ?_
    · refine stepO_val rfl [] [0] (by kernel_rfl) (.slice A0 l0.length c0) (fun a w_ hg hf => ?_) (fun w_ _ => rfl)
      obtain ⟨_, ⟨o0, _⟩⟩ := hf
      have e0 : a.tmps[0]? = some (.slice A0 l0.length c0) := o0.trans rfl
      unfold execOp
      simp only [PrintLast.eval_of e0]
      rfl
    refine steps_cons ?_ ?_
    · refine stepO_val rfl [(6, 18)] [] (by kernel_rfl) (.slice A19 q19.length k19) (fun a w_ hg hf => ?_) (fun w_ _ => rfl)
      obtain ⟨⟨⟨_, e18, rfl⟩, _⟩, _⟩ := hf
      replace e18 : a.tmps[18]? = some (.slice A0 l0.length c0) := e18
      unfold execOp
      simp only [PrintLast.eval_of e18, Act.eval]
      go_simp
      (try rfl)
    refine steps_cons ?_ ?_
    · refine stepO_call rfl [(7, 19)] [] (by kernel_rfl) Tryd.func51 (by kernel_rfl) rfl rfl (fun a w_ hg hf => ?_)
      obtain ⟨⟨⟨_, e19, rfl⟩, _⟩, _⟩ := hf
      replace e19 : a.tmps[19]? = some (.slice A19 q19.length k19) := e19
      refine ⟨#[.slice A19 q19.length k19], (by simp only [List.map_toArray, List.map_cons, List.map_nil, PrintLast.eval_of e19]; first | done | rfl), (spec_l02Get.calls 20 A19 k19 q19 g2 w_ (Kd.C_below HR19.out (below_then HB1.out HB1.out.size hg)) HC19.out EG19.out).mono ?_⟩
      rintro e_ w2_ ⟨rfl, d_⟩
      have b_ := kept_drawn d_
      exact ⟨_, rfl, b_, rfl⟩
    refine steps_cons ?_ ?_
    · refine stepO_val rfl [] [0] (by kernel_rfl) (.slice A0 l0.length c0) (fun a w_ hg hf => ?_) (fun w_ _ => rfl)
      obtain ⟨_, ⟨o0, _⟩⟩ := hf
      have e0 : a.tmps[0]? = some (.slice A0 l0.length c0) := o0.trans rfl
      unfold execOp
      simp only [PrintLast.eval_of e0]
      rfl
    refine steps_cons ?_ ?_
    · refine stepO_val rfl [(9, 21)] [] (by kernel_rfl) (.slice A22 q22.length k22) (fun a w_ hg hf => ?_) (fun w_ _ => rfl)
      obtain ⟨⟨⟨_, e21, rfl⟩, _⟩, _⟩ := hf
      replace e21 : a.tmps[21]? = some (.slice A0 l0.length c0) := e21
      unfold execOp
      simp only [PrintLast.eval_of e21, Act.eval]
      go_simp
      (try rfl)
    refine steps_cons ?_ ?_
    · refine stepO_call rfl [(10, 22)] [] (by kernel_rfl) Tryd.func51 (by kernel_rfl) rfl rfl (fun a w_ hg hf => ?_)
      obtain ⟨⟨⟨_, e22, rfl⟩, _⟩, _⟩ := hf
      replace e22 : a.tmps[22]? = some (.slice A22 q22.length k22) := e22
      refine ⟨#[.slice A22 q22.length k22], (by simp only [List.map_toArray, List.map_cons, List.map_nil, PrintLast.eval_of e22]; first | done | rfl), (spec_l02Get.calls 20 A22 k22 q22 g3 w_ (Kd.C_below HR22.out (below_then HB1.out HB1.out.size hg)) HC22.out EG22.out).mono ?_⟩
      rintro e_ w2_ ⟨rfl, d_⟩
      have b_ := kept_drawn d_
      exact ⟨_, rfl, b_, rfl⟩
    refine steps_cons ?_ ?_
    · refine stepO_val rfl [] [0] (by kernel_rfl) (.slice A0 l0.length c0) (fun a w_ hg hf => ?_) (fun w_ _ => rfl)
      obtain ⟨_, ⟨o0, _⟩⟩ := hf
      have e0 : a.tmps[0]? = some (.slice A0 l0.length c0) := o0.trans rfl
      unfold execOp
      simp only [PrintLast.eval_of e0]
      rfl
    refine steps_cons ?_ ?_
    · refine stepO_val rfl [(12, 24)] [] (by kernel_rfl) (.slice A25 q25.length k25) (fun a w_ hg hf => ?_) (fun w_ _ => rfl)
      obtain ⟨⟨⟨_, e24, rfl⟩, _⟩, _⟩ := hf
      replace e24 : a.tmps[24]? = some (.slice A0 l0.length c0) := e24
      unfold execOp
      simp only [PrintLast.eval_of e24, Act.eval]
      go_simp
      (try rfl)
    refine steps_cons ?_ ?_
    · refine stepO_call rfl [(13, 25)] [] (by kernel_rfl) Tryd.func51 (by kernel_rfl) rfl rfl (fun a w_ hg hf => ?_)
      obtain ⟨⟨⟨_, e25, rfl⟩, _⟩, _⟩ := hf
      replace e25 : a.tmps[25]? = some (.slice A25 q25.length k25) := e25
      refine ⟨#[.slice A25 q25.length k25], (by simp only [List.map_toArray, List.map_cons, List.map_nil, PrintLast.eval_of e25]; first | done | rfl), (spec_l02Get.calls 20 A25 k25 q25 g4 w_ (Kd.C_below HR25.out (below_then HB1.out HB1.out.size hg)) HC25.out EG25.out).mono ?_⟩
      rintro e_ w2_ ⟨rfl, d_⟩
      have b_ := kept_drawn d_
      exact ⟨_, rfl, b_, rfl⟩
    refine steps_cons ?_ ?_
    · refine stepO_val rfl [] [0] (by kernel_rfl) (.slice A0 l0.length c0) (fun a w_ hg hf => ?_) (fun w_ _ => rfl)
      obtain ⟨_, ⟨o0, _⟩⟩ := hf
      have e0 : a.tmps[0]? = some (.slice A0 l0.length c0) := o0.trans rfl
      unfold execOp
      simp only [PrintLast.eval_of e0]
      rfl
    refine steps_cons ?_ ?_
    · refine stepO_val rfl [(15, 27)] [] (by kernel_rfl) (.slice A28 q28.length k28) (fun a w_ hg hf => ?_) (fun w_ _ => rfl)
      obtain ⟨⟨⟨_, e27, rfl⟩, _⟩, _⟩ := hf
      replace e27 : a.tmps[27]? = some (.slice A0 l0.length c0) := e27
      unfold execOp
      simp only [PrintLast.eval_of e27, Act.eval]
      go_simp
      (try rfl)
    refine steps_cons ?_ ?_
    · refine stepO_call rfl [(16, 28)] [] (by kernel_rfl) Tryd.func51 (by kernel_rfl) rfl rfl (fun a w_ hg hf => ?_)
      obtain ⟨⟨⟨_, e28, rfl⟩, _⟩, _⟩ := hf
      replace e28 : a.tmps[28]? = some (.slice A28 q28.length k28) := e28
      refine ⟨#[.slice A28 q28.length k28], (by simp only [List.map_toArray, List.map_cons, List.map_nil, PrintLast.eval_of e28]; first | done | rfl), (spec_l02Get.calls 20 A28 k28 q28 g5 w_ (Kd.C_below HR28.out (below_then HB1.out HB1.out.size hg)) HC28.out EG28.out).mono ?_⟩
      rintro e_ w2_ ⟨rfl, d_⟩
      have b_ := kept_drawn d_
      exact ⟨_, rfl, b_, rfl⟩
    refine steps_cons ?_ ?_
    · refine stepO_val rfl [] [0] (by kernel_rfl) (.slice A0 l0.length c0) (fun a w_ hg hf => ?_) (fun w_ _ => rfl)
      obtain ⟨_, ⟨o0, _⟩⟩ := hf
      have e0 : a.tmps[0]? = some (.slice A0 l0.length c0) := o0.trans rfl
      unfold execOp
      simp only [PrintLast.eval_of e0]
      rfl
    refine steps_cons ?_ ?_
    · refine stepO_val rfl [(18, 30)] [] (by kernel_rfl) (.slice A31 q31.length k31) (fun a w_ hg hf => ?_) (fun w_ _ => rfl)
      obtain ⟨⟨⟨_, e30, rfl⟩, _⟩, _⟩ := hf
      replace e30 : a.tmps[30]? = some (.slice A0 l0.length c0) := e30
      unfold execOp
      simp only [PrintLast.eval_of e30, Act.eval]
      go_simp
      (try rfl)
    refine steps_cons ?_ ?_
    · refine stepO_call rfl [(19, 31)] [] (by kernel_rfl) Tryd.func51 (by kernel_rfl) rfl rfl (fun a w_ hg hf => ?_)
      obtain ⟨⟨⟨_, e31, rfl⟩, _⟩, _⟩ := hf
      replace e31 : a.tmps[31]? = some (.slice A31 q31.length k31) := e31
      refine ⟨#[.slice A31 q31.length k31], (by simp only [List.map_toArray, List.map_cons, List.map_nil, PrintLast.eval_of e31]; first | done | rfl), (spec_l02Get.calls 20 A31 k31 q31 g6 w_ (Kd.C_below HR31.out (below_then HB1.out HB1.out.size hg)) HC31.out EG31.out).mono ?_⟩
      rintro e_ w2_ ⟨rfl, d_⟩
      have b_ := kept_drawn d_
      exact ⟨_, rfl, b_, rfl⟩
    refine steps_cons ?_ ?_
    · refine stepO_val rfl [] [0] (by kernel_rfl) (.slice A0 l0.length c0) (fun a w_ hg hf => ?_) (fun w_ _ => rfl)
      obtain ⟨_, ⟨o0, _⟩⟩ := hf
      have e0 : a.tmps[0]? = some (.slice A0 l0.length c0) := o0.trans rfl
      unfold execOp
      simp only [PrintLast.eval_of e0]
      rfl
    refine steps_cons ?_ ?_
    · refine stepO_val rfl [(21, 33)] [] (by kernel_rfl) (.slice A34 q34.length k34) (fun a w_ hg hf => ?_) (fun w_ _ => rfl)
      obtain ⟨⟨⟨_, e33, rfl⟩, _⟩, _⟩ := hf
      replace e33 : a.tmps[33]? = some (.slice A0 l0.length c0) := e33
      unfold execOp
      simp only [PrintLast.eval_of e33, Act.eval]
      go_simp
      (try rfl)
    refine steps_cons ?_ ?_
    · refine stepO_call rfl [(22, 34)] [] (by kernel_rfl) Tryd.func52 (by kernel_rfl) rfl rfl (fun a w_ hg hf => ?_)
      obtain ⟨⟨⟨_, e34, rfl⟩, _⟩, _⟩ := hf
      replace e34 : a.tmps[34]? = some (.slice A34 q34.length k34) := e34
      refine ⟨#[.slice A34 q34.length k34], (by simp only [List.map_toArray, List.map_cons, List.map_nil, PrintLast.eval_of e34]; first | done | rfl), (spec_l02RootOf.calls A34 k34 q34 ri w_ (Kd.C_below HR34.out (below_then HB1.out HB1.out.size hg)) HC34.out EG34.out).mono ?_⟩
      rintro e_ w2_ ⟨rfl, b_⟩
      exact ⟨_, rfl, b_, rfl⟩
    refine steps_cons ?_ ?_
    · refine stepO_val rfl [] [0] (by kernel_rfl) (.slice A0 l0.length c0) (fun a w_ hg hf => ?_) (fun w_ _ => rfl)
      obtain ⟨_, ⟨o0, _⟩⟩ := hf
      have e0 : a.tmps[0]? = some (.slice A0 l0.length c0) := o0.trans rfl
      unfold execOp
      simp only [PrintLast.eval_of e0]
      rfl
    refine steps_cons ?_ ?_
    · refine stepO_val rfl [(24, 36)] [] (by kernel_rfl) (.slice A37 q37.length k37) (fun a w_ hg hf => ?_) (fun w_ _ => rfl)
      obtain ⟨⟨⟨_, e36, rfl⟩, _⟩, _⟩ := hf
      replace e36 : a.tmps[36]? = some (.slice A0 l0.length c0) := e36
      unfold execOp
      simp only [PrintLast.eval_of e36, Act.eval]
      go_simp
      (try rfl)
    refine steps_cons ?_ ?_
    · refine stepO_call rfl [(25, 37)] [] (by kernel_rfl) Tryd.func52 (by kernel_rfl) rfl rfl (fun a w_ hg hf => ?_)
      obtain ⟨⟨⟨_, e37, rfl⟩, _⟩, _⟩ := hf
      replace e37 : a.tmps[37]? = some (.slice A37 q37.length k37) := e37
      refine ⟨#[.slice A37 q37.length k37], (by simp only [List.map_toArray, List.map_cons, List.map_nil, PrintLast.eval_of e37]; first | done | rfl), (spec_l02RootOf.calls A37 k37 q37 rm w_ (Kd.C_below HR37.out (below_then HB1.out HB1.out.size hg)) HC37.out EG37.out).mono ?_⟩
      rintro e_ w2_ ⟨rfl, b_⟩
      exact ⟨_, rfl, b_, rfl⟩
    refine steps_cons ?_ ?_
    · refine stepO_val rfl [(2, 14), (5, 17), (8, 20), (11, 23), (14, 26), (17, 29), (20, 32), (23, 35), (26, 38)] [] (by kernel_rfl) (.agg (nums .i64 ra).toArray) (fun a w_ hg hf => ?_) (fun w_ _ => rfl)
      obtain ⟨⟨⟨_, e14, rfl⟩, ⟨_, e17, rfl⟩, ⟨_, e20, rfl⟩, ⟨_, e23, rfl⟩, ⟨_, e26, rfl⟩, ⟨_, e29, rfl⟩, ⟨_, e32, rfl⟩, ⟨_, e35, rfl⟩, ⟨_, e38, rfl⟩, _⟩, _⟩ := hf
      replace e14 : a.tmps[14]? = some (.int .i64 g0) := e14
      replace e17 : a.tmps[17]? = some (.int .i64 g1) := e17
      replace e20 : a.tmps[20]? = some (.int .i64 g2) := e20
      replace e23 : a.tmps[23]? = some (.int .i64 g3) := e23
      replace e26 : a.tmps[26]? = some (.int .i64 g4) := e26
      replace e29 : a.tmps[29]? = some (.int .i64 g5) := e29
      replace e32 : a.tmps[32]? = some (.int .i64 g6) := e32
      replace e35 : a.tmps[35]? = some (.agg (nums .i64 ri).toArray) := e35
      replace e38 : a.tmps[38]? = some (.agg (nums .i64 rm).toArray) := e38
      unfold execOp
      simp only [PrintLast.eval_of e14, PrintLast.eval_of e17, PrintLast.eval_of e20, PrintLast.eval_of e23, PrintLast.eval_of e26, PrintLast.eval_of e29, PrintLast.eval_of e32, PrintLast.eval_of e35, PrintLast.eval_of e38, List.map_toArray, List.map_cons, List.map_nil, Sem.run_bind, Sem.run_pure, Result.andThen_ok, BU_.out]
    refine steps_cons ?_ ?_
    · refine stepO_alloc rfl [] [] (by kernel_rfl) rfl (.agg (nums .i64 (List.replicate 68 0)).toArray) (nums .i64 (List.replicate 68 0)).toArray Z48 rfl (fun _ _ h => h)
    exact steps_nil
  · skip
    refine ends_cons (fun v0_ p0_ => ?_)
    obtain rfl : v0_ = _ := p0_
    refine ends_cons (fun v1_ p1_ => ?_)
    obtain rfl : v1_ = _ := p1_
    refine ends_cons (fun v2_ p2_ => ?_)
    obtain rfl : v2_ = _ := p2_
    refine ends_cons (fun v3_ p3_ => ?_)
    obtain rfl : v3_ = _ := p3_
    refine ends_cons (fun v4_ p4_ => ?_)
    obtain rfl : v4_ = _ := p4_
    refine ends_cons (fun v5_ p5_ => ?_)
    obtain rfl : v5_ = _ := p5_
    refine ends_cons (fun v6_ p6_ => ?_)
    obtain rfl : v6_ = _ := p6_
    refine ends_cons (fun v7_ p7_ => ?_)
    obtain rfl : v7_ = _ := p7_
    refine ends_cons (fun v8_ p8_ => ?_)
    obtain rfl : v8_ = _ := p8_
    refine ends_cons (fun v9_ p9_ => ?_)
    obtain rfl : v9_ = _ := p9_
    refine ends_cons (fun v10_ p10_ => ?_)
    obtain rfl : v10_ = _ := p10_
    refine ends_cons (fun v11_ p11_ => ?_)
    obtain rfl : v11_ = _ := p11_
    refine ends_cons (fun v12_ p12_ => ?_)
    obtain rfl : v12_ = _ := p12_
    refine ends_cons (fun v13_ p13_ => ?_)
    obtain rfl : v13_ = _ := p13_
    refine ends_cons (fun v14_ p14_ => ?_)
    obtain rfl : v14_ = _ := p14_
    refine ends_cons (fun v15_ p15_ => ?_)
    obtain rfl : v15_ = _ := p15_
    refine ends_cons (fun v16_ p16_ => ?_)
    obtain rfl : v16_ = _ := p16_
    refine ends_cons (fun v17_ p17_ => ?_)
    obtain rfl : v17_ = _ := p17_
    refine ends_cons (fun v18_ p18_ => ?_)
    obtain rfl : v18_ = _ := p18_
    refine ends_cons (fun v19_ p19_ => ?_)
    obtain rfl : v19_ = _ := p19_
    refine ends_cons (fun v20_ p20_ => ?_)
    obtain rfl : v20_ = _ := p20_
    refine ends_cons (fun v21_ p21_ => ?_)
    obtain rfl : v21_ = _ := p21_
    refine ends_cons (fun v22_ p22_ => ?_)
    obtain rfl : v22_ = _ := p22_
    refine ends_cons (fun v23_ p23_ => ?_)
    obtain rfl : v23_ = _ := p23_
    refine ends_cons (fun v24_ p24_ => ?_)
    obtain rfl : v24_ = _ := p24_
    refine ends_cons (fun v25_ p25_ => ?_)
    obtain rfl : v25_ = _ := p25_
    refine ends_cons (fun v26_ p26_ => ?_)
    obtain rfl : v26_ = _ := p26_
    refine ends_cons (fun v27_ p27_ => ?_)
    obtain rfl : v27_ = _ := p27_
    refine ends_cons (fun v28_ p28_ => ?_)
    obtain ⟨g28_, l28_, rfl, n28_⟩ := p28_
    refine ends_nil ?_
    simp only [Act.put, List.setIfInBounds_toArray, List.set_cons_succ, List.set_cons_zero]
    have HB2 := Aside0.mk (below_then HB1.out HB1.out.size hgn)
    have H2_2 := Aside0.mk (blk_below H2.out hgn)
    rw [Ss1.out] at l28_
    have N28 := Aside0.mk n28_
    clear n28_ hgn HB1 H2 Z48
    simp only [List.drop_succ_cons, List.drop_zero]
    go_wp2_with (first | ((with_reducible refine gate_store (t := 48) (p := 4) (v := .tmp 39) rfl ?_); refine hx_store rfl rfl 48 (.tmp 4) (.tmp 39) rfl g28_ 68 rfl (nums .i64 ra).toArray rfl (by kernel_rfl) (nums_size _ _ _ NA.out) (nums_one _ _) N28.out (by simp [nums]) ?_; intro w4 t_ gg_; have HG4 := Aside0.mk gg_; have H2_3 := Aside0.mk (t_.keep (show s0 ≠ g28_ by omega) H2_2.out); have HB4 := Aside0.mk (t_.below HB2.out (by omega)); clear t_ gg_ N28 HB2 H2_2))
    (try simp only [Act.put, List.setIfInBounds_toArray, List.set_cons_succ, List.set_cons_zero])
    obtain ⟨zz, hzz⟩ : ∃ z, z = List.replicate 68 (0 : Int) := ⟨_, rfl⟩
    have hz_ := H2_3.out
    rw [← hzz] at hz_
    have HZ4 := Aside0.mk hz_
    have NZZ := Aside0.mk (show zz.length = 68 by rw [hzz]; simp)
    have HRA4 := HG4.out
    rw [← HRA.out] at HRA4
    have HU4 := Aside0.mk HRA4
    clear hz_ hzz H2_3 HRA4 HG4
    go_loopw [5, 40] (fun v5 v40 wr => ∃ (j : Nat) (u5 : Value), u5 = v5 ∧ v40 = .int .i64 (j : Int) ∧ Aside0 (j ≤ 31) ∧ Aside0 (wr.heap[g28_]? = some (.cells (nums .i64 (fsUp tp ss j)).toArray 48 (0, 0))) ∧ Aside0 (wr.heap[s0]? = some (.cells (nums .i64 zz).toArray 48 (0, 0))) ∧ Aside0 (Below w.heap.size w wr)) (fun _ v40 _ => 31 - (intOf v40).toNat)
    case atStart => exact ⟨0, _, rfl, rfl, ⟨Nat.zero_le _⟩, HU4, HZ4, HB4⟩
    case round =>
      clear HU4 HZ4 HB4
      obtain ⟨j, v5, rfl, rfl, hj, HGj, HZ, HB⟩ := hrel
      by_cases c9 : j < 31
      · have c9b0 : decide ((j : Int) < 31) = true := decide_eq_true (by omega)
        have c9b1 : decide (j < 31) = true := decide_eq_true c9
        have q3 : ((j : Int) < 31) = True := eq_true (by omega)
        have q4 : (0 ≤ (j : Int)) = True := eq_true (by omega)
        have q5 : (j < 31) = True := eq_true c9
        obtain ⟨p, hp⟩ : ∃ p, p = ss.getD j 0 := ⟨_, rfl⟩
        have EGJ := Aside0.mk (show spec_l02Get.f 20 (seg l0 (176 + 4 * j) 4) = some p by rw [hp, HSS.out, snapsOf_get _ _ c9, ← gcap4 (seg_byt HBY.out _ _) (by rw [seg_le _ _ (by rw [HL.out]; omega)]; decide)]; exact get_f (seg l0 (176 + 4 * j) 4) (seg_byt HBY.out _ _) (by rw [seg_le _ _ (by rw [HL.out]; omega)]; decide) 20 (by decide))
        have HLO := Aside0.mk (show wrap64 (176 + wrap64 (4 * (j : Int))) = ((176 + 4 * j : Nat) : Int) by rw [show wrap64 (4 * (j : Int)) = ((4 * j : Nat) : Int) by unfold wrap64; omega]; unfold wrap64; omega)
        have HHI := Aside0.mk (show wrap64 (180 + wrap64 (4 * (j : Int))) = ((180 + 4 * j : Nat) : Int) by rw [show wrap64 (4 * (j : Int)) = ((4 * j : Nat) : Int) by unfold wrap64; omega]; unfold wrap64; omega)
        obtain ⟨L, hL⟩ : ∃ L, L = fsUp tp ss j := ⟨_, rfl⟩
        have hg_ := HGj.out
        rw [← hL] at hg_
        have HG := Aside0.mk hg_
        have HUL := Aside0.mk (show L.length = 68 by rw [hL]; exact fsUp_length HTL.out HSL.out (by omega))
        have HLL := Aside0.mk hL
        have HPV := Aside0.mk hp
        have C9 := Aside0.mk c9
        clear hp hL hg_ HGj c9
        go_wp2_with (first | ((with_reducible refine gate_dst (N := 51) rfl ?_); refine hx_mid rfl 28 5 (.tmp 44) (.tmp 47) (.tmp 50) rfl A0 c0 l0 (176 + 4 * j) (180 + 4 * j) rfl (by rw [← HLO.out]; rfl) (by rw [← HHI.out]; rfl) Tryd.underlying28 (by kernel_rfl) (by omega) (by rw [HL.out]; have := C9.out; omega) HC0.out (Kd.C_below HR0.out HB.out) ?_; intro A51 c51 q51 hq51 hr51 hc51) | ((with_reducible refine gate_dst (N := 52) rfl ?_); refine goesL_ (some 52) rfl rfl Tryd.func51 (by kernel_rfl) rfl #[.slice A51 q51.length c51] rfl (by (try simp only [List.map_toArray, List.map_cons, List.map_nil]); first | done | rfl) ?_; refine (spec_l02Get.calls 20 A51 c51 q51 p _ hr51.out hc51.out (by rw [hq51.out, show 180 + 4 * j - (176 + 4 * j) = 4 by omega]; exact EGJ.out)).mono ?_; rintro e_ w5 ⟨rfl, d_⟩; refine ⟨_, rfl, ?_⟩; have b_ := kept_drawn d_; have HG5 := Aside0.mk (blk_below HG.out b_); have HZ5 := Aside0.mk (blk_below HZ.out b_); have HB5 := Aside0.mk (below_then HB.out HB.out.size b_); clear d_ hq51 hr51 hc51; clear b_ HG HZ HB) | ((with_reducible refine gate_store (t := 3) (p := 54) (v := .tmp 52) rfl ?_); refine hx_storef rfl rfl 3 (.tmp 54) (.tmp 52) rfl g28_ (37 + j) (by first | rfl | (simp [Act.eval]; done)) p rfl (by kernel_rfl) HG5.out (by rw [HUL.out]; have := C9.out; omega) ?_; intro w6 L6 t_ hl6 hn6 g_; have HG6 := Aside0.mk g_; have HZ6 := Aside0.mk (t_.keep (show s0 ≠ g28_ by omega) HZ5.out); have HB6 := Aside0.mk (t_.below HB5.out (by omega)); clear t_ g_ hn6 HG5 HZ5 HB5))
        go_roundw
        case rel => exact ⟨j + 1, _, rfl, by first | rw [show wrap64 ((j : Int) + 1) = ((j + 1 : Nat) : Int) by (have := C9.out; unfold wrap64; omega)] | (simp; done), ⟨by have := C9.out; omega⟩, ⟨by
          have h_ := HG6.out
          rw [hl6.out, HLL.out, HPV.out, fsUp_set HTL.out HSL.out C9.out] at h_
          exact h_⟩, HZ6, HB6⟩
        case measure =>
          (try rw [show wrap64 ((j : Int) + 1) = ((j + 1 : Nat) : Int) by (have := C9.out; unfold wrap64; omega)])
          simp only [intOf]
          have := C9.out
          omega
      · obtain rfl : j = 31 := by have := hj.out; omega
        have c9b0 : decide ((31 : Int) < 31) = false := by decide
        have hg_ := HGj.out
        rw [fsUp_all HSL.out, ← HRZ.out] at hg_
        have HG := Aside0.mk hg_
        clear c9 hg_ HGj
        by_cases hg : fsGood rz = true
        case neg =>
          have hd : decF rz l0 = (List.replicate 68 0, 21) := by unfold decF; rw [if_neg (fun h_ => hg h_.2.1)]
          rw [hd] at h
          simp only [Prod.mk.injEq] at h
          obtain ⟨rfl, rfl⟩ := h
          clear hd
          have ER := Aside0.mk (show spec_EncodeFsinfo.f rz = some ([], 7) by unfold spec_EncodeFsinfo.f; rw [if_neg hg])
          clear hg
          go_wp2_with (first | ((with_reducible refine gate_dst (N := 57) rfl ?_); refine hx_load rfl 48 (.tmp 4) rfl g28_ 68 rfl Tryd.underlying48 rfl (by kernel_rfl) HG.out (nums_size _ _ _ NL.out) ?_) | ((with_reducible refine gate_dst (N := 58) rfl ?_); refine goesL_ (some 58) rfl rfl Tryd.func20 (by kernel_rfl) rfl #[.agg (nums .i64 rz).toArray] rfl (by (try simp only [List.map_toArray, List.map_cons, List.map_nil]); first | done | rfl) ?_; refine (spec_EncodeFsinfo.calls rz NL.out [] 7 _ ER.out).mono ?_; rintro e_ w7 ⟨v0_, rfl, R_, b_⟩; refine ⟨_, rfl, ?_⟩; have HG7 := Aside0.mk (blk_below HG.out b_); have HZ7 := Aside0.mk (blk_below HZ.out b_); have HB7 := Aside0.mk (below_then HB.out HB.out.size b_); clear R_; clear b_ HG HZ HB) | ((with_reducible refine gate_store (t := 48) (p := 2) (v := .tmp 70) rfl ?_); refine hx_store rfl rfl 48 (.tmp 2) (.tmp 70) rfl s0 68 rfl (nums .i64 (List.replicate 68 0)).toArray rfl (by kernel_rfl) (by kernel_rfl) (nums_one _ _) HZ7.out (by simp [nums, NZZ.out]) ?_; intro we t_ gg_; have HE := Aside0.mk gg_; have HEB := Aside0.mk (t_.below HB7.out (by omega)); clear t_ gg_ HZ7 HB7 ))
          exact bodyPost_ret (results_ct rfl _ _ s0 48 (nums .i64 (List.replicate 68 0)).toArray (0, 0) _ rfl HE.out Tryd.underlying48 rfl (by kernel_rfl)) rfl ⟨rfl, HEB.out⟩
        have ER := Aside0.mk (show spec_EncodeFsinfo.f rz = some (fsBytes rz, 0) by unfold spec_EncodeFsinfo.f; rw [if_pos hg]; rfl)
        have hs0 : ((strOfNums (fsBytes rz)).toList == (strOfNums l0).toList) = decide (fsBytes rz = l0) := strOf_eq (fsBytes_byt rz) HBY.out
        by_cases he : fsBytes rz = l0
        case neg =>
          have hd : decF rz l0 = (List.replicate 68 0, 21) := by unfold decF; rw [if_neg (fun h_ => he h_.2.2)]
          rw [hd] at h
          simp only [Prod.mk.injEq] at h
          obtain ⟨rfl, rfl⟩ := h
          clear hd
          rw [decide_eq_false he] at hs0
          clear hg he
          obtain ⟨rb, hrb⟩ : ∃ b, b = fsBytes rz := ⟨_, rfl⟩
          rw [← hrb] at ER hs0
          clear hrb
          go_wp2_with (first | ((with_reducible refine gate_dst (N := 57) rfl ?_); refine hx_load rfl 48 (.tmp 4) rfl g28_ 68 rfl Tryd.underlying48 rfl (by kernel_rfl) HG.out (nums_size _ _ _ NL.out) ?_) | ((with_reducible refine gate_dst (N := 58) rfl ?_); refine goesL_ (some 58) rfl rfl Tryd.func20 (by kernel_rfl) rfl #[.agg (nums .i64 rz).toArray] rfl (by (try simp only [List.map_toArray, List.map_cons, List.map_nil]); first | done | rfl) ?_; refine (spec_EncodeFsinfo.calls rz NL.out rb 0 _ ER.out).mono ?_; rintro e_ w7 ⟨v0_, rfl, R_, b_⟩; obtain ⟨Ab, cb, rfl⟩ := Kd.R_slice R_; refine ⟨_, rfl, ?_⟩; have HG7 := Aside0.mk (blk_below HG.out b_); have HZ7 := Aside0.mk (blk_below HZ.out b_); have HB7 := Aside0.mk (below_then HB.out HB.out.size b_); have hcv1 := Kd.C_string (P := Tryd.prog) (A := Ab) (c := cb) Tryd.underlying28 Tryd.underlying5 Tryd.underlying9 (Kd.R_reads' R_).2.2; have hcv2 := Kd.C_string (P := Tryd.prog) (A := A0) (c := c0) Tryd.underlying28 Tryd.underlying5 Tryd.underlying9 (Kd.C_below HR0.out HB7.out); clear R_; clear b_ HG HZ HB) | ((with_reducible refine gate_store (t := 48) (p := 2) (v := .tmp 70) rfl ?_); refine hx_store rfl rfl 48 (.tmp 2) (.tmp 70) rfl s0 68 rfl (nums .i64 (List.replicate 68 0)).toArray rfl (by kernel_rfl) (by kernel_rfl) (nums_one _ _) HZ7.out (by simp [nums, NZZ.out]) ?_; intro we t_ gg_; have HE := Aside0.mk gg_; have HEB := Aside0.mk (t_.below HB7.out (by omega)); clear t_ gg_ HZ7 HB7 ))
          exact bodyPost_ret (results_ct rfl _ _ s0 48 (nums .i64 (List.replicate 68 0)).toArray (0, 0) _ rfl HE.out Tryd.underlying48 rfl (by kernel_rfl)) rfl ⟨rfl, HEB.out⟩
        have hd : decF rz l0 = (rz, 0) := by unfold decF; rw [if_pos ⟨HL.out, hg, he⟩]
        rw [hd] at h
        simp only [Prod.mk.injEq] at h
        obtain ⟨rfl, rfl⟩ := h
        rw [decide_eq_true he] at hs0
        clear hd hg he
        obtain ⟨rb, hrb⟩ : ∃ b, b = fsBytes rz := ⟨_, rfl⟩
        rw [← hrb] at ER hs0
        clear hrb
        go_wp2_with (first | ((with_reducible refine gate_dst (N := 57) rfl ?_); refine hx_load rfl 48 (.tmp 4) rfl g28_ 68 rfl Tryd.underlying48 rfl (by kernel_rfl) HG.out (nums_size _ _ _ NL.out) ?_) | ((with_reducible refine gate_dst (N := 58) rfl ?_); refine goesL_ (some 58) rfl rfl Tryd.func20 (by kernel_rfl) rfl #[.agg (nums .i64 rz).toArray] rfl (by (try simp only [List.map_toArray, List.map_cons, List.map_nil]); first | done | rfl) ?_; refine (spec_EncodeFsinfo.calls rz NL.out rb 0 _ ER.out).mono ?_; rintro e_ w7 ⟨v0_, rfl, R_, b_⟩; obtain ⟨Ab, cb, rfl⟩ := Kd.R_slice R_; refine ⟨_, rfl, ?_⟩; have HG7 := Aside0.mk (blk_below HG.out b_); have HZ7 := Aside0.mk (blk_below HZ.out b_); have HB7 := Aside0.mk (below_then HB.out HB.out.size b_); have hcv1 := Kd.C_string (P := Tryd.prog) (A := Ab) (c := cb) Tryd.underlying28 Tryd.underlying5 Tryd.underlying9 (Kd.R_reads' R_).2.2; have hcv2 := Kd.C_string (P := Tryd.prog) (A := A0) (c := c0) Tryd.underlying28 Tryd.underlying5 Tryd.underlying9 (Kd.C_below HR0.out HB7.out); clear R_; clear b_ HG HZ HB) | ((with_reducible refine gate_dst (N := 71) rfl ?_); refine hx_load rfl 48 (.tmp 4) rfl g28_ 68 rfl Tryd.underlying48 rfl (by kernel_rfl) HG7.out (nums_size _ _ _ NL.out) ?_) | ((with_reducible refine gate_store (t := 48) (p := 2) (v := .tmp 71) rfl ?_); refine hx_store rfl rfl 48 (.tmp 2) (.tmp 71) rfl s0 68 rfl (nums .i64 rz).toArray rfl (by kernel_rfl) (nums_size _ _ _ NL.out) (nums_one _ _) HZ7.out (by simp [nums, NZZ.out]) ?_; intro we t_ gg_; have HE := Aside0.mk gg_; have HEB := Aside0.mk (t_.below HB7.out (by omega)); clear t_ gg_ HZ7 HB7 ))
        exact bodyPost_ret (results_ct rfl _ _ s0 48 (nums .i64 rz).toArray (0, 0) _ rfl HE.out Tryd.underlying48 rfl (by rw [nums_size _ _ _ NL.out]; kernel_rfl)) rfl ⟨rfl, HEB.out⟩

/-! ### spec_L01Blocks: function 68 -/
def spec_L01Blocks.f (l0 : List Int) : Option (Int) := if (wrap64 ((wrap64 ((l0.length : Int) / 512)) * 512)) = (l0.length : Int) then (if (wrap64 ((l0.length : Int) / 512)) < 64 then (some 0) else (if (wrap64 ((l0.length : Int) / 512)) > 2048 then (some 0) else (some (wrap64 ((l0.length : Int) / 512))))) else (some 0)
set_option maxHeartbeats 8000000 in
set_option maxRecDepth 100000 in
theorem spec_L01Blocks.calls (A0 : Option Addr) (c0 : Nat) (l0 : List Int) (r : Int) (w : World) (hr0 : Kd.C (Kd.int .u8) w A0 l0.length l0) (hc0 : l0.length ≤ c0) (h : spec_L01Blocks.f l0 = some r) :
    Calls Tryd.prog 68 #[.slice A0 l0.length c0] w fun e w' => e = .returned (.int .i64 r) ∧ Drawn0 w w' := by
  have HR0 := Aside0.mk hr0
  have HC0 := Aside0.mk hc0
  clear hr0 hc0
  have H : (if (wrap64 ((wrap64 ((l0.length : Int) / 512)) * 512)) = (l0.length : Int) then (if (wrap64 ((l0.length : Int) / 512)) < 64 then (some 0) else (if (wrap64 ((l0.length : Int) / 512)) > 2048 then (some 0) else (some (wrap64 ((l0.length : Int) / 512))))) else (some 0)) = some r := h
  clear h
  by_cases c2 : (wrap64 ((wrap64 ((l0.length : Int) / 512)) * 512)) = (l0.length : Int)
  · rw [if_pos c2] at H
    have c2b0 : ((wrap64 ((wrap64 ((l0.length : Int) / 512)) * 512)) == (l0.length : Int)) = true := beq_iff_eq.mpr c2
    have c2b1 : ((wrap64 ((wrap64 ((l0.length : Int) / 512)) * 512)) != (l0.length : Int)) = false := bne_eq_false_iff_eq.mpr c2
    clear c2
    by_cases c3 : (wrap64 ((l0.length : Int) / 512)) < 64
    · rw [if_pos c3] at H
      have c3b0 : decide ((wrap64 ((l0.length : Int) / 512)) < 64) = true := decide_eq_true c3
      clear c3
      obtain rfl := Option.some.inj H
      go_enter Tryd.func68, Tryd.ntmps68
      go_wp2
      go_ret
      exact ⟨by first | rfl | (simp; done) | (simp [*]; done), by repeat (first | exact Drawn0.refl _ | apply Drawn0.step)⟩
    · rw [if_neg c3] at H
      have c3b0 : decide ((wrap64 ((l0.length : Int) / 512)) < 64) = false := decide_eq_false c3
      clear c3
      by_cases c4 : (wrap64 ((l0.length : Int) / 512)) > 2048
      · rw [if_pos c4] at H
        have c4b0 : decide (2048 < (wrap64 ((l0.length : Int) / 512))) = true := decide_eq_true c4
        clear c4
        obtain rfl := Option.some.inj H
        go_enter Tryd.func68, Tryd.ntmps68
        go_wp2
        go_ret
        exact ⟨by first | rfl | (simp; done) | (simp [*]; done), by repeat (first | exact Drawn0.refl _ | apply Drawn0.step)⟩
      · rw [if_neg c4] at H
        have c4b0 : decide (2048 < (wrap64 ((l0.length : Int) / 512))) = false := decide_eq_false c4
        clear c4
        obtain rfl := Option.some.inj H
        go_enter Tryd.func68, Tryd.ntmps68
        go_wp2
        go_ret
        exact ⟨by first | rfl | (simp; done) | (simp [*]; done), by repeat (first | exact Drawn0.refl _ | apply Drawn0.step)⟩
  · rw [if_neg c2] at H
    have c2b0 : ((wrap64 ((wrap64 ((l0.length : Int) / 512)) * 512)) == (l0.length : Int)) = false := beq_eq_false_iff_ne.mpr c2
    have c2b1 : ((wrap64 ((wrap64 ((l0.length : Int) / 512)) * 512)) != (l0.length : Int)) = true := bne_iff_ne.mpr c2
    obtain rfl := Option.some.inj H
    go_enter Tryd.func68, Tryd.ntmps68
    go_wp2
    go_ret
    exact ⟨by first | rfl | (simp; done) | (simp [*]; done), by repeat (first | exact Drawn0.refl _ | apply Drawn0.step)⟩

open Go.Proofs.YtkghgjehjchajaaDoorW Go.Proofs.YtkghgjehjchajaaDoorW.PrintHand Go.Proofs.YtkghgjehjchajaaDoorW.PrintHx
/-! ### spec_l09At: function 69 -/
open Go.Proofs.YtkghgjehjchajaaDoorW.PrintLe Go.Proofs.YtkghgjehjchajaaDoorW.PrintGrow Go.Proofs.YtkghgjehjchajaaDoorW.PrintDec Go.Proofs.YtkghgjehjchajaaDoorW.PrintIno Go.Proofs.YtkghgjehjchajaaDoorW.PrintTab2 Go.Proofs.YtkghgjehjchajaaDoorW.PrintTab3 Go.Proofs.YtkghgjehjchajaaDoorW.PrintFsi Go.Proofs.YtkghgjehjchajaaDoorW.PrintFsb Go.Proofs.YtkghgjehjchajaaDoorW.PrintFsd Go.Proofs.YtkghgjehjchajaaDoorW.PrintCrc Go.Proofs.YtkghgjehjchajaaDoorW.PrintChs
set_option maxHeartbeats 8000000 in
set_option maxRecDepth 100000 in
theorem spec_l09At.calls (A0 : Option Addr) (c0 : Nat) (l0 : List Int) (b : Nat) (w : World) (hr0 : Kd.C (Kd.int .u8) w A0 l0.length l0) (hc0 : l0.length ≤ c0) (hb : 512 * b + 512 ≤ l0.length) (hl : l0.length ≤ 1048576) :
    Calls Tryd.prog 69 #[.slice A0 l0.length c0, .int .i64 (b : Int)] w fun e w' => (∃ A' c', e = .returned (.slice A' (blk l0 b).length c') ∧ Kd.C (Kd.int .u8) w' A' (blk l0 b).length (blk l0 b) ∧ (blk l0 b).length ≤ c') ∧ Below w.heap.size w w' := by
  have HR0 := Aside0.mk hr0
  have HC0 := Aside0.mk hc0
  have HB := Aside0.mk hb
  have HLO := Aside0.mk (show wrap64 ((b : Int) * 512) = ((512 * b : Nat) : Int) by unfold wrap64; omega)
  have HHI := Aside0.mk (show wrap64 (wrap64 ((b : Int) + 1) * 512) = ((512 * b + 512 : Nat) : Int) by rw [show wrap64 ((b : Int) + 1) = ((b + 1 : Nat) : Int) by unfold wrap64; omega]; unfold wrap64; omega)
  clear hr0 hc0 hb hl
  go_enter Tryd.func69, Tryd.ntmps69
  go_wp2_with (first | ((with_reducible refine gate_dst (N := 11) rfl ?_); refine hx_mid rfl 28 5 (.tmp 5) (.tmp 7) (.tmp 10) rfl A0 c0 l0 (512 * b) (512 * b + 512) rfl (by rw [← HLO.out]; rfl) (by rw [← HHI.out]; rfl) Tryd.underlying28 (by kernel_rfl) (by omega) (by have := HB.out; omega) HC0.out HR0.out ?_; intro A1 c1 q1 hq1 hr1 hc1))
  have hq := hq1.out
  rw [show 512 * b + 512 - 512 * b = 512 by omega] at hq
  subst hq
  go_ret
  exact ⟨⟨A1, c1, rfl, hr1.out, hc1.out⟩, Below.refl _ _⟩

open Go.Proofs.YtkghgjehjchajaaDoorW Go.Proofs.YtkghgjehjchajaaDoorW.PrintHand Go.Proofs.YtkghgjehjchajaaDoorW.PrintHx
/-! ### spec_ChooseFsinfo: function 35 -/
open Go.Proofs.YtkghgjehjchajaaDoorW.PrintLe Go.Proofs.YtkghgjehjchajaaDoorW.PrintGrow Go.Proofs.YtkghgjehjchajaaDoorW.PrintDec Go.Proofs.YtkghgjehjchajaaDoorW.PrintIno Go.Proofs.YtkghgjehjchajaaDoorW.PrintTab2 Go.Proofs.YtkghgjehjchajaaDoorW.PrintTab3 Go.Proofs.YtkghgjehjchajaaDoorW.PrintFsi Go.Proofs.YtkghgjehjchajaaDoorW.PrintFsb Go.Proofs.YtkghgjehjchajaaDoorW.PrintFsd Go.Proofs.YtkghgjehjchajaaDoorW.PrintCrc Go.Proofs.YtkghgjehjchajaaDoorW.PrintChs
theorem spec_L01Blocks.size (l : List Int) (h : l.length ≤ 1048576) : spec_L01Blocks.f l = some (sizeN l) := by
  unfold spec_L01Blocks.f sizeN
  have e1 : wrap64 ((l.length : Int) / 512) = ((l.length / 512 : Nat) : Int) := by unfold wrap64; omega
  rw [e1]
  have e2 : wrap64 (((l.length / 512 : Nat) : Int) * 512) = ((l.length / 512 * 512 : Nat) : Int) := by unfold wrap64; omega
  rw [e2]
  by_cases c : l.length % 512 = 0 ∧ 64 ≤ l.length / 512 ∧ l.length / 512 ≤ 2048
  · rw [if_pos c, if_pos (by omega), if_neg (by omega), if_neg (by omega)]
  · rw [if_neg c]
    repeat' split
    all_goals first | rfl | (exfalso; omega)
def spec_ChooseFsinfo.f (l0 : List Int) : Option (List Int × Int × Int) := if l0.length ≤ 1048576 ∧ ∀ x ∈ l0, 0 ≤ x ∧ x ≤ 255 then some (chooseF (decA l0) l0) else none
set_option maxHeartbeats 8000000 in
set_option maxRecDepth 100000 in
theorem spec_ChooseFsinfo.calls (A0 : Option Addr) (c0 : Nat) (l0 : List Int) (r1 : List Int) (r2 r3 : Int) (w : World) (hr0 : Kd.C (Kd.int .u8) w A0 l0.length l0) (hc0 : l0.length ≤ c0) (h : spec_ChooseFsinfo.f l0 = some (r1, r2, r3)) :
    Calls Tryd.prog 35 #[.slice A0 l0.length c0] w fun e w' => e = .returned (.tuple #[.agg (nums .i64 r1).toArray, .int .i64 r2, .int .i64 r3]) ∧ Below w.heap.size w w' := by
  unfold spec_ChooseFsinfo.f at h
  by_cases hdom : l0.length ≤ 1048576 ∧ ∀ x ∈ l0, 0 ≤ x ∧ x ≤ 255
  case neg => rw [if_neg hdom] at h; cases h
  rw [if_pos hdom] at h
  replace h := Option.some.inj h
  have hl := hdom.1
  have hby := hdom.2
  clear hdom
  have HR0 := Aside0.mk hr0
  have HC0 := Aside0.mk hc0
  have HBY : Aside0 (Byt l0) := ⟨hby⟩
  have HLM := Aside0.mk hl
  obtain ⟨nb, hnb⟩ : ∃ n, n = sizeN l0 := ⟨_, rfl⟩
  have EB := Aside0.mk (show spec_L01Blocks.f l0 = some nb by rw [hnb]; exact spec_L01Blocks.size l0 hl)
  have Z48 : ∀ w, (zeroValue 48).run Tryd.prog w = .ok (.agg (nums .i64 (List.replicate 68 0)).toArray) w := fun _ => by kernel_rfl
  have NZ := Aside0.mk (show (List.replicate 68 (0 : Int)).length = 68 by simp)
  unfold chooseF at h
  rw [← hnb] at h
  clear hr0 hc0 hby hl
  have HB0 : Aside0 (Below w.heap.size w w) := ⟨Below.refl _ _⟩
  obtain ⟨s0, Sz0⟩ : ∃ s0, Aside0 (w.heap.size = s0) := ⟨_, ⟨rfl⟩⟩
  have hw0 : w.heap.size ≤ s0 := Nat.le_of_eq Sz0.out
  have hw1 : s0 ≤ w.heap.size := Nat.le_of_eq Sz0.out.symm
  by_cases hz : nb = 0
  case pos =>
    rw [if_pos hz] at h
    simp only [Prod.mk.injEq] at h
    obtain ⟨rfl, rfl, rfl⟩ := h
    have e0 : (nb == 0) = true := beq_iff_eq.mpr hz
    clear hz hnb
    go_enter Tryd.func35, Tryd.ntmps35
    go_wp2_with (first | ((with_reducible refine gate_dst (N := 2) rfl ?_); refine hx_alloc rfl 2 rfl 48 rfl Sz0 (.agg (nums .i64 (List.replicate 68 0)).toArray) (nums .i64 (List.replicate 68 0)).toArray Z48 rfl ?_; intro w1 s1 Ls1 Ss1 b_ g_; have H2 := Aside0.mk g_; have HB1 := Aside0.mk (below_then HB0.out HB0.out.size b_); clear b_ g_ HB0) | ((with_reducible refine gate_dst (N := 13) rfl ?_); refine goesL_ (some 13) rfl rfl Tryd.func68 (by kernel_rfl) rfl #[.slice A0 l0.length c0] rfl (by (try simp only [List.map_toArray, List.map_cons, List.map_nil]); first | done | rfl) ?_; refine (spec_L01Blocks.calls A0 c0 l0 nb _ (Kd.C_below HR0.out HB1.out) HC0.out EB.out).mono ?_; rintro e_ w2 ⟨rfl, d_⟩; refine ⟨_, rfl, ?_⟩; have b_ := kept_drawn d_; have H2_2 := Aside0.mk (blk_below H2.out b_); have HB2 := Aside0.mk (below_then HB1.out HB1.out.size b_); obtain ⟨s2, L2, Sz2⟩ := size_letter Ss1 (kept_below b_); clear b_ d_ H2 HB1) | ((with_reducible refine gate_store (t := 48) (p := 2) (v := .tmp 16) rfl ?_); refine hx_store rfl rfl 48 (.tmp 2) (.tmp 16) rfl s0 68 rfl (nums .i64 (List.replicate 68 0)).toArray rfl (by kernel_rfl) (nums_size _ _ _ NZ.out) (nums_one _ _) H2_2.out (by simp [nums]) ?_; intro we t_ gg_; have HE := Aside0.mk gg_; have HEB := Aside0.mk (t_.below HB2.out (by omega)); clear t_ gg_ H2_2 HB2 ))
    exact bodyPost_ret (results_ctt rfl _ _ s0 48 (nums .i64 (List.replicate 68 0)).toArray (0, 0) _ rfl HE.out Tryd.underlying48 rfl (by rw [nums_size _ _ _ NZ.out]; kernel_rfl)) rfl ⟨rfl, HEB.out⟩
  rw [if_neg hz] at h
  have HSZ := Aside0.mk (show nb = ((l0.length / 512 : Nat) : Int) ∧ l0.length % 512 = 0 ∧ 64 ≤ l0.length / 512 ∧ l0.length / 512 ≤ 2048 by have h_ := sizeN_pos (l := l0) (by rw [← hnb]; exact hz); rw [← hnb] at h_; exact h_)
  have e0 : (nb == 0) = false := beq_eq_false_iff_ne.mpr hz
  have H := Aside0.mk h
  clear hz hnb h
  go_enter Tryd.func35, Tryd.ntmps35
  go_wp2_with (first | ((with_reducible refine gate_dst (N := 2) rfl ?_); refine hx_alloc rfl 2 rfl 48 rfl Sz0 (.agg (nums .i64 (List.replicate 68 0)).toArray) (nums .i64 (List.replicate 68 0)).toArray Z48 rfl ?_; intro w1 s1 Ls1 Ss1 b_ g_; have H2 := Aside0.mk g_; have HB1 := Aside0.mk (below_then HB0.out HB0.out.size b_); clear b_ g_ HB0) | ((with_reducible refine gate_dst (N := 13) rfl ?_); refine goesL_ (some 13) rfl rfl Tryd.func68 (by kernel_rfl) rfl #[.slice A0 l0.length c0] rfl (by (try simp only [List.map_toArray, List.map_cons, List.map_nil]); first | done | rfl) ?_; refine (spec_L01Blocks.calls A0 c0 l0 nb _ (Kd.C_below HR0.out HB1.out) HC0.out EB.out).mono ?_; rintro e_ w2 ⟨rfl, d_⟩; refine ⟨_, rfl, ?_⟩; have b_ := kept_drawn d_; have H2_2 := Aside0.mk (blk_below H2.out b_); have HB2 := Aside0.mk (below_then HB1.out HB1.out.size b_); obtain ⟨s2, L2, Sz2⟩ := size_letter Ss1 (kept_below b_); clear b_ d_ H2 HB1) | ((with_reducible refine gate_dst (N := 6) rfl ?_); refine hx_alloc rfl 6 rfl 48 rfl Sz2 (.agg (nums .i64 (List.replicate 68 0)).toArray) (nums .i64 (List.replicate 68 0)).toArray Z48 rfl ?_; intro w3 s3 Ls3 Ss3 b_ g_; have H6 := Aside0.mk g_; have HB3 := Aside0.mk (below_then HB2.out HB2.out.size b_); have H2_3 := Aside0.mk (blk_below H2_2.out b_); clear b_ g_ HB2 H2_2) | ((with_reducible refine gate_store (t := 48) (p := 6) (v := .tmp 17) rfl ?_); refine hx_store rfl rfl 48 (.tmp 6) (.tmp 17) rfl s2 68 rfl (nums .i64 (List.replicate 68 0)).toArray rfl (by kernel_rfl) (nums_size _ _ _ NZ.out) (nums_one _ _) H6.out (by simp [nums]) ?_; intro w4 t_ gg_; have H6_4 := Aside0.mk gg_; have H2_4 := Aside0.mk (t_.keep (show s0 ≠ s2 by omega) H2_3.out); have HB4 := Aside0.mk (t_.below HB3.out (by omega)); clear t_ gg_ H6 HB3 H2_3))
  (try simp only [Act.put, List.setIfInBounds_toArray, List.set_cons_succ, List.set_cons_zero])
  go_loopw [7, 8, 9, 10, 11] (fun v7 v8 v9 v10 v11 wr => ∃ (j : Nat) (L : List Int) (s : Int) (f : Bool) (u10 u11 : Value), u10 = v10 ∧ u11 = v11 ∧ v7 = .int .i64 s ∧ v8 = .bool f ∧ v9 = .int .i64 (j : Int) ∧ Aside0 (j ≤ 2) ∧ Aside0 (L.length = 68) ∧ Aside0 (stN (decA l0) nb j = (L, s, f)) ∧ Aside0 (wr.heap[s2]? = some (.cells (nums .i64 L).toArray 48 (0, 0))) ∧ Aside0 (wr.heap[s0]? = some (.cells (nums .i64 (List.replicate 68 0)).toArray 48 (0, 0))) ∧ Aside0 (Below w.heap.size w wr)) (fun _ _ v9 _ _ _ => 2 - (intOf v9).toNat)
  case atStart => exact ⟨0, (List.replicate 68 0), 0, false, _, _, rfl, rfl, rfl, rfl, rfl, ⟨Nat.zero_le _⟩, NZ, ⟨rfl⟩, H6_4, H2_4, HB4⟩
  case round =>
    clear H6_4 H2_4 HB4
    obtain ⟨j, L, s, f, v10, v11, rfl, rfl, rfl, rfl, rfl, hj, HLL, HST, H6, H2, HB⟩ := hrel
    by_cases c9 : j < 2
    · have c9b0 : decide ((j : Int) < 2) = true := decide_eq_true (by omega)
      have c9b1 : decide (j < 2) = true := decide_eq_true c9
      have C9 := Aside0.mk c9
      clear c9
      obtain ⟨r, kd, hd⟩ : ∃ r kd, decA l0 j = (r, kd) := ⟨_, _, rfl⟩
      have HD := Aside0.mk hd
      have NL := Aside0.mk (show r.length = 68 by have h_ : r = (decA l0 j).1 := (congrArg Prod.fst hd).symm; rw [h_]; exact decF_length (fsA_length _))
      have EF := Aside0.mk (show spec_DecodeFsinfo.f (blk l0 j) = some (r, kd) by rw [← hd]; exact if_pos (blk_byt HBY.out j))
      have HJB := Aside0.mk (show 512 * j + 512 ≤ l0.length by have := HSZ.out.2; have := C9.out; omega)
      obtain ⟨x0, hx0⟩ : ∃ x, x = r.getD 0 0 := ⟨_, rfl⟩
      obtain ⟨x1, hx1⟩ : ∃ x, x = r.getD 1 0 := ⟨_, rfl⟩
      obtain ⟨y0, hy0⟩ : ∃ x, x = L.getD 0 0 := ⟨_, rfl⟩
      have X0 := Aside0.mk hx0
      have X1 := Aside0.mk hx1
      have Y0 := Aside0.mk hy0
      clear hd hx0 hx1 hy0
      by_cases ce : kd = 0
      case neg =>
        have e0 : (kd == 0) = false := beq_eq_false_iff_ne.mpr ce
        have CE := Aside0.mk ce
        clear ce
        go_wp2_with (first | ((with_reducible refine gate_dst (N := 25) rfl ?_); refine goesL_ (some 25) rfl rfl Tryd.func69 (by kernel_rfl) rfl #[.slice A0 l0.length c0, .int .i64 (j : Int)] rfl (by (try simp only [List.map_toArray, List.map_cons, List.map_nil]); first | done | rfl) ?_; refine (spec_l09At.calls A0 c0 l0 j _ (Kd.C_below HR0.out HB.out) HC0.out HJB.out HLM.out).mono ?_; rintro e_ w5 ⟨⟨A5, c5, rfl, hr5, hc5⟩, b_⟩; refine ⟨_, rfl, ?_⟩; have R5 := Aside0.mk hr5; have C5 := Aside0.mk hc5; clear hr5 hc5; have H6_5 := Aside0.mk (blk_below H6.out b_); have H2_5 := Aside0.mk (blk_below H2.out b_); have HB_5 := Aside0.mk (below_then HB.out HB.out.size b_); clear b_ H6 H2 HB) | ((with_reducible refine gate_dst (N := 26) rfl ?_); refine goesL_ (some 26) rfl rfl Tryd.func23 (by kernel_rfl) rfl #[.slice A5 (blk l0 j).length c5] rfl (by (try simp only [List.map_toArray, List.map_cons, List.map_nil]); first | done | rfl) ?_; refine (spec_DecodeFsinfo.calls A5 c5 (blk l0 j) r kd _ R5.out C5.out EF.out).mono ?_; rintro e_ w6 ⟨rfl, b_⟩; refine ⟨_, rfl, ?_⟩; have H6_6 := Aside0.mk (blk_below H6_5.out b_); have H2_6 := Aside0.mk (blk_below H2_5.out b_); have HB_6 := Aside0.mk (below_then HB_5.out HB_5.out.size b_); have hz2_ := blk_lt H2_6.out; have hz6_ := blk_lt H6_6.out; obtain ⟨s6, S6⟩ : ∃ s, Aside0 (w6.heap.size = s) := ⟨_, ⟨rfl⟩⟩; rw [S6.out] at hz2_ hz6_; clear b_ H6_5 H2_5 HB_5) | ((with_reducible refine gate_dst (N := 10) rfl ?_); refine hx_alloc rfl 10 rfl 48 rfl S6 (.agg (nums .i64 (List.replicate 68 0)).toArray) (nums .i64 (List.replicate 68 0)).toArray Z48 rfl ?_; intro w7 s7 Ls7 Ss7 b_ g_; have HX := Aside0.mk g_; have HB_7 := Aside0.mk (below_then HB_6.out HB_6.out.size b_); have H6_7 := Aside0.mk (blk_below H6_6.out b_); have H2_7 := Aside0.mk (blk_below H2_6.out b_); clear b_ g_ HB_6 H6_6 H2_6) | ((with_reducible refine gate_store (t := 48) (p := 10) (v := .tmp 27) rfl ?_); refine hx_store rfl rfl 48 (.tmp 10) (.tmp 27) rfl s6 68 rfl (nums .i64 r).toArray rfl (by kernel_rfl) (nums_size _ _ _ NL.out) (nums_one _ _) HX.out (by simp [nums]) ?_; intro w8 t_ gg_; have HX_8 := Aside0.mk gg_; have H2_8 := Aside0.mk (t_.keep (show s0 ≠ s6 by omega) H2_7.out); have H6_8 := Aside0.mk (t_.keep (show s2 ≠ s6 by omega) H6_7.out); have HB_8 := Aside0.mk (t_.below HB_7.out (by omega)); clear t_ gg_ HX HB_7 H2_7 H6_7) | ((with_reducible refine gate_dst (N := 33) rfl ?_); refine Go.Proofs.YtkghgjehjchajaaDoorW.PrintTab2.ungd (by rfl) ?_; refine hx_loadf rfl 3 (.tmp 32) rfl s6 1 rfl Tryd.underlying3 rfl HX_8.out (lt_len (n := 68) NL.out (by decide)) ?_; rw [← X1.out]) | ((with_reducible refine gate_dst (N := 42) rfl ?_); refine Go.Proofs.YtkghgjehjchajaaDoorW.PrintTab2.ungd (by rfl) ?_; refine hx_loadf rfl 3 (.tmp 41) rfl s6 0 rfl Tryd.underlying3 rfl HX_8.out (lt_len (n := 68) NL.out (by decide)) ?_; rw [← X0.out]) | ((with_reducible refine gate_dst (N := 44) rfl ?_); refine Go.Proofs.YtkghgjehjchajaaDoorW.PrintTab2.ungd (by rfl) ?_; refine hx_loadf rfl 3 (.tmp 43) rfl s2 0 rfl Tryd.underlying3 rfl H6_8.out (lt_len (n := 68) HLL.out (by decide)) ?_; rw [← Y0.out]))
        go_roundw
        case rel => exact ⟨j + 1, L, s, _, _, _, rfl, rfl, rfl, rfl, by first | rw [show wrap64 ((j : Int) + 1) = ((j + 1 : Nat) : Int) by (have := C9.out; unfold wrap64; omega)] | (simp; done), ⟨by have := C9.out; omega⟩, HLL, ⟨stN_skip HST.out HD.out (fun h_ => by have h1_ := CE.out; have h2_ := h_.1.1; omega)⟩, H6_8, H2_8, HB_8⟩
        case measure =>
          (try rw [show wrap64 ((j : Int) + 1) = ((j + 1 : Nat) : Int) by (have := C9.out; unfold wrap64; omega)])
          simp only [intOf]
          have := C9.out
          omega
      have e0 : (kd == 0) = true := beq_iff_eq.mpr ce
      have CE := Aside0.mk ce
      clear ce
      by_cases cn : x1 = nb
      case neg =>
        have e1 : (x1 == nb) = false := beq_eq_false_iff_ne.mpr cn
        have CN := Aside0.mk cn
        clear cn
        go_wp2_with (first | ((with_reducible refine gate_dst (N := 25) rfl ?_); refine goesL_ (some 25) rfl rfl Tryd.func69 (by kernel_rfl) rfl #[.slice A0 l0.length c0, .int .i64 (j : Int)] rfl (by (try simp only [List.map_toArray, List.map_cons, List.map_nil]); first | done | rfl) ?_; refine (spec_l09At.calls A0 c0 l0 j _ (Kd.C_below HR0.out HB.out) HC0.out HJB.out HLM.out).mono ?_; rintro e_ w5 ⟨⟨A5, c5, rfl, hr5, hc5⟩, b_⟩; refine ⟨_, rfl, ?_⟩; have R5 := Aside0.mk hr5; have C5 := Aside0.mk hc5; clear hr5 hc5; have H6_5 := Aside0.mk (blk_below H6.out b_); have H2_5 := Aside0.mk (blk_below H2.out b_); have HB_5 := Aside0.mk (below_then HB.out HB.out.size b_); clear b_ H6 H2 HB) | ((with_reducible refine gate_dst (N := 26) rfl ?_); refine goesL_ (some 26) rfl rfl Tryd.func23 (by kernel_rfl) rfl #[.slice A5 (blk l0 j).length c5] rfl (by (try simp only [List.map_toArray, List.map_cons, List.map_nil]); first | done | rfl) ?_; refine (spec_DecodeFsinfo.calls A5 c5 (blk l0 j) r kd _ R5.out C5.out EF.out).mono ?_; rintro e_ w6 ⟨rfl, b_⟩; refine ⟨_, rfl, ?_⟩; have H6_6 := Aside0.mk (blk_below H6_5.out b_); have H2_6 := Aside0.mk (blk_below H2_5.out b_); have HB_6 := Aside0.mk (below_then HB_5.out HB_5.out.size b_); have hz2_ := blk_lt H2_6.out; have hz6_ := blk_lt H6_6.out; obtain ⟨s6, S6⟩ : ∃ s, Aside0 (w6.heap.size = s) := ⟨_, ⟨rfl⟩⟩; rw [S6.out] at hz2_ hz6_; clear b_ H6_5 H2_5 HB_5) | ((with_reducible refine gate_dst (N := 10) rfl ?_); refine hx_alloc rfl 10 rfl 48 rfl S6 (.agg (nums .i64 (List.replicate 68 0)).toArray) (nums .i64 (List.replicate 68 0)).toArray Z48 rfl ?_; intro w7 s7 Ls7 Ss7 b_ g_; have HX := Aside0.mk g_; have HB_7 := Aside0.mk (below_then HB_6.out HB_6.out.size b_); have H6_7 := Aside0.mk (blk_below H6_6.out b_); have H2_7 := Aside0.mk (blk_below H2_6.out b_); clear b_ g_ HB_6 H6_6 H2_6) | ((with_reducible refine gate_store (t := 48) (p := 10) (v := .tmp 27) rfl ?_); refine hx_store rfl rfl 48 (.tmp 10) (.tmp 27) rfl s6 68 rfl (nums .i64 r).toArray rfl (by kernel_rfl) (nums_size _ _ _ NL.out) (nums_one _ _) HX.out (by simp [nums]) ?_; intro w8 t_ gg_; have HX_8 := Aside0.mk gg_; have H2_8 := Aside0.mk (t_.keep (show s0 ≠ s6 by omega) H2_7.out); have H6_8 := Aside0.mk (t_.keep (show s2 ≠ s6 by omega) H6_7.out); have HB_8 := Aside0.mk (t_.below HB_7.out (by omega)); clear t_ gg_ HX HB_7 H2_7 H6_7) | ((with_reducible refine gate_dst (N := 33) rfl ?_); refine Go.Proofs.YtkghgjehjchajaaDoorW.PrintTab2.ungd (by rfl) ?_; refine hx_loadf rfl 3 (.tmp 32) rfl s6 1 rfl Tryd.underlying3 rfl HX_8.out (lt_len (n := 68) NL.out (by decide)) ?_; rw [← X1.out]) | ((with_reducible refine gate_dst (N := 42) rfl ?_); refine Go.Proofs.YtkghgjehjchajaaDoorW.PrintTab2.ungd (by rfl) ?_; refine hx_loadf rfl 3 (.tmp 41) rfl s6 0 rfl Tryd.underlying3 rfl HX_8.out (lt_len (n := 68) NL.out (by decide)) ?_; rw [← X0.out]) | ((with_reducible refine gate_dst (N := 44) rfl ?_); refine Go.Proofs.YtkghgjehjchajaaDoorW.PrintTab2.ungd (by rfl) ?_; refine hx_loadf rfl 3 (.tmp 43) rfl s2 0 rfl Tryd.underlying3 rfl H6_8.out (lt_len (n := 68) HLL.out (by decide)) ?_; rw [← Y0.out]))
        go_roundw
        case rel => exact ⟨j + 1, L, s, _, _, _, rfl, rfl, rfl, rfl, by first | rw [show wrap64 ((j : Int) + 1) = ((j + 1 : Nat) : Int) by (have := C9.out; unfold wrap64; omega)] | (simp; done), ⟨by have := C9.out; omega⟩, HLL, ⟨stN_skip HST.out HD.out (fun h_ => by have h1_ := CN.out; have h2_ := X1.out; have h3_ := h_.1.2; omega)⟩, H6_8, H2_8, HB_8⟩
        case measure =>
          (try rw [show wrap64 ((j : Int) + 1) = ((j + 1 : Nat) : Int) by (have := C9.out; unfold wrap64; omega)])
          simp only [intOf]
          have := C9.out
          omega
      have e1 : (x1 == nb) = true := beq_iff_eq.mpr cn
      have CN := Aside0.mk cn
      clear cn
      cases f
      case false =>
        go_wp2_with (first | ((with_reducible refine gate_dst (N := 25) rfl ?_); refine goesL_ (some 25) rfl rfl Tryd.func69 (by kernel_rfl) rfl #[.slice A0 l0.length c0, .int .i64 (j : Int)] rfl (by (try simp only [List.map_toArray, List.map_cons, List.map_nil]); first | done | rfl) ?_; refine (spec_l09At.calls A0 c0 l0 j _ (Kd.C_below HR0.out HB.out) HC0.out HJB.out HLM.out).mono ?_; rintro e_ w5 ⟨⟨A5, c5, rfl, hr5, hc5⟩, b_⟩; refine ⟨_, rfl, ?_⟩; have R5 := Aside0.mk hr5; have C5 := Aside0.mk hc5; clear hr5 hc5; have H6_5 := Aside0.mk (blk_below H6.out b_); have H2_5 := Aside0.mk (blk_below H2.out b_); have HB_5 := Aside0.mk (below_then HB.out HB.out.size b_); clear b_ H6 H2 HB) | ((with_reducible refine gate_dst (N := 26) rfl ?_); refine goesL_ (some 26) rfl rfl Tryd.func23 (by kernel_rfl) rfl #[.slice A5 (blk l0 j).length c5] rfl (by (try simp only [List.map_toArray, List.map_cons, List.map_nil]); first | done | rfl) ?_; refine (spec_DecodeFsinfo.calls A5 c5 (blk l0 j) r kd _ R5.out C5.out EF.out).mono ?_; rintro e_ w6 ⟨rfl, b_⟩; refine ⟨_, rfl, ?_⟩; have H6_6 := Aside0.mk (blk_below H6_5.out b_); have H2_6 := Aside0.mk (blk_below H2_5.out b_); have HB_6 := Aside0.mk (below_then HB_5.out HB_5.out.size b_); have hz2_ := blk_lt H2_6.out; have hz6_ := blk_lt H6_6.out; obtain ⟨s6, S6⟩ : ∃ s, Aside0 (w6.heap.size = s) := ⟨_, ⟨rfl⟩⟩; rw [S6.out] at hz2_ hz6_; clear b_ H6_5 H2_5 HB_5) | ((with_reducible refine gate_dst (N := 10) rfl ?_); refine hx_alloc rfl 10 rfl 48 rfl S6 (.agg (nums .i64 (List.replicate 68 0)).toArray) (nums .i64 (List.replicate 68 0)).toArray Z48 rfl ?_; intro w7 s7 Ls7 Ss7 b_ g_; have HX := Aside0.mk g_; have HB_7 := Aside0.mk (below_then HB_6.out HB_6.out.size b_); have H6_7 := Aside0.mk (blk_below H6_6.out b_); have H2_7 := Aside0.mk (blk_below H2_6.out b_); clear b_ g_ HB_6 H6_6 H2_6) | ((with_reducible refine gate_store (t := 48) (p := 10) (v := .tmp 27) rfl ?_); refine hx_store rfl rfl 48 (.tmp 10) (.tmp 27) rfl s6 68 rfl (nums .i64 r).toArray rfl (by kernel_rfl) (nums_size _ _ _ NL.out) (nums_one _ _) HX.out (by simp [nums]) ?_; intro w8 t_ gg_; have HX_8 := Aside0.mk gg_; have H2_8 := Aside0.mk (t_.keep (show s0 ≠ s6 by omega) H2_7.out); have H6_8 := Aside0.mk (t_.keep (show s2 ≠ s6 by omega) H6_7.out); have HB_8 := Aside0.mk (t_.below HB_7.out (by omega)); clear t_ gg_ HX HB_7 H2_7 H6_7) | ((with_reducible refine gate_dst (N := 33) rfl ?_); refine Go.Proofs.YtkghgjehjchajaaDoorW.PrintTab2.ungd (by rfl) ?_; refine hx_loadf rfl 3 (.tmp 32) rfl s6 1 rfl Tryd.underlying3 rfl HX_8.out (lt_len (n := 68) NL.out (by decide)) ?_; rw [← X1.out]) | ((with_reducible refine gate_dst (N := 42) rfl ?_); refine Go.Proofs.YtkghgjehjchajaaDoorW.PrintTab2.ungd (by rfl) ?_; refine hx_loadf rfl 3 (.tmp 41) rfl s6 0 rfl Tryd.underlying3 rfl HX_8.out (lt_len (n := 68) NL.out (by decide)) ?_; rw [← X0.out]) | ((with_reducible refine gate_dst (N := 44) rfl ?_); refine Go.Proofs.YtkghgjehjchajaaDoorW.PrintTab2.ungd (by rfl) ?_; refine hx_loadf rfl 3 (.tmp 43) rfl s2 0 rfl Tryd.underlying3 rfl H6_8.out (lt_len (n := 68) HLL.out (by decide)) ?_; rw [← Y0.out]) | ((with_reducible refine gate_dst (N := 48) rfl ?_); refine hx_load rfl 48 (.tmp 10) rfl s6 68 rfl Tryd.underlying48 rfl (by kernel_rfl) HX_8.out (nums_size _ _ _ NL.out) ?_) | ((with_reducible refine gate_store (t := 48) (p := 6) (v := .tmp 48) rfl ?_); refine hx_store rfl rfl 48 (.tmp 6) (.tmp 48) rfl s2 68 rfl (nums .i64 r).toArray rfl (by kernel_rfl) (nums_size _ _ _ NL.out) (nums_one _ _) H6_8.out (nums_size _ _ _ HLL.out) ?_; intro w9 t_ gg_; have H6_9 := Aside0.mk gg_; have H2_9 := Aside0.mk (t_.keep (show s0 ≠ s2 by omega) H2_8.out); have HB_9 := Aside0.mk (t_.below HB_8.out (by omega)); clear t_ gg_ H6_8 HB_8 H2_8))
        go_roundw
        case rel => exact ⟨j + 1, r, (j : Int), true, _, _, rfl, rfl, rfl, rfl, by first | rw [show wrap64 ((j : Int) + 1) = ((j + 1 : Nat) : Int) by (have := C9.out; unfold wrap64; omega)] | (simp; done), ⟨by have := C9.out; omega⟩, NL, ⟨stN_use HST.out HD.out (⟨⟨CE.out, X1.out.symm.trans CN.out⟩, .inl rfl⟩)⟩, H6_9, H2_9, HB_9⟩
        case measure =>
          (try rw [show wrap64 ((j : Int) + 1) = ((j + 1 : Nat) : Int) by (have := C9.out; unfold wrap64; omega)])
          simp only [intOf]
          have := C9.out
          omega
      by_cases cg : y0 < x0
      case neg =>
        have e2 : decide (y0 < x0) = false := decide_eq_false cg
        have CG := Aside0.mk cg
        clear cg
        go_wp2_with (first | ((with_reducible refine gate_dst (N := 25) rfl ?_); refine goesL_ (some 25) rfl rfl Tryd.func69 (by kernel_rfl) rfl #[.slice A0 l0.length c0, .int .i64 (j : Int)] rfl (by (try simp only [List.map_toArray, List.map_cons, List.map_nil]); first | done | rfl) ?_; refine (spec_l09At.calls A0 c0 l0 j _ (Kd.C_below HR0.out HB.out) HC0.out HJB.out HLM.out).mono ?_; rintro e_ w5 ⟨⟨A5, c5, rfl, hr5, hc5⟩, b_⟩; refine ⟨_, rfl, ?_⟩; have R5 := Aside0.mk hr5; have C5 := Aside0.mk hc5; clear hr5 hc5; have H6_5 := Aside0.mk (blk_below H6.out b_); have H2_5 := Aside0.mk (blk_below H2.out b_); have HB_5 := Aside0.mk (below_then HB.out HB.out.size b_); clear b_ H6 H2 HB) | ((with_reducible refine gate_dst (N := 26) rfl ?_); refine goesL_ (some 26) rfl rfl Tryd.func23 (by kernel_rfl) rfl #[.slice A5 (blk l0 j).length c5] rfl (by (try simp only [List.map_toArray, List.map_cons, List.map_nil]); first | done | rfl) ?_; refine (spec_DecodeFsinfo.calls A5 c5 (blk l0 j) r kd _ R5.out C5.out EF.out).mono ?_; rintro e_ w6 ⟨rfl, b_⟩; refine ⟨_, rfl, ?_⟩; have H6_6 := Aside0.mk (blk_below H6_5.out b_); have H2_6 := Aside0.mk (blk_below H2_5.out b_); have HB_6 := Aside0.mk (below_then HB_5.out HB_5.out.size b_); have hz2_ := blk_lt H2_6.out; have hz6_ := blk_lt H6_6.out; obtain ⟨s6, S6⟩ : ∃ s, Aside0 (w6.heap.size = s) := ⟨_, ⟨rfl⟩⟩; rw [S6.out] at hz2_ hz6_; clear b_ H6_5 H2_5 HB_5) | ((with_reducible refine gate_dst (N := 10) rfl ?_); refine hx_alloc rfl 10 rfl 48 rfl S6 (.agg (nums .i64 (List.replicate 68 0)).toArray) (nums .i64 (List.replicate 68 0)).toArray Z48 rfl ?_; intro w7 s7 Ls7 Ss7 b_ g_; have HX := Aside0.mk g_; have HB_7 := Aside0.mk (below_then HB_6.out HB_6.out.size b_); have H6_7 := Aside0.mk (blk_below H6_6.out b_); have H2_7 := Aside0.mk (blk_below H2_6.out b_); clear b_ g_ HB_6 H6_6 H2_6) | ((with_reducible refine gate_store (t := 48) (p := 10) (v := .tmp 27) rfl ?_); refine hx_store rfl rfl 48 (.tmp 10) (.tmp 27) rfl s6 68 rfl (nums .i64 r).toArray rfl (by kernel_rfl) (nums_size _ _ _ NL.out) (nums_one _ _) HX.out (by simp [nums]) ?_; intro w8 t_ gg_; have HX_8 := Aside0.mk gg_; have H2_8 := Aside0.mk (t_.keep (show s0 ≠ s6 by omega) H2_7.out); have H6_8 := Aside0.mk (t_.keep (show s2 ≠ s6 by omega) H6_7.out); have HB_8 := Aside0.mk (t_.below HB_7.out (by omega)); clear t_ gg_ HX HB_7 H2_7 H6_7) | ((with_reducible refine gate_dst (N := 33) rfl ?_); refine Go.Proofs.YtkghgjehjchajaaDoorW.PrintTab2.ungd (by rfl) ?_; refine hx_loadf rfl 3 (.tmp 32) rfl s6 1 rfl Tryd.underlying3 rfl HX_8.out (lt_len (n := 68) NL.out (by decide)) ?_; rw [← X1.out]) | ((with_reducible refine gate_dst (N := 42) rfl ?_); refine Go.Proofs.YtkghgjehjchajaaDoorW.PrintTab2.ungd (by rfl) ?_; refine hx_loadf rfl 3 (.tmp 41) rfl s6 0 rfl Tryd.underlying3 rfl HX_8.out (lt_len (n := 68) NL.out (by decide)) ?_; rw [← X0.out]) | ((with_reducible refine gate_dst (N := 44) rfl ?_); refine Go.Proofs.YtkghgjehjchajaaDoorW.PrintTab2.ungd (by rfl) ?_; refine hx_loadf rfl 3 (.tmp 43) rfl s2 0 rfl Tryd.underlying3 rfl H6_8.out (lt_len (n := 68) HLL.out (by decide)) ?_; rw [← Y0.out]))
        go_roundw
        case rel => exact ⟨j + 1, L, s, _, _, _, rfl, rfl, rfl, rfl, by first | rw [show wrap64 ((j : Int) + 1) = ((j + 1 : Nat) : Int) by (have := C9.out; unfold wrap64; omega)] | (simp; done), ⟨by have := C9.out; omega⟩, HLL, ⟨stN_skip HST.out HD.out (fun h_ => h_.2.elim (fun h2_ => Bool.noConfusion h2_) (fun h2_ => by rw [← Y0.out, ← X0.out] at h2_; have h3_ := CG.out; omega))⟩, H6_8, H2_8, HB_8⟩
        case measure =>
          (try rw [show wrap64 ((j : Int) + 1) = ((j + 1 : Nat) : Int) by (have := C9.out; unfold wrap64; omega)])
          simp only [intOf]
          have := C9.out
          omega
      have e2 : decide (y0 < x0) = true := decide_eq_true cg
      have CG := Aside0.mk cg
      clear cg
      go_wp2_with (first | ((with_reducible refine gate_dst (N := 25) rfl ?_); refine goesL_ (some 25) rfl rfl Tryd.func69 (by kernel_rfl) rfl #[.slice A0 l0.length c0, .int .i64 (j : Int)] rfl (by (try simp only [List.map_toArray, List.map_cons, List.map_nil]); first | done | rfl) ?_; refine (spec_l09At.calls A0 c0 l0 j _ (Kd.C_below HR0.out HB.out) HC0.out HJB.out HLM.out).mono ?_; rintro e_ w5 ⟨⟨A5, c5, rfl, hr5, hc5⟩, b_⟩; refine ⟨_, rfl, ?_⟩; have R5 := Aside0.mk hr5; have C5 := Aside0.mk hc5; clear hr5 hc5; have H6_5 := Aside0.mk (blk_below H6.out b_); have H2_5 := Aside0.mk (blk_below H2.out b_); have HB_5 := Aside0.mk (below_then HB.out HB.out.size b_); clear b_ H6 H2 HB) | ((with_reducible refine gate_dst (N := 26) rfl ?_); refine goesL_ (some 26) rfl rfl Tryd.func23 (by kernel_rfl) rfl #[.slice A5 (blk l0 j).length c5] rfl (by (try simp only [List.map_toArray, List.map_cons, List.map_nil]); first | done | rfl) ?_; refine (spec_DecodeFsinfo.calls A5 c5 (blk l0 j) r kd _ R5.out C5.out EF.out).mono ?_; rintro e_ w6 ⟨rfl, b_⟩; refine ⟨_, rfl, ?_⟩; have H6_6 := Aside0.mk (blk_below H6_5.out b_); have H2_6 := Aside0.mk (blk_below H2_5.out b_); have HB_6 := Aside0.mk (below_then HB_5.out HB_5.out.size b_); have hz2_ := blk_lt H2_6.out; have hz6_ := blk_lt H6_6.out; obtain ⟨s6, S6⟩ : ∃ s, Aside0 (w6.heap.size = s) := ⟨_, ⟨rfl⟩⟩; rw [S6.out] at hz2_ hz6_; clear b_ H6_5 H2_5 HB_5) | ((with_reducible refine gate_dst (N := 10) rfl ?_); refine hx_alloc rfl 10 rfl 48 rfl S6 (.agg (nums .i64 (List.replicate 68 0)).toArray) (nums .i64 (List.replicate 68 0)).toArray Z48 rfl ?_; intro w7 s7 Ls7 Ss7 b_ g_; have HX := Aside0.mk g_; have HB_7 := Aside0.mk (below_then HB_6.out HB_6.out.size b_); have H6_7 := Aside0.mk (blk_below H6_6.out b_); have H2_7 := Aside0.mk (blk_below H2_6.out b_); clear b_ g_ HB_6 H6_6 H2_6) | ((with_reducible refine gate_store (t := 48) (p := 10) (v := .tmp 27) rfl ?_); refine hx_store rfl rfl 48 (.tmp 10) (.tmp 27) rfl s6 68 rfl (nums .i64 r).toArray rfl (by kernel_rfl) (nums_size _ _ _ NL.out) (nums_one _ _) HX.out (by simp [nums]) ?_; intro w8 t_ gg_; have HX_8 := Aside0.mk gg_; have H2_8 := Aside0.mk (t_.keep (show s0 ≠ s6 by omega) H2_7.out); have H6_8 := Aside0.mk (t_.keep (show s2 ≠ s6 by omega) H6_7.out); have HB_8 := Aside0.mk (t_.below HB_7.out (by omega)); clear t_ gg_ HX HB_7 H2_7 H6_7) | ((with_reducible refine gate_dst (N := 33) rfl ?_); refine Go.Proofs.YtkghgjehjchajaaDoorW.PrintTab2.ungd (by rfl) ?_; refine hx_loadf rfl 3 (.tmp 32) rfl s6 1 rfl Tryd.underlying3 rfl HX_8.out (lt_len (n := 68) NL.out (by decide)) ?_; rw [← X1.out]) | ((with_reducible refine gate_dst (N := 42) rfl ?_); refine Go.Proofs.YtkghgjehjchajaaDoorW.PrintTab2.ungd (by rfl) ?_; refine hx_loadf rfl 3 (.tmp 41) rfl s6 0 rfl Tryd.underlying3 rfl HX_8.out (lt_len (n := 68) NL.out (by decide)) ?_; rw [← X0.out]) | ((with_reducible refine gate_dst (N := 44) rfl ?_); refine Go.Proofs.YtkghgjehjchajaaDoorW.PrintTab2.ungd (by rfl) ?_; refine hx_loadf rfl 3 (.tmp 43) rfl s2 0 rfl Tryd.underlying3 rfl H6_8.out (lt_len (n := 68) HLL.out (by decide)) ?_; rw [← Y0.out]) | ((with_reducible refine gate_dst (N := 48) rfl ?_); refine hx_load rfl 48 (.tmp 10) rfl s6 68 rfl Tryd.underlying48 rfl (by kernel_rfl) HX_8.out (nums_size _ _ _ NL.out) ?_) | ((with_reducible refine gate_store (t := 48) (p := 6) (v := .tmp 48) rfl ?_); refine hx_store rfl rfl 48 (.tmp 6) (.tmp 48) rfl s2 68 rfl (nums .i64 r).toArray rfl (by kernel_rfl) (nums_size _ _ _ NL.out) (nums_one _ _) H6_8.out (nums_size _ _ _ HLL.out) ?_; intro w9 t_ gg_; have H6_9 := Aside0.mk gg_; have H2_9 := Aside0.mk (t_.keep (show s0 ≠ s2 by omega) H2_8.out); have HB_9 := Aside0.mk (t_.below HB_8.out (by omega)); clear t_ gg_ H6_8 HB_8 H2_8))
      go_roundw
      case rel => exact ⟨j + 1, r, (j : Int), true, _, _, rfl, rfl, rfl, rfl, by first | rw [show wrap64 ((j : Int) + 1) = ((j + 1 : Nat) : Int) by (have := C9.out; unfold wrap64; omega)] | (simp; done), ⟨by have := C9.out; omega⟩, NL, ⟨stN_use HST.out HD.out (⟨⟨CE.out, X1.out.symm.trans CN.out⟩, .inr (by rw [← Y0.out, ← X0.out]; exact CG.out)⟩)⟩, H6_9, H2_9, HB_9⟩
      case measure =>
        (try rw [show wrap64 ((j : Int) + 1) = ((j + 1 : Nat) : Int) by (have := C9.out; unfold wrap64; omega)])
        simp only [intOf]
        have := C9.out
        omega
    · obtain rfl : j = 2 := by have := hj.out; omega
      have c9b0 : decide ((2 : Int) < 2) = false := by decide
      have h := H.out
      rw [HST.out] at h
      have NLx := HLL
      clear c9 H
      cases f
      case false =>
        simp only [chosen, Bool.false_eq_true, if_false, Prod.mk.injEq] at h
        obtain ⟨rfl, rfl, rfl⟩ := h
        go_wp2_with (first | ((with_reducible refine gate_store (t := 48) (p := 2) (v := .tmp 52) rfl ?_); refine hx_store rfl rfl 48 (.tmp 2) (.tmp 52) rfl s0 68 rfl (nums .i64 (List.replicate 68 0)).toArray rfl (by kernel_rfl) (nums_size _ _ _ NZ.out) (nums_one _ _) H2.out (by simp [nums]) ?_; intro we t_ gg_; have HE := Aside0.mk gg_; have HEB := Aside0.mk (t_.below HB.out (by omega)); clear t_ gg_ H2 HB ))
        exact bodyPost_ret (results_ctt rfl _ _ s0 48 (nums .i64 (List.replicate 68 0)).toArray (0, 0) _ rfl HE.out Tryd.underlying48 rfl (by rw [nums_size _ _ _ NZ.out]; kernel_rfl)) rfl ⟨rfl, HEB.out⟩
      simp only [chosen, if_true, Prod.mk.injEq] at h
      obtain ⟨rfl, rfl, rfl⟩ := h
      go_wp2_with (first | ((with_reducible refine gate_dst (N := 53) rfl ?_); refine hx_load rfl 48 (.tmp 6) rfl s2 68 rfl Tryd.underlying48 rfl (by kernel_rfl) H6.out (nums_size _ _ _ HLL.out) ?_) | ((with_reducible refine gate_store (t := 48) (p := 2) (v := .tmp 53) rfl ?_); refine hx_store rfl rfl 48 (.tmp 2) (.tmp 53) rfl s0 68 rfl (nums .i64 L).toArray rfl (by kernel_rfl) (nums_size _ _ _ HLL.out) (nums_one _ _) H2.out (nums_size _ _ _ NZ.out) ?_; intro we t_ gg_; have HE := Aside0.mk gg_; have HEB := Aside0.mk (t_.below HB.out (by omega)); clear t_ gg_ H2 HB ))
      exact bodyPost_ret (results_ctt rfl _ _ s0 48 (nums .i64 L).toArray (0, 0) _ rfl HE.out Tryd.underlying48 rfl (by rw [nums_size _ _ _ NLx.out]; kernel_rfl)) rfl ⟨rfl, HEB.out⟩

/-! ### impl_put_int: function 48 -/
def impl_put_int.l0 : Nat → List Int → Int → Int → Int → Int → Option (List Int)
  | 0, _, _, _, _, _ => none
  | k + 1, x0, x1, x3, x9, x10 => if x10 < x9 then (if 0 ≤ (wrap64 (8 * x10)) then (if 0 ≤ (wrap64 (x1 + x10)) then (if (wrap64 (x1 + x10)) < (x0.length : Int) then (impl_put_int.l0 k (x0.set ((wrap64 (x1 + x10)) : Int).toNat ((shr .u64 (IntKind.u64.wrap (x3)) (wrap64 (8 * x10))) % 256)) x1 x3 x9 (wrap64 (x10 + 1))) else (none)) else (none)) else (none)) else (some x0)
def impl_put_int.f (k : Nat) (l0 : List Int) (a1 : Int) (a2 : Int) (a3 : Int) : Option (List Int) := impl_put_int.l0 k l0 a1 a3 a2 0
theorem impl_put_int.mono_l : ∀ k, (∀ y0 y1 y2 y3 y4, LeO (impl_put_int.l0 k y0 y1 y2 y3 y4) (impl_put_int.l0 (k + 1) y0 y1 y2 y3 y4))
  | 0 => fun _ _ _ _ _ r h => by simp [impl_put_int.l0] at h
  | k + 1 => by
    have ih0 := impl_put_int.mono_l k
    · intro y0 y1 y2 y3 y4
      unfold impl_put_int.l0
      repeat' first
      | (with_reducible exact ih0 _ _ _ _ _)
      | (with_reducible exact LeO.refl _)
      | (with_reducible exact LeO.none _)
      | (with_reducible refine LeO.ite ?_ ?_)
      | (with_reducible refine LeO.bind ?_ (fun _ => ?_))
      | exact ih0 _ _ _ _ _
      | exact LeO.none _
      | refine LeO.ite ?_ ?_
      | refine LeO.bind ?_ (fun _ => ?_)
theorem impl_put_int.mono : ∀ a0 a1 a2 a3 k, LeO (impl_put_int.f k a0 a1 a2 a3) (impl_put_int.f (k + 1) a0 a1 a2 a3) := by
  intro a0 a1 a2 a3 k
  have ih0 := impl_put_int.mono_l k
  unfold impl_put_int.f
  repeat' first
      | (with_reducible exact ih0 _ _ _ _ _)
      | (with_reducible exact LeO.refl _)
      | (with_reducible exact LeO.none _)
      | (with_reducible refine LeO.ite ?_ ?_)
      | (with_reducible refine LeO.bind ?_ (fun _ => ?_))
      | exact ih0 _ _ _ _ _
      | exact LeO.none _
      | refine LeO.ite ?_ ?_
      | refine LeO.bind ?_ (fun _ => ?_)
set_option maxHeartbeats 8000000 in
set_option maxRecDepth 100000 in
theorem impl_put_int.calls (k : Nat) (P0_ : Nat → Prop) (u9000_ : Value) (l0 : List Int) (a1 : Int) (a2 : Int) (a3 : Int) (r : List Int) (w0 w : World) (hB : Below w0.heap.size w0 w) (ho0 : Kd.R (Kd.int .u8) 5 w w0.heap.size P0_ u9000_ l0) (h : impl_put_int.f k l0 a1 a2 a3 = some r) :
    Calls Tryd.prog 48 #[u9000_, .int .i64 a1, .int .i64 a2, .int .i64 a3] w fun e w' => e = .returned (.tuple #[]) ∧ Kd.R (Kd.int .u8) 5 w' w0.heap.size (fun k_ => (P0_ k_ ∨ w.heap.size ≤ k_)) u9000_ r ∧ Below w0.heap.size w0 w' ∧ Kept w w' (fun k_ => P0_ k_) := by
  have HO0 := Aside0.mk (show Kd.R (Kd.int .u8) 5 w w0.heap.size (fun k_ => (P0_ k_ ∨ w.heap.size ≤ k_)) u9000_ l0 from Kd.R_mono ho0 (fun k_ hk => (.inl hk)))
  have HK := Aside0.mk (Kept.refl w (fun k_ => P0_ k_))
  have HW0 := Aside0.mk hB.size
  have HB := Aside0.mk hB
  clear hB
  have H : (impl_put_int.l0 k l0 a1 a3 a2 0) = some r := h
  clear h
  have H' := Aside0.mk H
  clear H
  go_enter Tryd.func48, Tryd.ntmps48
  go_wp2
  go_loopg [10] k (fun kq v10 w' => ∃ (x0_1 : List Int) (x10_1 : Int), v10 = .int .i64 x10_1 ∧ Aside0 (impl_put_int.l0 kq x0_1 a1 a3 a2 x10_1 = some r) ∧ Aside0 (kq ≤ k) ∧ Aside0 (Kd.R (Kd.int .u8) 5 w' w0.heap.size (fun k_ => (P0_ k_ ∨ w.heap.size ≤ k_)) u9000_ x0_1) ∧ Aside0 (Kept w w' (fun k_ => P0_ k_)) ∧ Aside0 (Below w0.heap.size w0 w'))
  case atStart => exact ⟨(l0), (0), (by first | rfl | (simp; done) | (simp [*]; done)), H', ⟨Nat.le_refl _⟩, ⟨by (with_reducible repeat (first | apply Kd.R_alloc | apply Kd.R_drewN | apply Kd.R_drew)); exact HO0.out⟩, ⟨by repeat (first | (with_reducible first | exact HK.out | apply Kept.alloc | apply Kept.drewN | apply Kept.drew) | exact HK.out)⟩, ⟨by repeat (first | (with_reducible first | exact HB.out | apply below_alloc | apply pw_below_drewN | apply below_drew1) | exact HB.out)⟩⟩
  case round =>
    clear H'
    try clear p2
    try clear c4
    obtain ⟨x0_1, x10_1, rfl, HA, HK1, HO_0, HK, HB⟩ := hrel
    cases gk with
    | zero => exact absurd HA.out (by simp [impl_put_int.l0])
    | succ k1 =>
      have H := HA.out
      clear HA
      simp only [impl_put_int.l0] at H
      by_cases c5 : x10_1 < a2
      · rw [if_pos c5] at H
        have c5b0 : decide (x10_1 < a2) = true := decide_eq_true c5
        clear c5
        obtain ⟨ji6, hji6⟩ : ∃ j_ : Int, (wrap64 (8 * x10_1)) = j_ := ⟨_, rfl⟩
        replace H : (if 0 ≤ (ji6) then (if 0 ≤ (wrap64 (a1 + x10_1)) then (if (wrap64 (a1 + x10_1)) < (x0_1.length : Int) then (impl_put_int.l0 k1 (x0_1.set ((wrap64 (a1 + x10_1)) : Int).toNat ((shr .u64 (IntKind.u64.wrap (a3)) (ji6)) % 256)) a1 a3 a2 (wrap64 (x10_1 + 1))) else (none)) else (none)) else (none)) = some r := by first | (rw [hji6] at H; exact H) | (simp only [hji6] at H ⊢; exact H)
        have hji6w : (IntKind.i64.wrap (8 * x10_1)) = ji6 := (i64_w _).trans hji6
        by_cases c7 : 0 ≤ (ji6)
        · rw [if_pos c7] at H
          have c7b0 := eq_true c7
          have c7b1 : decide (0 ≤ (ji6)) = true := decide_eq_true c7
          clear c7
          obtain ⟨ji8, hji8⟩ : ∃ j_ : Int, (shr .u64 (IntKind.u64.wrap (a3)) (ji6)) = j_ := ⟨_, rfl⟩
          replace H : (if 0 ≤ (wrap64 (a1 + x10_1)) then (if (wrap64 (a1 + x10_1)) < (x0_1.length : Int) then (impl_put_int.l0 k1 (x0_1.set ((wrap64 (a1 + x10_1)) : Int).toNat ((ji8) % 256)) a1 a3 a2 (wrap64 (x10_1 + 1))) else (none)) else (none)) = some r := by first | (rw [hji8] at H; exact H) | (simp only [hji8] at H ⊢; exact H)
          have hji8_ : ((IntKind.u64.wrap (a3)) / 2 ^ min (ji6).toNat 64) = ji8 := hji8
          have hji8z : (ji6) ≤ 64 → ((IntKind.u64.wrap (a3)) / 2 ^ (ji6).toNat) = ji8 := shr_small hji8
          obtain ⟨ji9, hji9⟩ : ∃ j_ : Int, (wrap64 (a1 + x10_1)) = j_ := ⟨_, rfl⟩
          replace H : (if 0 ≤ (ji9) then (if (ji9) < (x0_1.length : Int) then (impl_put_int.l0 k1 (x0_1.set ((ji9) : Int).toNat ((ji8) % 256)) a1 a3 a2 (wrap64 (x10_1 + 1))) else (none)) else (none)) = some r := by first | (rw [hji9] at H; exact H) | (simp only [hji9] at H ⊢; exact H)
          have hji9w : (IntKind.i64.wrap (a1 + x10_1)) = ji9 := (i64_w _).trans hji9
          by_cases c10 : 0 ≤ (ji9)
          · rw [if_pos c10] at H
            have c10b0 : decide (0 ≤ (ji9)) = true := decide_eq_true c10
            clear c10
            by_cases c11 : (ji9) < (x0_1.length : Int)
            · rw [if_pos c11] at H
              have c11b0 : decide ((ji9) < (x0_1.length : Int)) = true := decide_eq_true c11
              clear c11
              obtain ⟨y143, hy143⟩ : ∃ y_ : List Int, y_ = (x0_1.set ((ji9) : Int).toNat ((ji8) % 256)) := ⟨_, rfl⟩
              replace H : (impl_put_int.l0 k1 y143 a1 a3 a2 (wrap64 (x10_1 + 1))) = some r := by first | (rw [hy143]; with_reducible exact H) | (have H2_ := (Option.bind_some _ _).symm.trans H; rw [hy143]; with_reducible exact H2_) | (have H2_ := (Option.bind_some _ _).symm.trans H; with_reducible exact H2_) | with_reducible exact H | (rw [hy143]; exact H) | exact H
              have Ny143 := Aside0.mk hy143
              clear hy143
              have H' := Aside0.mk H
              clear H
              have p12 : 0 ≤ ((ji9) : Int) := of_decide_eq_true (by first | (with_reducible assumption) | assumption)
              have q12 : ((ji9) : Int) < ((x0_1.length : Int) : Int) := of_decide_eq_true (by first | (with_reducible assumption) | assumption)
              obtain ⟨go12, co12, eo12, gb12, gl12, cl12, HG12⟩ := Kd.R_form HO_0.out (by omega)
              (first | cases eo12 | (injection eo12 with ea_ en_ ec_; (first | subst ea_ | (injection ea_ with ea_; subst ea_)); subst ec_; clear en_))
              have GB12 := Aside0.mk gb12
              have GG12 := Aside0.mk HG12
              clear gb12 gl12 HG12
              have HMgo12 := Aside0.mk (show (P0_ go12 ∨ w.heap.size ≤ go12) from (HO_0.out.1 _ rfl))
              obtain ⟨hx12_0, hf12_0⟩ := Kd.R_celln 0 HO_0.out ((ji9) : Int) p12 q12
              replace p12 := eq_true p12
              replace q12 := eq_true q12
              have HP13 := Kd.R_putg HO_0.out ((ji9) : Int) ((ji8) % 256)
              go_wp2_with (first | ((with_reducible refine gate_store (t := 5) (p := 23) rfl ?_); refine store_event (t := 5) (p := 23) (v := ?vo_w14) (w1 := (wr.setCell ⟨go12, ((ji9) : Int).toNat, none⟩ (.int .u8 ((ji8) % 256)))) ?hg ?ho ?hn ?hr ?_; (case ho => rfl); (case hg => rfl); (case hn => rfl); (case hr => first | (go_simp; done) | (go_simp; rfl)); intro w14 hw; have hg : wr.grownBy w14 (some go12) := (by rw [hw]; exact HP13.2); have hp_ : Kd.R (Kd.int .u8) 5 w14 w0.heap.size (fun k_ => (P0_ k_ ∨ w.heap.size ≤ k_)) (.slice (some ⟨go12, 0, none⟩) x0_1.length co12) y143 := (by rw [hw, Ny143.out]; exact HP13.1); clear HP13; have n0_ := Aside0.mk (hp_); have n1_ := Aside0.mk ((by rw [hw]; exact below_set (HB.out) GB12.out : Below w0.heap.size w0 w14)); have n2_ := Aside0.mk (Kept.of_grown (S := (fun k_ => P0_ k_)) hg (by repeat (first | (with_reducible first | exact HK.out | apply Kept.alloc | apply Kept.drewN | apply Kept.drew) | exact HK.out)) (fun k_ e_ => (HO_0.out.1 k_ e_))); clear HO_0; clear HB; clear HK; have HO_0 := n0_; have HB := n1_; have HK := n2_; clear n0_ n1_ n2_; clear hg hw hp_))
              go_roundg k1
              case measure => have := HK1.out; omega
              case rel => exact ⟨(y143), (wrap64 (x10_1 + 1)), (by first | rfl | (simp; done) | (simp [*]; done)), H', ⟨by have := HK1.out; omega⟩, ⟨by (with_reducible repeat (first | apply Kd.R_alloc | apply Kd.R_drewN | apply Kd.R_drew)); exact HO_0.out⟩, ⟨by repeat (first | (with_reducible first | exact HK.out | apply Kept.alloc | apply Kept.drewN | apply Kept.drew) | exact HK.out)⟩, ⟨by repeat (first | (with_reducible first | exact HB.out | apply below_alloc | apply pw_below_drewN | apply below_drew1) | exact HB.out)⟩⟩
            · rw [if_neg c11] at H
              exact absurd H (by simp)
          · rw [if_neg c10] at H
            exact absurd H (by simp)
        · rw [if_neg c7] at H
          exact absurd H (by simp)
      · rw [if_neg c5] at H
        have c5b0 : decide (x10_1 < a2) = false := decide_eq_false c5
        clear c5
        obtain rfl := Option.some.inj H
        go_wp2
        first | go_end0 | ((try simp only [Exit.inBlock, Exit.then]); refine bodyPost_ret (results_none rfl _ _ _) rfl ?_)
        exact ⟨by first | rfl | (simp [errW_none, errW_some] <;> rfl) | (simp [*, errW_none, errW_some] <;> rfl), by (with_reducible repeat (first | apply Kd.R_alloc | apply Kd.R_drewN | apply Kd.R_drew)); exact HO_0.out, by repeat (first | (with_reducible first | exact HB.out | apply below_alloc | apply pw_below_drewN | apply below_drew1) | exact HB.out), by repeat (first | (with_reducible first | exact HK.out | apply Kept.alloc | apply Kept.drewN | apply Kept.drew) | exact HK.out)⟩

open Go.Proofs.YtkghgjehjchajaaDoorW Go.Proofs.YtkghgjehjchajaaDoorW.PrintHand Go.Proofs.YtkghgjehjchajaaDoorW.PrintHx
/-! ### impl_Root_pointers: function 80 -/
def impl_Root_pointers.f (a0 : List Int) : Option (List Int) := if a0.length = 15 then some (seg a0 1 14) else none
def impl_Root_pointers.T1 : Bool × List (List Nat × List Nat) := (true, [([], []), ([], []), ([1], [1]), ([0, 2], [0, 2]), ([], []), ([4], [4]), ([], []), ([6], [6]), ([5, 7], [5, 7]), ([3, 8, 3], [3, 8]), ([9, 9, 0, 1, 2, 3, 4, 5, 6, 7, 8, 9], [9])])
def impl_Root_pointers.B1 : List Nat := [0, 0, 2, 7, 0, 16, 0, 64, 240, 511, 1023]
theorem impl_Root_pointers.tab1 : rtab .any (opsOf Tryd.f80 1) = impl_Root_pointers.T1 := by kernel_rfl
theorem impl_Root_pointers.bits1 : waitsOk impl_Root_pointers.T1.2 impl_Root_pointers.B1 = true := by kernel_rfl
set_option maxHeartbeats 8000000 in
set_option maxRecDepth 100000 in
theorem impl_Root_pointers.calls (a0 : List Int) (n0 : a0.length = 15) (r : List Int) (w : World) (h : impl_Root_pointers.f a0 = some r) :
    Calls Tryd.prog 80 #[.agg (nums .i64 a0).toArray] w fun e w' => ∃ v0_ : Value, e = .returned (v0_) ∧ Kd.R (Kd.int .i64) 3 w' w.heap.size (fun _ => True) v0_ r ∧ Below w.heap.size w w' := by
  unfold impl_Root_pointers.f at h
  rw [if_pos n0] at h
  obtain rfl := Option.some.inj h
  have N_ := Aside0.mk n0
  clear n0 h
  have info3_ : (Tryd.prog.info? 3).map (fun i => (i.zero, i.size, i.bytes)) = some (some (.int .i64 0), 1, 8) := by kernel_rfl
  have hu22 := Tryd.underlying22
  have HB0 : Aside0 (Below w.heap.size w w) := ⟨Below.refl _ _⟩
  obtain ⟨s0, Sz0⟩ : ∃ s0, Aside0 (w.heap.size = s0) := ⟨_, ⟨rfl⟩⟩
  have hw0 : w.heap.size ≤ s0 := Nat.le_of_eq Sz0.out
  have hw1 : s0 ≤ w.heap.size := Nat.le_of_eq Sz0.out.symm
  go_enter Tryd.func80, Tryd.ntmps80
  go_wp2_with (first | ((with_reducible refine gate_dst (N := 1) rfl ?_); refine hx_box rfl 1 rfl 31 (.tmp 0) rfl Sz0 (.agg (nums .i64 a0).toArray) (nums .i64 a0).toArray rfl rfl ?_; intro w1 s1 L1 Sz1 b1 g_; have H0 := Aside0.mk g_; have HB1 := Aside0.mk (below_then HB0.out HB0.out.size b1); clear g_ HB0 b1))
  have HB := HB1
  have FV := HB1
  refine start_ (n := 11) (S := fun w' => True) (ds := []) #[false, false, false, false, false, false, false, false, false, false, false] (by kernel_rfl) rfl rfl trivial (fun hHeld => ?_)
  refine with_tabW impl_Root_pointers.tab1 impl_Root_pointers.bits1 (fun HT_ HW_ => ?_)
  refine pure_ (i := 1) (N := some 4) (v := ?_) (a' := ?_) #[false, true, false, false, false, false, false, false, false, false, false] rfl rfl (any_of HT_.out (by kernel_rfl)) (fun _ _ _ h => h) (Or.inl ⟨by rfl, ?_⟩) ?_ ?_
  rotate_left
  · intro w'
    go_simp
    with_reducible rfl
  rotate_left
  · simp only [Act.put, List.setIfInBounds_toArray, List.set_cons_zero, List.set_cons_succ, i64_w, i32_w]
    rfl
  refine pure_ (i := 2) (N := some 5) (v := ?_) (a' := ?_) #[false, true, true, false, false, false, false, false, false, false, false] rfl rfl (any_of HT_.out (by kernel_rfl)) (fun _ _ _ h => h) (Or.inl ⟨by rfl, ?_⟩) ?_ ?_
  rotate_left
  · intro w'
    go_simp
    with_reducible rfl
  rotate_left
  · simp only [Act.put, List.setIfInBounds_toArray, List.set_cons_zero, List.set_cons_succ, i64_w, i32_w]
    rfl
  refine pure_ (i := 4) (N := some 7) (v := ?_) (a' := ?_) #[false, true, true, false, true, false, false, false, false, false, false] rfl rfl (any_of HT_.out (by kernel_rfl)) (fun _ _ _ h => h) (Or.inl ⟨by rfl, ?_⟩) ?_ ?_
  rotate_left
  · intro w'
    go_simp
    with_reducible rfl
  rotate_left
  · simp only [Act.put, List.setIfInBounds_toArray, List.set_cons_zero, List.set_cons_succ, i64_w, i32_w]
    rfl
  refine pure_ (i := 6) (N := some 9) (v := ?_) (a' := ?_) #[false, true, true, false, true, false, true, false, false, false, false] rfl rfl (any_of HT_.out (by kernel_rfl)) (fun _ _ _ h => h) (Or.inl ⟨by rfl, ?_⟩) ?_ ?_
  rotate_left
  · intro w'
    go_simp
    with_reducible rfl
  rotate_left
  · simp only [Act.put, List.setIfInBounds_toArray, List.set_cons_zero, List.set_cons_succ, i64_w, i32_w]
    rfl
  refine inv_at [0, 3, 5, 7, 8, 9, 10] (fun a0_ b a w' => ∃ (v0 : Value) (v3 : Value) (v8 : Value) (v9 : Value) (m10_ : Value), a = putSel a0_ b [(0, 3, v0), (3, 6, v3), (5, 8, .int .i64 (a0.getD 13 0)), (7, 10, .int .i64 (a0.getD 14 0)), (8, 11, v8), (9, 12, v9), (10, 2, m10_)] ∧ (Below w.heap.size w w') ∧ (w'.heap[s0]? = some (.cells (nums .i64 a0).toArray 31 (0, 0))) ∧ (∀ k, (v0 : Value).ownBlock = some k → k < w'.heap.size) ∧ (b 0 = true → b 3 = false → Kd.R (Kd.int .i64) 3 w' w.heap.size (fun k => k ≠ s0) v0 []) ∧ (b 3 = true → b 9 = false → Kd.R (Kd.int .i64) 3 w' w.heap.size (fun k => k ≠ s0) v3 ([] ++ seg a0 1 12)) ∧ (b 8 = true → b 9 = false → Kd.R (Kd.int .i64) 3 w' w.heap.size (fun k => k ≠ s0 ∧ some k ≠ (v0 : Value).ownBlock) v8 [a0.getD 13 0, a0.getD 14 0]) ∧ (b 9 = true → Kd.R (Kd.int .i64) 3 w' w.heap.size (fun k => k ≠ s0) v9 (([] ++ seg a0 1 12) ++ [a0.getD 13 0, a0.getD 14 0])) ∧ (b 10 = true → (m10_ : Value) = v9)) HT_.out HW_.out (by kernel_rfl) (by kernel_rfl) ?_ ?_ ?_
  · exact ⟨.bool false, .bool false, .bool false, .bool false, .bool false, by simp only [putSel, Bool.false_eq_true, if_false], HB1.out.drew, blk_drew H0.out, fun k h_ => by simp [Value.ownBlock] at h_, fun h_ => absurd h_ (by decide), fun h_ => absurd h_ (by decide), fun h_ => absurd h_ (by decide), fun h_ => absurd h_ (by decide), fun h_ => absurd h_ (by decide)⟩
  · skip
    clear FV H0 HB
    refine steps_cons ?_ ?_
    · rintro b a w' ⟨v0, v3, v8, v9, m10_, ha, Q_HB, Q_H0, Q_FV, Q_F0, Q_F3, Q_F8, Q_F9, Q_X10_⟩ hb_ hon hoff
      refine ⟨_, rfl, fun K hK => ?_⟩
      replace ha := Aside0.mk ha
      have HB := Aside0.mk Q_HB
      have H0 := Aside0.mk Q_H0
      have FV := Aside0.mk Q_FV
      refine Kd.R_lit_step (Kd.int .i64) (w0 := w) w.heap.size 3 (by rfl) (N := 3) rfl (xs := ([] : List Int)) (inner := []) (ok := fun k => k ≠ s0) (okp := fun _ => False) ?hr (Reps.none _ _) (fun _ h_ => h_.elim) (by have := blk_lt H0.out; omega) HB.out HB.out.size (by simp) ?_
      (case hr => first | (go_simp; done) | (go_simp; rfl))
      intro v_ w_ ho hb hg_ hn_
      refine hK.out _ _ ⟨v_, v3, v8, v9, m10_, (by rw [ha.out]; exact putSel_upk 0 hb_ rfl rfl rfl), hb, blk_grown H0.out hg_ (by simp), Kd.R_lt ho, fun _ _ => ho, fun h0_ _ => absurd ((hoff 3 (by kernel_rfl)).symm.trans h0_) (by decide), fun h0_ h1_ => Kd.R_mono (Kd.R_grown (Kd.R_bound (Q_F8 h0_ h1_)) hg_ (fun _ _ => by simp)) (fun k hk => ⟨hk.1.1, fun e_ => by obtain ⟨b_, h1_, h2_⟩ := hn_; rw [h1_] at e_; injection e_ with e_; have := hk.2.2.1; omega⟩), fun h0_ => absurd ((hoff 9 (by kernel_rfl)).symm.trans h0_) (by decide), fun h0_ => absurd ((hoff 10 (by kernel_rfl)).symm.trans h0_) (by decide)⟩
    refine steps_cons ?_ ?_
    · rintro b a w' ⟨v0, v3, v8, v9, m10_, ha, Q_HB, Q_H0, Q_FV, Q_F0, Q_F3, Q_F8, Q_F9, Q_X10_⟩ hb_ hon hoff
      refine ⟨_, rfl, fun K hK => ?_⟩
      have e3 : a.tmps[3]? = some (v0) := by rw [ha]; exact putSel_on (e := (0, 3, v0)) 0 rfl rfl (hon 0 (by kernel_rfl)) rfl
      have e5 : a.tmps[5]? = some (.slice (some ⟨s0, 1, none⟩) 12 12) := by rw [ha]; exact (putSel_off rfl).trans rfl
      replace ha := Aside0.mk ha
      have HB := Aside0.mk Q_HB
      have H0 := Aside0.mk Q_H0
      have FV := Aside0.mk Q_FV
      have F0 := Aside0.mk (Q_F0 (hon 0 (by kernel_rfl)) hb_)
      refine Kd.R_append_rows_step (Kd.int .i64) (w0 := w) w.heap.size (by rfl) (.tmp 3) (.tmp 5) 122 3 (.int .i64 0) 8 rfl Tryd.underlying122 info3_ rfl (by decide) (by omega) v0 [] (seg a0 1 12) (some ⟨s0, 1, none⟩) 12 12 (fun k => k ≠ s0) (fun _ => False) (eval_of e3) (eval_of e5) F0.out (part_reads H0.out 1 12 (le_len (n := 15) N_.out (by decide)) (by decide)) (fun _ _ h => h) (fun _ h => h.elim) (fun k hk => by have := blk_lt H0.out; omega) HB.out HB.out.size (by decide) ?_
      intro v_ w_ ho hb hg_ hn_
      refine hK.out _ _ ⟨v0, v_, v8, v9, m10_, (by rw [ha.out]; exact putSel_upk 1 hb_ rfl rfl rfl), hb, blk_grown H0.out hg_ (fun e_ => (F0.out.1 s0 e_.symm) rfl), fun k hk => Nat.lt_of_lt_of_le (FV.out k hk) hg_.size, fun _ h1_ => absurd ((up_self b 3).symm.trans h1_) (by decide), fun _ _ => ho, fun h0_ h1_ => Kd.R_grown (Q_F8 h0_ h1_) hg_ (fun k hk => hk.2), fun h0_ => absurd ((hoff 9 (by kernel_rfl)).symm.trans h0_) (by decide), fun h0_ => absurd ((hoff 10 (by kernel_rfl)).symm.trans h0_) (by decide)⟩
    refine steps_cons ?_ ?_
    · rintro b a w' ⟨v0, v3, v8, v9, m10_, ha, Q_HB, Q_H0, Q_FV, Q_F0, Q_F3, Q_F8, Q_F9, Q_X10_⟩ hb_ hon hoff
      refine ⟨_, rfl, fun K hK => ?_⟩
      have e7 : a.tmps[7]? = some (.pointer (some ⟨s0, 13, none⟩)) := by rw [ha]; exact (putSel_off rfl).trans rfl
      replace ha := Aside0.mk ha
      have HB := Aside0.mk Q_HB
      have H0 := Aside0.mk Q_H0
      have FV := Aside0.mk Q_FV
      have c_ := row_cell H0.out 13 (lt_len (n := 15) N_.out (by decide))
      refine value_ (w1 := w') (v := .int .i64 (a0.getD 13 0)) (by rfl) rfl ?_ ?_
      · go_simp
        (try simp only [i64_w])
        try rfl
      refine hK.out _ _ ⟨v0, v3, v8, v9, m10_, (by rw [ha.out]; exact putSel_upk 2 hb_ rfl rfl rfl), Q_HB, Q_H0, Q_FV, Q_F0, Q_F3, fun h0_ _ => absurd ((hoff 8 (by kernel_rfl)).symm.trans h0_) (by decide), fun h0_ => absurd ((hoff 9 (by kernel_rfl)).symm.trans h0_) (by decide), fun h0_ => absurd ((hoff 10 (by kernel_rfl)).symm.trans h0_) (by decide)⟩
    refine steps_cons ?_ ?_
    · rintro b a w' ⟨v0, v3, v8, v9, m10_, ha, Q_HB, Q_H0, Q_FV, Q_F0, Q_F3, Q_F8, Q_F9, Q_X10_⟩ hb_ hon hoff
      refine ⟨_, rfl, fun K hK => ?_⟩
      have e9 : a.tmps[9]? = some (.pointer (some ⟨s0, 14, none⟩)) := by rw [ha]; exact (putSel_off rfl).trans rfl
      replace ha := Aside0.mk ha
      have HB := Aside0.mk Q_HB
      have H0 := Aside0.mk Q_H0
      have FV := Aside0.mk Q_FV
      have c_ := row_cell H0.out 14 (lt_len (n := 15) N_.out (by decide))
      refine value_ (w1 := w') (v := .int .i64 (a0.getD 14 0)) (by rfl) rfl ?_ ?_
      · go_simp
        (try simp only [i64_w])
        try rfl
      refine hK.out _ _ ⟨v0, v3, v8, v9, m10_, (by rw [ha.out]; exact putSel_upk 3 hb_ rfl rfl rfl), Q_HB, Q_H0, Q_FV, Q_F0, Q_F3, fun h0_ _ => absurd ((hoff 8 (by kernel_rfl)).symm.trans h0_) (by decide), fun h0_ => absurd ((hoff 9 (by kernel_rfl)).symm.trans h0_) (by decide), fun h0_ => absurd ((hoff 10 (by kernel_rfl)).symm.trans h0_) (by decide)⟩
    refine steps_cons ?_ ?_
    · rintro b a w' ⟨v0, v3, v8, v9, m10_, ha, Q_HB, Q_H0, Q_FV, Q_F0, Q_F3, Q_F8, Q_F9, Q_X10_⟩ hb_ hon hoff
      refine ⟨_, rfl, fun K hK => ?_⟩
      have e8 : a.tmps[8]? = some (.int .i64 (a0.getD 13 0)) := by rw [ha]; exact putSel_on (e := (5, 8, .int .i64 (a0.getD 13 0))) 2 rfl rfl (hon 5 (by kernel_rfl)) rfl
      have e10 : a.tmps[10]? = some (.int .i64 (a0.getD 14 0)) := by rw [ha]; exact putSel_on (e := (7, 10, .int .i64 (a0.getD 14 0))) 3 rfl rfl (hon 7 (by kernel_rfl)) rfl
      replace ha := Aside0.mk ha
      have HB := Aside0.mk Q_HB
      have H0 := Aside0.mk Q_H0
      have FV := Aside0.mk Q_FV
      refine Kd.R_lit_step (Kd.int .i64) (w0 := w) w.heap.size 3 (by rfl) (N := 11) rfl (xs := ([a0.getD 13 0, a0.getD 14 0] : List Int)) (inner := (nums .i64 [a0.getD 13 0, a0.getD 14 0])) (ok := fun k => k ≠ s0 ∧ some k ≠ (v0 : Value).ownBlock) (okp := fun _ => False) ?hr (reps_ints _) (fun _ h_ => h_.elim) ⟨by have := blk_lt H0.out; omega, fun e_ => Nat.lt_irrefl _ (FV.out _ e_.symm)⟩ HB.out HB.out.size (by simp) ?_
      (case hr => first | (go_simp; done) | (go_simp; rfl))
      intro v_ w_ ho hb hg_ hn_
      refine hK.out _ _ ⟨v0, v3, v_, v9, m10_, (by rw [ha.out]; exact putSel_upk 4 hb_ rfl rfl rfl), hb, blk_grown H0.out hg_ (by simp), fun k hk => Nat.lt_of_lt_of_le (FV.out k hk) hg_.size, fun h0_ h1_ => Kd.R_grown (Q_F0 h0_ h1_) hg_ (fun _ _ => by simp), fun h0_ h1_ => Kd.R_grown (Q_F3 h0_ h1_) hg_ (fun _ _ => by simp), fun _ _ => ho, fun h0_ => absurd ((hoff 9 (by kernel_rfl)).symm.trans h0_) (by decide), fun h0_ => absurd ((hoff 10 (by kernel_rfl)).symm.trans h0_) (by decide)⟩
    refine steps_cons ?_ ?_
    · rintro b a w' ⟨v0, v3, v8, v9, m10_, ha, Q_HB, Q_H0, Q_FV, Q_F0, Q_F3, Q_F8, Q_F9, Q_X10_⟩ hb_ hon hoff
      refine ⟨_, rfl, fun K hK => ?_⟩
      have e6 : a.tmps[6]? = some (v3) := by rw [ha]; exact putSel_on (e := (3, 6, v3)) 1 rfl rfl (hon 3 (by kernel_rfl)) rfl
      have e11 : a.tmps[11]? = some (v8) := by rw [ha]; exact putSel_on (e := (8, 11, v8)) 4 rfl rfl (hon 8 (by kernel_rfl)) rfl
      replace ha := Aside0.mk ha
      have HB := Aside0.mk Q_HB
      have H0 := Aside0.mk Q_H0
      have FV := Aside0.mk Q_FV
      have F3 := Aside0.mk (Q_F3 (hon 3 (by kernel_rfl)) hb_)
      have F8 := Aside0.mk (Q_F8 (hon 8 (by kernel_rfl)) hb_)
      obtain ⟨A8_, c8_, q8_⟩ := Kd.R_slice F8.out
      have F8' := F8.out
      rw [q8_] at F8'
      refine Kd.R_append_rows_step (Kd.int .i64) (w0 := w) w.heap.size (by rfl) (.tmp 6) (.tmp 11) 122 3 (.int .i64 0) 8 rfl Tryd.underlying122 info3_ rfl (by decide) (by omega) v3 ([] ++ seg a0 1 12) [a0.getD 13 0, a0.getD 14 0] _ _ _ (fun k => k ≠ s0) (fun _ => False) (eval_of e6) ((eval_of e11).trans q8_) F3.out (Kd.R_reads' F8').2.2 (fun _ _ h => h) (fun _ h => h.elim) (fun k hk => by have := blk_lt H0.out; omega) HB.out HB.out.size (by rw [List.nil_append, part_len (n := 15) N_.out (by decide)]; show (12 + 2) * 8 ≤ 140737488355328; decide) ?_
      intro v_ w_ ho hb hg_ hn_
      refine hK.out _ _ ⟨v0, v3, v8, v_, m10_, (by rw [ha.out]; exact putSel_upk 5 hb_ rfl rfl rfl), hb, blk_grown H0.out hg_ (fun e_ => (F3.out.1 s0 e_.symm) rfl), fun k hk => Nat.lt_of_lt_of_le (FV.out k hk) hg_.size, fun _ h1_ => absurd ((hon 3 (by kernel_rfl)).symm.trans h1_) (by decide), fun _ h1_ => absurd ((up_self b 9).symm.trans h1_) (by decide), fun _ h1_ => absurd ((up_self b 9).symm.trans h1_) (by decide), fun _ => ho, fun h0_ => absurd ((hoff 10 (by kernel_rfl)).symm.trans h0_) (by decide)⟩
    refine steps_cons ?_ ?_
    · rintro b a w' ⟨v0, v3, v8, v9, m10_, ha, Q_HB, Q_H0, Q_FV, Q_F0, Q_F3, Q_F8, Q_F9, Q_X10_⟩ hb_ hon hoff
      refine ⟨_, rfl, fun K hK => ?_⟩
      have e12 : a.tmps[12]? = some (v9) := by rw [ha]; exact putSel_on (e := (9, 12, v9)) 5 rfl rfl (hon 9 (by kernel_rfl)) rfl
      replace ha := Aside0.mk ha
      have HB := Aside0.mk Q_HB
      have H0 := Aside0.mk Q_H0
      have FV := Aside0.mk Q_FV
      have F9 := Aside0.mk (Q_F9 (hon 9 (by kernel_rfl)))
      refine value_ (w1 := w') (v := v9) (by rfl) rfl ?_ ?_
      · go_simp
        (try simp only [i64_w])
        try rfl
      refine hK.out _ _ ⟨v0, v3, v8, v9, (v9), (by rw [ha.out]; exact putSel_upk 6 hb_ rfl rfl rfl), Q_HB, Q_H0, Q_FV, fun _ h1_ => absurd ((hon 3 (by kernel_rfl)).symm.trans h1_) (by decide), fun _ h1_ => absurd ((hon 9 (by kernel_rfl)).symm.trans h1_) (by decide), fun _ h1_ => absurd ((hon 9 (by kernel_rfl)).symm.trans h1_) (by decide), Q_F9, fun _ => rfl⟩
    exact steps_nil
  · rintro b a w' hall ⟨v0, v3, v8, v9, m10_, ha, Q_HB, Q_H0, Q_FV, Q_F0, Q_F3, Q_F8, Q_F9, Q_X10_⟩
    clear FV H0 HB
    have hb0_ := hall 0 (by kernel_rfl)
    have hb3_ := hall 3 (by kernel_rfl)
    have hb5_ := hall 5 (by kernel_rfl)
    have hb7_ := hall 7 (by kernel_rfl)
    have hb8_ := hall 8 (by kernel_rfl)
    have hb9_ := hall 9 (by kernel_rfl)
    have hb10_ := hall 10 (by kernel_rfl)
    subst ha
    obtain rfl := Q_X10_ hb10_
    simp only [putSel, hb0_, hb3_, hb5_, hb7_, hb8_, hb9_, hb10_, if_true, Act.put, List.setIfInBounds_toArray, List.set_cons_zero, List.set_cons_succ]
    have HB := Aside0.mk Q_HB
    clear Q_HB
    have H0 := Aside0.mk Q_H0
    clear Q_H0
    have FV := Aside0.mk Q_FV
    clear Q_FV
    clear Q_F0
    clear Q_F3
    clear Q_F8
    have F9 := Aside0.mk (Q_F9 hb9_)
    clear Q_F9
    clear hall hb0_ hb3_ hb5_ hb7_ hb8_ hb9_ hb10_
    go_wp2
    go_ret
    have ho := F9.out
    rw [pointers_of a0 N_.out] at ho
    exact ⟨_, rfl, Kd.R_mono ho (fun _ _ => trivial), HB.out⟩

open Go.Proofs.YtkghgjehjchajaaDoorW Go.Proofs.YtkghgjehjchajaaDoorW.PrintHand Go.Proofs.YtkghgjehjchajaaDoorW.PrintHx
/-! ### impl_Root_put: function 49 -/
open Go.Proofs.YtkghgjehjchajaaDoorW.PrintLe
theorem put_l0 (v : Int) (at_ size : Nat) (h0 : 0 ≤ v) (h1 : v ≤ 9223372036854775807) (h8 : size ≤ 8) : ∀ (d i k : Nat) (x0 : List Int), i + d = size → d < k → at_ + size ≤ x0.length → x0.length ≤ 1048576 → impl_put_int.l0 k x0 (at_ : Int) v (size : Int) (i : Int) = some (x0.take (at_ + i) ++ leB (v / 256 ^ i) d ++ x0.drop (at_ + size))
  | 0, i, k, x0, e1, e2, e3, e4 => by
    obtain ⟨k, rfl⟩ := sucK e2
    simp only [impl_put_int.l0]
    rw [if_neg (by omega), show at_ + i = at_ + size by omega]
    simp [leB]
  | d + 1, i, k, x0, e1, e2, e3, e4 => by
    obtain ⟨k, rfl⟩ := sucK e2
    simp only [impl_put_int.l0]
    have hw : wrap64 ((at_ : Int) + (i : Int)) = ((at_ + i : Nat) : Int) := by unfold wrap64; omega
    have h8i : wrap64 (8 * (i : Int)) = ((8 * i : Nat) : Int) := by unfold wrap64; omega
    rw [hw, h8i, if_pos (by omega), if_pos (by omega), if_pos (by omega), if_pos (by omega), w64n (by omega), put_l0 v at_ size h0 h1 h8 d (i + 1) k _ (by omega) (by omega) (by simpa using e3) (by simpa using e4)]
    have hv : (shr .u64 (IntKind.u64.wrap v) ((8 * i : Nat) : Int)) % 256 = v / 256 ^ i % 256 := by
      rw [wraps_u64 _ h0 (by omega)]
      unfold shr
      rw [Int.toNat_natCast, Nat.min_eq_left (by simp [IntKind.bits]; omega), Int.pow_mul, show (2 : Int) ^ 8 = 256 by decide]
    rw [hv, Int.toNat_natCast]
    congr 1
    have hlt : at_ + i < x0.length := by omega
    rw [show at_ + (i + 1) = (at_ + i) + 1 by omega, List.take_succ_eq_append_getElem (by simpa using hlt), List.getElem_set_self, List.take_set_of_le (Nat.le_refl _), List.drop_set_of_lt (by omega), leB, Int.ediv_ediv_of_nonneg (by have := p256 i; omega), ← Int.pow_succ]
    simp
/-- put: a number's bytes at a place -/
theorem put_f (x0 : List Int) (at_ size : Nat) (v : Int) (h0 : 0 ≤ v) (h1 : v ≤ 9223372036854775807) (h8 : size ≤ 8) (hat : at_ + size ≤ x0.length) (hx : x0.length ≤ 1048576) (k : Nat) (hk : 8 < k) : impl_put_int.f k x0 (at_ : Int) (size : Int) v = some (x0.take at_ ++ leB v size ++ x0.drop (at_ + size)) := by
  unfold impl_put_int.f
  have h := put_l0 v at_ size h0 h1 h8 size 0 k x0 (by omega) (by omega) hat hx
  rw [Int.pow_zero, Int.ediv_one] at h
  exact h

def impl_Root_put.f (a0 l1 : List Int) : Option (List Int) := if rootGood a0 = true ∧ 64 ≤ l1.length ∧ l1.length ≤ 1048576 then some (rootBytes a0 ++ l1.drop 64) else none
theorem impl_Root_put.step (s : Int) (xs l1 : List Int) (j : Nat) (hx : xs.length = 14) (hj : j < 14) (hl : 64 ≤ l1.length) (p : Int) (hp : p = xs.getD j 0) :
    let ls := leB s 8 ++ flat4 (xs.take j) ++ l1.drop (8 + 4 * j)
    ls.take (8 + 4 * j) ++ leB p 4 ++ ls.drop (8 + 4 * j + 4) = leB s 8 ++ flat4 (xs.take (j + 1)) ++ l1.drop (8 + 4 * (j + 1)) := by
  intro ls
  have h1 : (leB s 8 ++ flat4 (xs.take j)).length = 8 + 4 * j := by rw [List.length_append, leB_length, flat4_length, List.length_take, hx, Nat.min_eq_left (by omega)]
  have e1 : ls.take (8 + 4 * j) = leB s 8 ++ flat4 (xs.take j) := by rw [← h1]; exact List.take_left
  have e2 : ls.drop (8 + 4 * j + 4) = l1.drop (8 + 4 * (j + 1)) := by
    show (leB s 8 ++ flat4 (xs.take j) ++ l1.drop (8 + 4 * j)).drop (8 + 4 * j + 4) = _
    rw [List.drop_append, h1, List.drop_eq_nil_of_le (by rw [h1]; omega), List.nil_append, List.drop_drop]
    congr 1
    omega
  rw [e1, e2, flat4_take xs j (by omega), hp, List.append_assoc (leB s 8)]
theorem impl_Root_put.len (s : Int) (xs l1 : List Int) (j : Nat) (hx : xs.length = 14) (hj : j < 14) (hl : 64 ≤ l1.length) : (leB s 8 ++ flat4 (xs.take j) ++ l1.drop (8 + 4 * j)).length = l1.length := by
  rw [List.length_append, List.length_append, leB_length, flat4_length, List.length_take, hx, Nat.min_eq_left (by omega), List.length_drop]
  omega
theorem impl_Root_put.at_ (j : Nat) (hj : j < 14) : wrap64 (8 + wrap64 (4 * (j : Int))) = ((8 + 4 * j : Nat) : Int) := by
  unfold wrap64
  omega
theorem below_then2 {B : Nat} {w w1 w2 : World} (h : Below B w w1) (hB : B ≤ w1.heap.size) (k : Below w1.heap.size w1 w2) : Below B w w2 := below_then h hB k
set_option maxHeartbeats 8000000 in
set_option maxRecDepth 100000 in
theorem impl_Root_put.calls (a0 : List Int) (n0 : a0.length = 15) (P0_ : Nat → Prop) (u9000_ : Value) (l1 : List Int) (r : List Int) (w0 w : World) (hB : Below w0.heap.size w0 w) (ho1 : Kd.R (Kd.int .u8) 5 w w0.heap.size P0_ u9000_ l1) (h : impl_Root_put.f a0 l1 = some r) :
    Calls Tryd.prog 49 #[.agg (nums .i64 a0).toArray, u9000_] w fun e w' => e = .returned (.tuple #[]) ∧ Kd.R (Kd.int .u8) 5 w' w0.heap.size P0_ u9000_ r ∧ Below w0.heap.size w0 w' ∧ Kept w w' (fun k_ => P0_ k_) := by
  unfold impl_Root_put.f at h
  by_cases hgood : rootGood a0 = true ∧ 64 ≤ l1.length ∧ l1.length ≤ 1048576
  case neg => rw [if_neg hgood] at h; cases h
  rw [if_pos hgood] at h
  obtain rfl := Option.some.inj h
  have N_ := Aside0.mk n0
  have HG := Aside0.mk hgood.1
  have HL := Aside0.mk hgood.2
  have hle := hB.size
  have HB0 := Aside0.mk hB
  obtain ⟨s0, Sz0⟩ : ∃ s0, Aside0 (w.heap.size = s0) := ⟨_, ⟨rfl⟩⟩
  have hs0 : s0 = w.heap.size := Sz0.out.symm
  have O0 := Aside0.mk (show Kd.R (Kd.int .u8) 5 w w0.heap.size (fun k => P0_ k ∧ k < s0) u9000_ l1 from Kd.R_mono (Kd.R_bound ho1) (fun k hk => ⟨hk.1, by rw [hs0]; exact hk.2.2.1⟩))
  have hlt0 : w0.heap.size ≤ s0 := by rw [hs0]; exact hle
  clear hs0
  have hu31 := Tryd.underlying31
  clear n0 h hgood ho1 hB
  obtain ⟨s, hs⟩ : ∃ s, s = a0.getD 0 0 := ⟨_, rfl⟩
  have hs1 : 0 ≤ s ∧ s ≤ 262144 := by rw [hs]; exact rootGood_size HG.out
  have HS := Aside0.mk hs
  have HP8 := Aside0.mk (show impl_put_int.f 20 l1 0 8 s = some (l1.take 0 ++ leB s 8 ++ l1.drop (0 + 8)) from put_f l1 0 8 s hs1.1 (by omega) (by decide) (by have := HL.out; omega) (by have := HL.out; omega) 20 (by decide))
  clear hs hs1
  obtain ⟨xs, hxs⟩ : ∃ xs, xs = seg a0 1 14 := ⟨_, rfl⟩
  have HP := Aside0.mk (show impl_Root_pointers.f a0 = some xs by rw [hxs]; exact if_pos N_.out)
  have HXL := Aside0.mk (show xs.length = 14 by rw [hxs]; exact part_len (n := 15) N_.out (by decide))
  have HXS := Aside0.mk hxs
  have HXR := Aside0.mk (show ∀ j, j < 14 → 0 ≤ xs.getD j 0 ∧ xs.getD j 0 < 2048 by rw [hxs]; exact fun j hj => rootGood_ptr HG.out j hj)
  clear hxs
  have hle0 : w0.heap.size ≤ s0 := hlt0
  go_enter Tryd.func49, Tryd.ntmps49
  go_wp2_with (first | ((with_reducible refine gate_dst (N := 2) rfl ?_); refine hx_box rfl 2 rfl 31 (.tmp 0) rfl Sz0 (.agg (nums .i64 a0).toArray) (nums .i64 a0).toArray rfl rfl ?_; intro w1 s1 L1 Sz1 b1 g_; have H1 := Aside0.mk g_; have HB1 := Aside0.mk (below_then2 HB0.out hle b1); have KP1 := Aside0.mk (Kept.of_below b1 P0_); have O1 := Aside0.mk (Kd.R_below O0.out b1); clear g_ b1 HB0 O0) | ((with_reducible refine gate_dst (N := 8) rfl ?_); refine hx_loadf rfl 3 (.tmp 7) rfl s0 0 rfl Tryd.underlying3 rfl H1.out (lt_len (n := 15) N_.out (by decide)) ?_; rw [← HS.out]) | ((with_reducible refine gate_dst (N := 9) rfl ?_); refine goesL_ (some 9) rfl rfl Tryd.func48 (by kernel_rfl) rfl #[u9000_, .int .i64 0, .int .i64 8, .int .i64 s] rfl (by (try simp only [List.map_toArray, List.map_cons, List.map_nil]); first | done | rfl) ?_; refine (impl_put_int.calls 20 (fun k => P0_ k ∧ k < s0) u9000_ l1 0 8 s _ w0 w1 HB1.out O1.out HP8.out).mono ?_; rintro e_ w2 ⟨rfl, R_, hb_, kp_⟩; refine ⟨_, rfl, ?_⟩; have O2 := own_same R_ O1.out rfl; have HB2 := Aside0.mk hb_; have KP2 := Aside0.mk (KP1.out.then_ kp_ (fun k hk => .inl hk.1)); have H2 := Aside0.mk (blk_kept H1.out kp_ (fun hk => by have := hk.2; omega)); obtain ⟨s2, L2, Sz2⟩ := size_letter Sz1 kp_; clear R_ hb_ kp_ O1 HB1 KP1 H1) | ((with_reducible refine gate_dst (N := 10) rfl ?_); refine hx_load rfl 31 (.tmp 2) rfl s0 15 rfl Tryd.underlying31 rfl (by kernel_rfl) H2.out (nums_size _ _ _ N_.out) ?_) | ((with_reducible refine gate_dst (N := 11) rfl ?_); refine goesL_ (some 11) rfl rfl Tryd.func80 (by kernel_rfl) rfl #[.agg (nums .i64 a0).toArray] rfl (by (try simp only [List.map_toArray, List.map_cons, List.map_nil]); first | done | rfl) ?_; refine (impl_Root_pointers.calls a0 N_.out xs _ HP.out).mono ?_; rintro e_ w3 ⟨v0_, rfl, R_, b_⟩; obtain ⟨A11, c11, rfl⟩ := Kd.R_slice R_; refine ⟨_, rfl, ?_⟩; obtain ⟨s3, L3, Sz3⟩ := size_letter Sz2 (kept_below b_); have OP := own_btw (B := w0.heap.size) R_ Sz2.out Sz3 (by have := Sz2.out; omega); have O3 := Aside0.mk (Kd.R_below O2.out b_); have HB3 := Aside0.mk (below_then2 HB2.out (by have := Sz2.out; omega) b_); have KP3 := Aside0.mk (KP2.out.below b_); clear R_ b_ O2 HB2 KP2 H2))
  (try simp only [Act.put, List.setIfInBounds_toArray, List.set_cons_succ, List.set_cons_zero])
  go_loopw [13] (fun v13 wr => ∃ j : Nat, v13 = .int .i64 (j : Int) ∧ Aside0 (j ≤ 14) ∧ Aside0 (Kd.R (Kd.int .u8) 5 wr w0.heap.size (fun k => P0_ k ∧ k < s0) u9000_ (leB s 8 ++ flat4 (xs.take j) ++ l1.drop (8 + 4 * j))) ∧ Aside0 (Kd.R (Kd.int .i64) 3 wr w0.heap.size (Btw s2 s3) (.slice A11 xs.length c11) xs) ∧ Aside0 (Below w0.heap.size w0 wr) ∧ Aside0 (Kept w wr P0_)) (fun v13 _ => 14 - (intOf v13).toNat)
  case atStart => exact ⟨0, rfl, ⟨by omega⟩, ⟨by have := O3.out; simpa [flat4] using this⟩, OP, HB3, KP3⟩
  case round =>
    clear O3 OP HB3 KP3
    obtain ⟨j, rfl, hj, OO0, OP, HB, KP⟩ := hrel
    by_cases c9 : j < 14
    · have c9b0 : decide ((j : Int) < (xs.length : Int)) = true := decide_eq_true (by rw [HXL.out]; omega)
      have c9b1 : decide (j < xs.length) = true := decide_eq_true (by rw [HXL.out]; omega)
      have p112 : 0 ≤ (j : Int) := by omega
      have q112 : (j : Int) < (xs.length : Int) := by rw [HXL.out]; omega
      obtain ⟨ad112, e112, hx112⟩ := Kd.at_int (Kd.R_reads' OP.out).2.2 (j : Int) p112 q112
      cases e112
      rw [Int.toNat_natCast] at hx112
      replace p112 := eq_true p112
      replace q112 := eq_true q112
      have q113 : (j < xs.length) = True := eq_true (by rw [HXL.out]; omega)
      obtain ⟨p, hp⟩ : ∃ p, p = rd xs (j : Int) := ⟨_, rfl⟩
      rw [← hp] at hx112
      have HPV := Aside0.mk (show p = xs.getD j 0 by rw [hp, rd, Int.toNat_natCast])
      have hpr : 0 ≤ p ∧ p < 2048 := by rw [HPV.out]; exact HXR.out j c9
      obtain ⟨ls, hls⟩ : ∃ ls, ls = leB s 8 ++ flat4 (xs.take j) ++ l1.drop (8 + 4 * j) := ⟨_, rfl⟩
      have hll : ls.length = l1.length := by rw [hls]; exact impl_Root_put.len s xs l1 j HXL.out c9 HL.out.1
      obtain ⟨at_, hat⟩ : ∃ a, a = wrap64 (8 + wrap64 (4 * (j : Int))) := ⟨_, rfl⟩
      have hat2 : at_ = ((8 + 4 * j : Nat) : Int) := by rw [hat]; exact impl_Root_put.at_ j c9
      have HP4 := Aside0.mk (show impl_put_int.f 20 ls at_ 4 p = some (ls.take (8 + 4 * j) ++ leB p 4 ++ ls.drop (8 + 4 * j + 4)) by rw [hat2]; exact put_f ls (8 + 4 * j) 4 p hpr.1 (Int.le_of_lt (Int.lt_trans hpr.2 (by decide))) (by decide) (by rw [hll]; have h1_ := HL.out.1; omega) (by rw [hll]; exact HL.out.2) 20 (by decide))
      have HAT := Aside0.mk hat
      have C9 := Aside0.mk c9
      have oo := OO0.out
      rw [← hls] at oo
      have OO := Aside0.mk oo
      have HLS := Aside0.mk hls
      clear hp c9 hpr hls oo OO0 hat hat2 hll
      go_wp2_with (first | ((with_reducible refine gate_dst (N := 23) rfl ?_); refine goesL_ (some 23) rfl rfl Tryd.func48 (by kernel_rfl) rfl #[u9000_, .int .i64 at_, .int .i64 4, .int .i64 p] rfl (by (try simp only [List.map_toArray, List.map_cons, List.map_nil]); first | done | rfl | (rw [HAT.out]; rfl)) ?_; refine (impl_put_int.calls 20 (fun k => P0_ k ∧ k < s0) u9000_ ls at_ 4 p _ w0 _ HB.out OO.out HP4.out).mono ?_; rintro e_ w4 ⟨rfl, R_, hb_, kp_⟩; refine ⟨_, rfl, ?_⟩; have OO4 := own_same R_ OO.out rfl; have HB4 := Aside0.mk hb_; have KP4 := Aside0.mk (KP.out.then_ kp_ (fun k hk => .inl hk.1)); have OP4 := Aside0.mk (Kd.R_kept OP.out kp_ (fun k hk hk2 => by have h1_ := hk.1; have h2_ := hk2.2; omega)); clear R_ hb_ kp_ OO HB KP OP))
      go_roundw
      case rel =>
        refine ⟨j + 1, by rw [show wrap64 ((j : Int) + 1) = ((j + 1 : Nat) : Int) by (have := C9.out; unfold wrap64; omega)], ⟨by have := C9.out; omega⟩, ⟨?_⟩, OP4, HB4, KP4⟩
        have ho := OO4.out
        have e_ := impl_Root_put.step s xs l1 j HXL.out C9.out HL.out.1 p HPV.out
        simp only [] at e_
        rw [← HLS.out] at e_
        rw [e_] at ho
        exact ho
      case measure =>
        rw [show wrap64 ((j : Int) + 1) = ((j + 1 : Nat) : Int) by (have := C9.out; unfold wrap64; omega)]
        simp only [intOf, Int.toNat_natCast]
        have := C9.out
        omega
    · obtain rfl : j = 14 := by have := hj.out; omega
      have c9b0 : decide ((14 : Int) < (xs.length : Int)) = false := decide_eq_false (by rw [HXL.out]; decide)
      have c9b1 : decide (14 < xs.length) = false := decide_eq_false (by rw [HXL.out]; decide)
      go_wp2
      have ho := OO0.out
      rw [List.take_of_length_le (by rw [HXL.out]; exact Nat.le_refl _), HXS.out, HS.out] at ho
      refine Go.Great.bodyPost_end0 rfl rfl ⟨rfl, Kd.R_mono ho (fun _ hk => hk.1), HB.out, KP.out⟩

/-! ### impl_put_uint32: function 81 -/
def impl_put_uint32.l0 : Nat → List Int → Int → Int → Int → Int → Option (List Int)
  | 0, _, _, _, _, _ => none
  | k + 1, x0, x1, x3, x9, x10 => if x10 < x9 then (if 0 ≤ (wrap64 (8 * x10)) then (if 0 ≤ (wrap64 (x1 + x10)) then (if (wrap64 (x1 + x10)) < (x0.length : Int) then (impl_put_uint32.l0 k (x0.set ((wrap64 (x1 + x10)) : Int).toNat ((shr .u64 (IntKind.u64.wrap (x3)) (wrap64 (8 * x10))) % 256)) x1 x3 x9 (wrap64 (x10 + 1))) else (none)) else (none)) else (none)) else (some x0)
def impl_put_uint32.f (k : Nat) (l0 : List Int) (a1 : Int) (a2 : Int) (a3 : Int) : Option (List Int) := impl_put_uint32.l0 k l0 a1 a3 a2 0
theorem impl_put_uint32.mono_l : ∀ k, (∀ y0 y1 y2 y3 y4, LeO (impl_put_uint32.l0 k y0 y1 y2 y3 y4) (impl_put_uint32.l0 (k + 1) y0 y1 y2 y3 y4))
  | 0 => fun _ _ _ _ _ r h => by simp [impl_put_uint32.l0] at h
  | k + 1 => by
    have ih0 := impl_put_uint32.mono_l k
    · intro y0 y1 y2 y3 y4
      unfold impl_put_uint32.l0
      repeat' first
      | (with_reducible exact ih0 _ _ _ _ _)
      | (with_reducible exact LeO.refl _)
      | (with_reducible exact LeO.none _)
      | (with_reducible refine LeO.ite ?_ ?_)
      | (with_reducible refine LeO.bind ?_ (fun _ => ?_))
      | exact ih0 _ _ _ _ _
      | exact LeO.none _
      | refine LeO.ite ?_ ?_
      | refine LeO.bind ?_ (fun _ => ?_)
theorem impl_put_uint32.mono : ∀ a0 a1 a2 a3 k, LeO (impl_put_uint32.f k a0 a1 a2 a3) (impl_put_uint32.f (k + 1) a0 a1 a2 a3) := by
  intro a0 a1 a2 a3 k
  have ih0 := impl_put_uint32.mono_l k
  unfold impl_put_uint32.f
  repeat' first
      | (with_reducible exact ih0 _ _ _ _ _)
      | (with_reducible exact LeO.refl _)
      | (with_reducible exact LeO.none _)
      | (with_reducible refine LeO.ite ?_ ?_)
      | (with_reducible refine LeO.bind ?_ (fun _ => ?_))
      | exact ih0 _ _ _ _ _
      | exact LeO.none _
      | refine LeO.ite ?_ ?_
      | refine LeO.bind ?_ (fun _ => ?_)
set_option maxHeartbeats 8000000 in
set_option maxRecDepth 100000 in
theorem impl_put_uint32.calls (k : Nat) (P0_ : Nat → Prop) (u9000_ : Value) (l0 : List Int) (a1 : Int) (a2 : Int) (a3 : Int) (r : List Int) (w0 w : World) (hB : Below w0.heap.size w0 w) (ho0 : Kd.R (Kd.int .u8) 5 w w0.heap.size P0_ u9000_ l0) (h : impl_put_uint32.f k l0 a1 a2 a3 = some r) :
    Calls Tryd.prog 81 #[u9000_, .int .i64 a1, .int .i64 a2, .int .u32 a3] w fun e w' => e = .returned (.tuple #[]) ∧ Kd.R (Kd.int .u8) 5 w' w0.heap.size (fun k_ => (P0_ k_ ∨ w.heap.size ≤ k_)) u9000_ r ∧ Below w0.heap.size w0 w' ∧ Kept w w' (fun k_ => P0_ k_) := by
  have HO0 := Aside0.mk (show Kd.R (Kd.int .u8) 5 w w0.heap.size (fun k_ => (P0_ k_ ∨ w.heap.size ≤ k_)) u9000_ l0 from Kd.R_mono ho0 (fun k_ hk => (.inl hk)))
  have HK := Aside0.mk (Kept.refl w (fun k_ => P0_ k_))
  have HW0 := Aside0.mk hB.size
  have HB := Aside0.mk hB
  clear hB
  have H : (impl_put_uint32.l0 k l0 a1 a3 a2 0) = some r := h
  clear h
  have H' := Aside0.mk H
  clear H
  go_enter Tryd.func81, Tryd.ntmps81
  go_wp2
  go_loopg [10] k (fun kq v10 w' => ∃ (x0_1 : List Int) (x10_1 : Int), v10 = .int .i64 x10_1 ∧ Aside0 (impl_put_uint32.l0 kq x0_1 a1 a3 a2 x10_1 = some r) ∧ Aside0 (kq ≤ k) ∧ Aside0 (Kd.R (Kd.int .u8) 5 w' w0.heap.size (fun k_ => (P0_ k_ ∨ w.heap.size ≤ k_)) u9000_ x0_1) ∧ Aside0 (Kept w w' (fun k_ => P0_ k_)) ∧ Aside0 (Below w0.heap.size w0 w'))
  case atStart => exact ⟨(l0), (0), (by first | rfl | (simp; done) | (simp [*]; done)), H', ⟨Nat.le_refl _⟩, ⟨by (with_reducible repeat (first | apply Kd.R_alloc | apply Kd.R_drewN | apply Kd.R_drew)); exact HO0.out⟩, ⟨by repeat (first | (with_reducible first | exact HK.out | apply Kept.alloc | apply Kept.drewN | apply Kept.drew) | exact HK.out)⟩, ⟨by repeat (first | (with_reducible first | exact HB.out | apply below_alloc | apply pw_below_drewN | apply below_drew1) | exact HB.out)⟩⟩
  case round =>
    clear H'
    try clear p2
    obtain ⟨x0_1, x10_1, rfl, HA, HK1, HO_0, HK, HB⟩ := hrel
    cases gk with
    | zero => exact absurd HA.out (by simp [impl_put_uint32.l0])
    | succ k1 =>
      have H := HA.out
      clear HA
      simp only [impl_put_uint32.l0] at H
      by_cases c5 : x10_1 < a2
      · rw [if_pos c5] at H
        have c5b0 : decide (x10_1 < a2) = true := decide_eq_true c5
        clear c5
        obtain ⟨ji6, hji6⟩ : ∃ j_ : Int, (wrap64 (8 * x10_1)) = j_ := ⟨_, rfl⟩
        replace H : (if 0 ≤ (ji6) then (if 0 ≤ (wrap64 (a1 + x10_1)) then (if (wrap64 (a1 + x10_1)) < (x0_1.length : Int) then (impl_put_uint32.l0 k1 (x0_1.set ((wrap64 (a1 + x10_1)) : Int).toNat ((shr .u64 (IntKind.u64.wrap (a3)) (ji6)) % 256)) a1 a3 a2 (wrap64 (x10_1 + 1))) else (none)) else (none)) else (none)) = some r := by first | (rw [hji6] at H; exact H) | (simp only [hji6] at H ⊢; exact H)
        have hji6w : (IntKind.i64.wrap (8 * x10_1)) = ji6 := (i64_w _).trans hji6
        by_cases c7 : 0 ≤ (ji6)
        · rw [if_pos c7] at H
          have c7b0 := eq_true c7
          have c7b1 : decide (0 ≤ (ji6)) = true := decide_eq_true c7
          clear c7
          obtain ⟨ji8, hji8⟩ : ∃ j_ : Int, (shr .u64 (IntKind.u64.wrap (a3)) (ji6)) = j_ := ⟨_, rfl⟩
          replace H : (if 0 ≤ (wrap64 (a1 + x10_1)) then (if (wrap64 (a1 + x10_1)) < (x0_1.length : Int) then (impl_put_uint32.l0 k1 (x0_1.set ((wrap64 (a1 + x10_1)) : Int).toNat ((ji8) % 256)) a1 a3 a2 (wrap64 (x10_1 + 1))) else (none)) else (none)) = some r := by first | (rw [hji8] at H; exact H) | (simp only [hji8] at H ⊢; exact H)
          have hji8_ : ((IntKind.u64.wrap (a3)) / 2 ^ min (ji6).toNat 64) = ji8 := hji8
          have hji8z : (ji6) ≤ 64 → ((IntKind.u64.wrap (a3)) / 2 ^ (ji6).toNat) = ji8 := shr_small hji8
          obtain ⟨ji9, hji9⟩ : ∃ j_ : Int, (wrap64 (a1 + x10_1)) = j_ := ⟨_, rfl⟩
          replace H : (if 0 ≤ (ji9) then (if (ji9) < (x0_1.length : Int) then (impl_put_uint32.l0 k1 (x0_1.set ((ji9) : Int).toNat ((ji8) % 256)) a1 a3 a2 (wrap64 (x10_1 + 1))) else (none)) else (none)) = some r := by first | (rw [hji9] at H; exact H) | (simp only [hji9] at H ⊢; exact H)
          have hji9w : (IntKind.i64.wrap (a1 + x10_1)) = ji9 := (i64_w _).trans hji9
          by_cases c10 : 0 ≤ (ji9)
          · rw [if_pos c10] at H
            have c10b0 : decide (0 ≤ (ji9)) = true := decide_eq_true c10
            clear c10
            by_cases c11 : (ji9) < (x0_1.length : Int)
            · rw [if_pos c11] at H
              have c11b0 : decide ((ji9) < (x0_1.length : Int)) = true := decide_eq_true c11
              clear c11
              obtain ⟨y144, hy144⟩ : ∃ y_ : List Int, y_ = (x0_1.set ((ji9) : Int).toNat ((ji8) % 256)) := ⟨_, rfl⟩
              replace H : (impl_put_uint32.l0 k1 y144 a1 a3 a2 (wrap64 (x10_1 + 1))) = some r := by first | (rw [hy144]; with_reducible exact H) | (have H2_ := (Option.bind_some _ _).symm.trans H; rw [hy144]; with_reducible exact H2_) | (have H2_ := (Option.bind_some _ _).symm.trans H; with_reducible exact H2_) | with_reducible exact H | (rw [hy144]; exact H) | exact H
              have Ny144 := Aside0.mk hy144
              clear hy144
              have H' := Aside0.mk H
              clear H
              have p12 : 0 ≤ ((ji9) : Int) := of_decide_eq_true (by first | (with_reducible assumption) | assumption)
              have q12 : ((ji9) : Int) < ((x0_1.length : Int) : Int) := of_decide_eq_true (by first | (with_reducible assumption) | assumption)
              obtain ⟨go12, co12, eo12, gb12, gl12, cl12, HG12⟩ := Kd.R_form HO_0.out (by omega)
              (first | cases eo12 | (injection eo12 with ea_ en_ ec_; (first | subst ea_ | (injection ea_ with ea_; subst ea_)); subst ec_; clear en_))
              have GB12 := Aside0.mk gb12
              have GG12 := Aside0.mk HG12
              clear gb12 gl12 HG12
              have HMgo12 := Aside0.mk (show (P0_ go12 ∨ w.heap.size ≤ go12) from (HO_0.out.1 _ rfl))
              obtain ⟨hx12_0, hf12_0⟩ := Kd.R_celln 0 HO_0.out ((ji9) : Int) p12 q12
              replace p12 := eq_true p12
              replace q12 := eq_true q12
              have HP13 := Kd.R_putg HO_0.out ((ji9) : Int) ((ji8) % 256)
              go_wp2_with (first | ((with_reducible refine gate_store (t := 5) (p := 23) rfl ?_); refine store_event (t := 5) (p := 23) (v := ?vo_w14) (w1 := (wr.setCell ⟨go12, ((ji9) : Int).toNat, none⟩ (.int .u8 ((ji8) % 256)))) ?hg ?ho ?hn ?hr ?_; (case ho => rfl); (case hg => rfl); (case hn => rfl); (case hr => first | (go_simp; done) | (go_simp; rfl)); intro w14 hw; have hg : wr.grownBy w14 (some go12) := (by rw [hw]; exact HP13.2); have hp_ : Kd.R (Kd.int .u8) 5 w14 w0.heap.size (fun k_ => (P0_ k_ ∨ w.heap.size ≤ k_)) (.slice (some ⟨go12, 0, none⟩) x0_1.length co12) y144 := (by rw [hw, Ny144.out]; exact HP13.1); clear HP13; have n0_ := Aside0.mk (hp_); have n1_ := Aside0.mk ((by rw [hw]; exact below_set (HB.out) GB12.out : Below w0.heap.size w0 w14)); have n2_ := Aside0.mk (Kept.of_grown (S := (fun k_ => P0_ k_)) hg (by repeat (first | (with_reducible first | exact HK.out | apply Kept.alloc | apply Kept.drewN | apply Kept.drew) | exact HK.out)) (fun k_ e_ => (HO_0.out.1 k_ e_))); clear HO_0; clear HB; clear HK; have HO_0 := n0_; have HB := n1_; have HK := n2_; clear n0_ n1_ n2_; clear hg hw hp_))
              go_roundg k1
              case measure => have := HK1.out; omega
              case rel => exact ⟨(y144), (wrap64 (x10_1 + 1)), (by first | rfl | (simp; done) | (simp [*]; done)), H', ⟨by have := HK1.out; omega⟩, ⟨by (with_reducible repeat (first | apply Kd.R_alloc | apply Kd.R_drewN | apply Kd.R_drew)); exact HO_0.out⟩, ⟨by repeat (first | (with_reducible first | exact HK.out | apply Kept.alloc | apply Kept.drewN | apply Kept.drew) | exact HK.out)⟩, ⟨by repeat (first | (with_reducible first | exact HB.out | apply below_alloc | apply pw_below_drewN | apply below_drew1) | exact HB.out)⟩⟩
            · rw [if_neg c11] at H
              exact absurd H (by simp)
          · rw [if_neg c10] at H
            exact absurd H (by simp)
        · rw [if_neg c7] at H
          exact absurd H (by simp)
      · rw [if_neg c5] at H
        have c5b0 : decide (x10_1 < a2) = false := decide_eq_false c5
        clear c5
        obtain rfl := Option.some.inj H
        go_wp2
        first | go_end0 | ((try simp only [Exit.inBlock, Exit.then]); refine bodyPost_ret (results_none rfl _ _ _) rfl ?_)
        exact ⟨by first | rfl | (simp [errW_none, errW_some] <;> rfl) | (simp [*, errW_none, errW_some] <;> rfl), by (with_reducible repeat (first | apply Kd.R_alloc | apply Kd.R_drewN | apply Kd.R_drew)); exact HO_0.out, by repeat (first | (with_reducible first | exact HB.out | apply below_alloc | apply pw_below_drewN | apply below_drew1) | exact HB.out), by repeat (first | (with_reducible first | exact HK.out | apply Kept.alloc | apply Kept.drewN | apply Kept.drew) | exact HK.out)⟩

/-! ### impl_Crc32: function 82 -/
mutual
def impl_Crc32.l0 : Nat → Int → List Int → Int → Int → Option (Int)
  | 0, _, _, _, _ => none
  | k + 1, x3, x6, x7, x8 => if x8 < x7 then (if 0 ≤ x8 then (if x8 < (x6.length : Int) then (impl_Crc32.l1 k (Go.bits .xor .u32 x3 ((rd x6 x8) % 4294967296)) x6 x7 x8 0) else (none)) else (none)) else (some (Go.bits .xor .u32 4294967295 x3))
def impl_Crc32.l1 : Nat → Int → List Int → Int → Int → Int → Option (Int)
  | 0, _, _, _, _, _ => none
  | k + 1, x3, x6, x7, x8, x16 => if x16 < 8 then (impl_Crc32.l1 k (Go.bits .xor .u32 (x3 / 2) (Go.bits .and .u32 3988292384 ((-(Go.bits .and .u32 x3 1)) % 4294967296))) x6 x7 x8 (wrap64 (x16 + 1))) else (impl_Crc32.l0 k x3 x6 x7 (wrap64 (x8 + 1)))
end
def impl_Crc32.f (k : Nat) (l0 : List Int) : Option (Int) := impl_Crc32.l0 k 4294967295 l0 (l0.length : Int) 0
theorem impl_Crc32.mono_l : ∀ k, (∀ y0 y1 y2 y3, LeO (impl_Crc32.l0 k y0 y1 y2 y3) (impl_Crc32.l0 (k + 1) y0 y1 y2 y3)) ∧ (∀ y0 y1 y2 y3 y4, LeO (impl_Crc32.l1 k y0 y1 y2 y3 y4) (impl_Crc32.l1 (k + 1) y0 y1 y2 y3 y4))
  | 0 => ⟨fun _ _ _ _ r h => by simp [impl_Crc32.l0] at h, fun _ _ _ _ _ r h => by simp [impl_Crc32.l1] at h⟩
  | k + 1 => by
    obtain ⟨ih0, ih1⟩ := impl_Crc32.mono_l k
    refine ⟨?_, ?_⟩
    · intro y0 y1 y2 y3
      unfold impl_Crc32.l0
      repeat' first
      | (with_reducible exact ih0 _ _ _ _)
      | (with_reducible exact ih1 _ _ _ _ _)
      | (with_reducible exact LeO.refl _)
      | (with_reducible exact LeO.none _)
      | (with_reducible refine LeO.ite ?_ ?_)
      | (with_reducible refine LeO.bind ?_ (fun _ => ?_))
      | exact ih0 _ _ _ _
      | exact ih1 _ _ _ _ _
      | exact LeO.none _
      | refine LeO.ite ?_ ?_
      | refine LeO.bind ?_ (fun _ => ?_)
    · intro y0 y1 y2 y3 y4
      unfold impl_Crc32.l1
      repeat' first
      | (with_reducible exact ih0 _ _ _ _)
      | (with_reducible exact ih1 _ _ _ _ _)
      | (with_reducible exact LeO.refl _)
      | (with_reducible exact LeO.none _)
      | (with_reducible refine LeO.ite ?_ ?_)
      | (with_reducible refine LeO.bind ?_ (fun _ => ?_))
      | exact ih0 _ _ _ _
      | exact ih1 _ _ _ _ _
      | exact LeO.none _
      | refine LeO.ite ?_ ?_
      | refine LeO.bind ?_ (fun _ => ?_)
theorem impl_Crc32.mono : ∀ a0 k, LeO (impl_Crc32.f k a0) (impl_Crc32.f (k + 1) a0) := by
  intro a0 k
  obtain ⟨ih0, ih1⟩ := impl_Crc32.mono_l k
  unfold impl_Crc32.f
  repeat' first
      | (with_reducible exact ih0 _ _ _ _)
      | (with_reducible exact ih1 _ _ _ _ _)
      | (with_reducible exact LeO.refl _)
      | (with_reducible exact LeO.none _)
      | (with_reducible refine LeO.ite ?_ ?_)
      | (with_reducible refine LeO.bind ?_ (fun _ => ?_))
      | exact ih0 _ _ _ _
      | exact ih1 _ _ _ _ _
      | exact LeO.none _
      | refine LeO.ite ?_ ?_
      | refine LeO.bind ?_ (fun _ => ?_)
set_option maxHeartbeats 8000000 in
set_option maxRecDepth 100000 in
theorem impl_Crc32.calls (k : Nat) (A0 : Option Addr) (c0 : Nat) (l0 : List Int) (r : Int) (w : World) (hr0 : Kd.C (Kd.int .u8) w A0 l0.length l0) (hc0 : l0.length ≤ c0) (h : impl_Crc32.f k l0 = some r) :
    Calls Tryd.prog 82 #[.slice A0 l0.length c0] w fun e w' => e = .returned (.int .u32 r) ∧ Drawn0 w w' := by
  have HR0 := Aside0.mk hr0
  have HC0 := Aside0.mk hc0
  clear hr0 hc0
  have H : (impl_Crc32.l0 k 4294967295 l0 (l0.length : Int) 0) = some r := h
  clear h
  have H' := Aside0.mk H
  clear H
  go_enter Tryd.func82, Tryd.ntmps82
  go_wp2
  go_loopg [3, 8] k (fun kq v3 v8 w' => ∃ (x3_1 : Int) (x8_1 : Int), v3 = .int .u32 x3_1 ∧ v8 = .int .i64 x8_1 ∧ Aside0 (impl_Crc32.l0 kq x3_1 l0 (l0.length : Int) x8_1 = some r) ∧ Aside0 (kq ≤ k) ∧ Drawn0 w w')
  case atStart => exact ⟨(4294967295), (0), (by first | rfl | (simp; done) | (simp [*]; done)), (by first | rfl | (simp; done) | (simp [*]; done)), H', ⟨Nat.le_refl _⟩, by repeat (first | exact Drawn0.refl _ | apply Drawn0.step)⟩
  case round =>
    clear H'
    obtain ⟨x3_1, x8_1, rfl, rfl, HA, HK1, ⟨m1, rfl⟩⟩ := hrel
    cases gk with
    | zero => exact absurd HA.out (by simp [impl_Crc32.l0])
    | succ k1 =>
      have H := HA.out
      clear HA
      simp only [impl_Crc32.l0] at H
      by_cases c2 : x8_1 < (l0.length : Int)
      · rw [if_pos c2] at H
        have c2b0 : decide (x8_1 < (l0.length : Int)) = true := decide_eq_true c2
        clear c2
        by_cases c3 : 0 ≤ x8_1
        · rw [if_pos c3] at H
          have c3b0 : decide (0 ≤ x8_1) = true := decide_eq_true c3
          clear c3
          by_cases c4 : x8_1 < (l0.length : Int)
          · rw [if_pos c4] at H
            have c4b0 : decide (x8_1 < (l0.length : Int)) = true := decide_eq_true c4
            clear c4
            have H' := Aside0.mk H
            clear H
            have p145 : 0 ≤ (x8_1 : Int) := of_decide_eq_true (by first | (with_reducible assumption) | assumption)
            have q145 : x8_1 < (l0.length : Int) := of_decide_eq_true (by first | (with_reducible assumption) | assumption)
            obtain ⟨ad145, e145, hx145_0⟩ := Kd.at_int HR0.out x8_1 p145 q145
            cases e145
            replace p145 := eq_true p145
            replace q145 := eq_true q145
            go_wp2
            go_loopg [3, 16] k1 (fun kq v3 v16 w' => ∃ (x3_2 : Int) (x16_2 : Int), v3 = .int .u32 x3_2 ∧ v16 = .int .i64 x16_2 ∧ Aside0 (impl_Crc32.l1 kq x3_2 l0 (l0.length : Int) x8_1 x16_2 = some r) ∧ Aside0 (kq ≤ k1) ∧ Drawn0 w w')
            case atStart => exact ⟨(Go.bits .xor .u32 x3_1 ((rd l0 x8_1) % 4294967296)), (0), (by first | rfl | (simp; done) | (simp [*]; done)), (by first | rfl | (simp; done) | (simp [*]; done)), H', ⟨Nat.le_refl _⟩, by repeat (first | exact Drawn0.refl _ | apply Drawn0.step)⟩
            case round =>
              clear H'
              try clear p1
              try clear q1
              try clear hx1
              try clear c2
              try clear c2b0
              try clear p2
              try clear c3
              try clear c3b0
              try clear c4
              try clear c4b0
              try clear hx145_0
              try clear p145
              try clear q145
              obtain ⟨x3_2, x16_2, rfl, rfl, HA, HK2, ⟨m2, rfl⟩⟩ := hrel
              cases gk with
              | zero => exact absurd HA.out (by simp [impl_Crc32.l1])
              | succ k2 =>
                have H := HA.out
                clear HA
                simp only [impl_Crc32.l1] at H
                by_cases c5 : x16_2 < 8
                · rw [if_pos c5] at H
                  have c5b0 : decide (x16_2 < 8) = true := decide_eq_true c5
                  clear c5
                  have H' := Aside0.mk H
                  clear H
                  go_wp2
                  go_roundg k2
                  case measure => have := HK1.out; have := HK2.out; omega
                  case rel => exact ⟨(Go.bits .xor .u32 (x3_2 / 2) (Go.bits .and .u32 3988292384 ((-(Go.bits .and .u32 x3_2 1)) % 4294967296))), (wrap64 (x16_2 + 1)), (by first | rfl | (simp; done) | (simp [*]; done)), (by first | rfl | (simp; done) | (simp [*]; done)), H', ⟨by have := HK1.out; have := HK2.out; omega⟩, by repeat (first | exact Drawn0.refl _ | apply Drawn0.step)⟩
                · rw [if_neg c5] at H
                  have c5b0 : decide (x16_2 < 8) = false := decide_eq_false c5
                  clear c5
                  have H' := Aside0.mk H
                  clear H
                  go_wp2
                  go_roundg k2
                  case measure => have := HK1.out; have := HK2.out; omega
                  case rel => exact ⟨(x3_2), (wrap64 (x8_1 + 1)), (by first | rfl | (simp; done) | (simp [*]; done)), (by first | rfl | (simp; done) | (simp [*]; done)), H', ⟨by have := HK1.out; have := HK2.out; omega⟩, by repeat (first | exact Drawn0.refl _ | apply Drawn0.step)⟩
          · rw [if_neg c4] at H
            exact absurd H (by simp)
        · rw [if_neg c3] at H
          exact absurd H (by simp)
      · rw [if_neg c2] at H
        have c2b0 : decide (x8_1 < (l0.length : Int)) = false := decide_eq_false c2
        clear c2
        obtain rfl := Option.some.inj H
        go_wp2
        go_ret
        exact ⟨by first | rfl | (simp; done) | (simp [*]; done), by repeat (first | exact Drawn0.refl _ | apply Drawn0.step)⟩

/-! ### impl_sealed: function 50 -/
def impl_sealed.f (k : Nat) (l0 : List Int) : Option (List Int) := if 508 ≤ (l0.length : Int) then ((impl_Crc32.f k (l0.take 508)).bind fun t150 => ((impl_put_uint32.f k l0 508 4 t150).bind fun t151 => (some t151))) else (none)
theorem impl_sealed.mono : ∀ a0 k, LeO (impl_sealed.f k a0) (impl_sealed.f (k + 1) a0) := by
  intro a0 k
  unfold impl_sealed.f
  repeat' first
      | (with_reducible exact impl_Crc32.mono _ _)
      | (with_reducible exact impl_put_uint32.mono _ _ _ _ _)
      | (with_reducible exact LeO.refl _)
      | (with_reducible exact LeO.none _)
      | (with_reducible refine LeO.ite ?_ ?_)
      | (with_reducible refine LeO.bind ?_ (fun _ => ?_))
      | exact impl_Crc32.mono _ _
      | exact impl_put_uint32.mono _ _ _ _ _
      | exact LeO.none _
      | refine LeO.ite ?_ ?_
      | refine LeO.bind ?_ (fun _ => ?_)
set_option maxHeartbeats 8000000 in
set_option maxRecDepth 100000 in
theorem impl_sealed.calls (k : Nat) (P0_ : Nat → Prop) (u9000_ : Value) (l0 : List Int) (r : List Int) (w0 w : World) (hB : Below w0.heap.size w0 w) (ho0 : Kd.R (Kd.int .u8) 5 w w0.heap.size P0_ u9000_ l0) (h : impl_sealed.f k l0 = some r) :
    Calls Tryd.prog 50 #[u9000_] w fun e w' => ∃ v0_ : Value, e = .returned (v0_) ∧ Kd.R (Kd.int .u8) 5 w' w0.heap.size (fun k_ => (P0_ k_ ∨ w.heap.size ≤ k_)) v0_ r ∧ Below w0.heap.size w0 w' ∧ Kept w w' (fun k_ => P0_ k_) := by
  have HO0 := Aside0.mk (show Kd.R (Kd.int .u8) 5 w w0.heap.size (fun k_ => (P0_ k_ ∨ w.heap.size ≤ k_)) u9000_ l0 from Kd.R_mono ho0 (fun k_ hk => (.inl hk)))
  have HK := Aside0.mk (Kept.refl w (fun k_ => P0_ k_))
  have HW0 := Aside0.mk hB.size
  have HB := Aside0.mk hB
  clear hB
  have H : (if 508 ≤ (l0.length : Int) then ((impl_Crc32.f k (l0.take 508)).bind fun t150 => ((impl_put_uint32.f k l0 508 4 t150).bind fun t151 => (some t151))) else (none)) = some r := h
  clear h
  by_cases c2 : 508 ≤ (l0.length : Int)
  · rw [if_pos c2] at H
    have c2b0 := eq_true c2
    have c2b1 : decide (508 ≤ (l0.length : Int)) = true := decide_eq_true c2
    clear c2
    obtain ⟨y146, hy146⟩ : ∃ y_ : List Int, y_ = (l0.take 508) := ⟨_, rfl⟩
    replace H : ((impl_Crc32.f k y146).bind fun t150 => ((impl_put_uint32.f k l0 508 4 t150).bind fun t151 => (some t151))) = some r := by first | (rw [hy146]; with_reducible exact H) | (have H2_ := (Option.bind_some _ _).symm.trans H; rw [hy146]; with_reducible exact H2_) | (have H2_ := (Option.bind_some _ _).symm.trans H; with_reducible exact H2_) | with_reducible exact H | (rw [hy146]; exact H) | exact H
    have Ny146 := Aside0.mk hy146
    clear hy146
    replace H := Option.bind_eq_some_iff.mp H
    obtain ⟨t150, A30, H⟩ := H
    replace H : ((impl_put_uint32.f k l0 508 4 t150).bind fun t151 => (some t151)) = some r := H
    have A3 := Aside0.mk A30
    clear A30
    replace H := Option.bind_eq_some_iff.mp H
    obtain ⟨t151, A40, H⟩ := H
    replace H : (some t151) = some r := H
    have A4 := Aside0.mk A40
    clear A40
    obtain rfl := Option.some.inj H
    obtain ⟨Ao6, co6, eo6⟩ := Kd.R_slice HO0.out
    subst eo6
    have q5 : (508 : Int) ≤ ((l0.length : Int) : Int) := of_decide_eq_true (by first | (with_reducible assumption) | assumption)
    obtain ⟨i05, hi05, _, hsz5, _⟩ := info_parts info5
    have hroom5 : l0.length ≤ co6 := (Kd.R_reads' HO0.out).2.1
    have hC5 : Kd.C (Kd.int .u8) _ Ao6 l0.length l0 := (Kd.R_reads' HO0.out).2.2
    have hcut5 := cut_to (P := Tryd.prog) 28 5 .i64 Tryd.underlying28 hi05 Ao6 l0.length co6 508 (by omega) q5 hroom5
    have hr5 := Kd.C_take (m := 508) hC5 (by omega)
    have hy5 : y146.length = (508 : Int).toNat := (by rw [Ny146.out, List.length_take]; omega)
    rw [← Ny146.out] at hr5
    rw [← hy5] at hcut5
    have HR149 := Aside0.mk hr5
    have HC149 := Aside0.mk (show y146.length ≤ co6 from by omega)
    clear hr5 hC5 hroom5 hi05 hsz5
    have KY5 := Aside0.mk hy5
    clear hy5
    have KL5 := Aside0.mk (show 508 ≤ l0.length from by omega)
    replace q5 := eq_true q5
    go_enter Tryd.func50, Tryd.ntmps50
    go_wp2_with (first | ((with_reducible refine gate_callee (f := 82) rfl ?_); refine goesL_ (some 6) rfl rfl Tryd.func82 (by kernel_rfl) rfl #[.slice Ao6 y146.length co6] rfl (by (try simp only [List.map_toArray, List.map_cons, List.map_nil]); first | done | rfl | (simp only [List.length_drop, List.length_take]; rfl)) ?_; (with_reducible refine (impl_Crc32.calls k _ _ y146 t150 _ ?side1 ?side2 A3.out).mono ?_); (case side1 => repeat (first | exact (by repeat (first | (with_reducible exact HR149.out) | (with_reducible refine Kd.C_alloc ?_ _) | (with_reducible refine Kd.C_drewN ?_ _) | (with_reducible refine Kd.C_drew ?_) | exact HR149.out)) | (with_reducible refine Kd.C_alloc ?_ _) | (with_reducible refine Kd.C_drewN ?_ _) | (with_reducible refine Kd.C_drew ?_))); (case side2 => exact HC149.out); rintro e w' ⟨rfl, ⟨nd, rfl⟩⟩; refine ⟨_, rfl, ?_⟩) | ((with_reducible refine gate_callee (f := 81) rfl ?_); refine goesL_ (some 7) rfl rfl Tryd.func81 (by kernel_rfl) rfl #[.slice Ao6 l0.length co6, .int .i64 508, .int .i64 4, .int .u32 t150] rfl (by (try simp only [List.map_toArray, List.map_cons, List.map_nil]); first | done | rfl | (simp only [List.length_drop, List.length_take]; rfl)) ?_; (with_reducible refine (impl_put_uint32.calls k (fun k_ => some k_ = (.slice Ao6 l0.length co6 : Value).ownBlock) (.slice Ao6 l0.length co6) l0 508 4 t150 t151 w0 _ ?side1 ?side2 A4.out).mono ?_); (case side1 => repeat (first | (with_reducible first | exact HB.out | apply below_alloc | apply pw_below_drewN | apply below_drew1) | exact HB.out)); (case side2 => exact Kd.R_tight rfl HO0.out); rintro e w7 ⟨rfl, hy0, hb, hkp⟩; refine ⟨_, rfl, ?_⟩; have n0_ := Aside0.mk (Kd.R_reok rfl hy0 (fun k_ e_ => HO0.out.1 k_ e_)); have n1_ := Aside0.mk (Kept.then_ (S := (fun k_ => P0_ k_)) (by repeat (first | (with_reducible first | exact HK.out | apply Kept.alloc | apply Kept.drewN | apply Kept.drew) | exact HK.out)) hkp (fun k_ hs_ => (fun e_ => (HO0.out.1 k_ e_.symm)) hs_)); have n2_ := Aside0.mk (hb); clear HO0; clear HK; clear HB; have HO0 := n0_; have HK := n1_; have HB := n2_; clear n0_ n1_ n2_; (try clear hb); (try clear hkp); (try clear hy0)))
    go_ret
    exact ⟨_, by first | rfl | (simp [errW_none, errW_some] <;> rfl) | (simp [*, errW_none, errW_some] <;> rfl), by (with_reducible repeat (first | apply Kd.R_alloc | apply Kd.R_drewN | apply Kd.R_drew)); exact HO0.out, by repeat (first | (with_reducible first | exact HB.out | apply below_alloc | apply pw_below_drewN | apply below_drew1) | exact HB.out), by repeat (first | (with_reducible first | exact HK.out | apply Kept.alloc | apply Kept.drewN | apply Kept.drew) | exact HK.out)⟩
  · rw [if_neg c2] at H
    exact absurd H (by simp)

/-! ### impl_within: function 76 -/
def impl_within.f (a0 : Int) (a1 : Int) (a2 : Int) : Option (Bool) := if a0 ≥ a1 then (some (decide (a0 ≤ a2))) else (some false)
set_option maxHeartbeats 8000000 in
set_option maxRecDepth 100000 in
theorem impl_within.calls (a0 : Int) (a1 : Int) (a2 : Int) (r : Bool) (w : World) (h : impl_within.f a0 a1 a2 = some r) :
    Calls Tryd.prog 76 #[.int .i64 a0, .int .i64 a1, .int .i64 a2] w fun e w' => e = .returned (.bool r) ∧ Drawn0 w w' := by
  have H : (if a0 ≥ a1 then (some (decide (a0 ≤ a2))) else (some false)) = some r := h
  clear h
  by_cases c4 : a0 ≥ a1
  · rw [if_pos c4] at H
    have c4b0 : decide (a1 ≤ a0) = true := decide_eq_true c4
    clear c4
    obtain rfl := Option.some.inj H
    go_enter Tryd.func76, Tryd.ntmps76
    go_wp2
    go_ret
    exact ⟨by first | rfl | (simp; done) | (simp [*]; done), by repeat (first | exact Drawn0.refl _ | apply Drawn0.step)⟩
  · rw [if_neg c4] at H
    have c4b0 : decide (a1 ≤ a0) = false := decide_eq_false c4
    clear c4
    obtain rfl := Option.some.inj H
    go_enter Tryd.func76, Tryd.ntmps76
    go_wp2
    go_ret
    exact ⟨by first | rfl | (simp; done) | (simp [*]; done), by repeat (first | exact Drawn0.refl _ | apply Drawn0.step)⟩

/-! ### impl_isPointer: function 87 -/
def impl_isPointer.f (a0 : Int) (a1 : Int) : Option (Bool) := if a0 = 0 then (some true) else ((impl_within.f a0 2 (wrap64 (a1 - 1))).bind fun t152 => (some t152))
set_option maxHeartbeats 8000000 in
set_option maxRecDepth 100000 in
theorem impl_isPointer.calls (a0 : Int) (a1 : Int) (r : Bool) (w : World) (h : impl_isPointer.f a0 a1 = some r) :
    Calls Tryd.prog 87 #[.int .i64 a0, .int .i64 a1] w fun e w' => e = .returned (.bool r) ∧ Drawn0 w w' := by
  have H : (if a0 = 0 then (some true) else ((impl_within.f a0 2 (wrap64 (a1 - 1))).bind fun t152 => (some t152))) = some r := h
  clear h
  by_cases c3 : a0 = 0
  · rw [if_pos c3] at H
    have c3b0 : (a0 == 0) = true := beq_iff_eq.mpr c3
    have c3b1 : (a0 != 0) = false := bne_eq_false_iff_eq.mpr c3
    clear c3
    obtain rfl := Option.some.inj H
    go_enter Tryd.func87, Tryd.ntmps87
    go_wp2
    go_ret
    exact ⟨by first | rfl | (simp; done) | (simp [*]; done), by repeat (first | exact Drawn0.refl _ | apply Drawn0.step)⟩
  · rw [if_neg c3] at H
    have c3b0 : (a0 == 0) = false := beq_eq_false_iff_ne.mpr c3
    have c3b1 : (a0 != 0) = true := bne_iff_ne.mpr c3
    replace H := Option.bind_eq_some_iff.mp H
    obtain ⟨t152, A40, H⟩ := H
    replace H : (some t152) = some r := H
    have A4 := Aside0.mk A40
    clear A40
    obtain rfl := Option.some.inj H
    go_enter Tryd.func87, Tryd.ntmps87
    go_wp2_with (first | (go_at_call 76; (with_reducible refine (impl_within.calls a0 2 (wrap64 (a1 - 1)) t152 _ A4.out).mono ?_); rintro e w' ⟨rfl, ⟨nd, rfl⟩⟩))
    go_ret
    exact ⟨by first | rfl | (simp; done) | (simp [*]; done), by repeat (first | exact Drawn0.refl _ | apply Drawn0.step)⟩

/-! ### impl_count: function 95 -/
def impl_count.f (a0 : Int) : Option (Int) := some (wrap64 (Int.tdiv (wrap64 ((wrap64 (a0 + 512)) - 1)) 512))
set_option maxHeartbeats 8000000 in
set_option maxRecDepth 100000 in
theorem impl_count.calls (a0 : Int) (r : Int) (w : World) (h : impl_count.f a0 = some r) :
    Calls Tryd.prog 95 #[.int .i64 a0] w fun e w' => e = .returned (.int .i64 r) ∧ Drawn0 w w' := by
  have H : (some (wrap64 (Int.tdiv (wrap64 ((wrap64 (a0 + 512)) - 1)) 512))) = some r := h
  clear h
  obtain rfl := Option.some.inj H
  go_enter Tryd.func95, Tryd.ntmps95
  go_wp2
  go_ret
  exact ⟨by first | rfl | (simp; done) | (simp [*]; done), by repeat (first | exact Drawn0.refl _ | apply Drawn0.step)⟩

open Go.Proofs.YtkghgjehjchajaaDoorW Go.Proofs.YtkghgjehjchajaaDoorW.PrintHand Go.Proofs.YtkghgjehjchajaaDoorW.PrintHx
/-! ### impl_Root_right: function 78 -/
def impl_Root_right.f (a0 : List Int) : Option Bool := some (rootGood a0)
theorem impl_Root_right.within (a b c : Int) : impl_within.f a b c = some (decide (b ≤ a ∧ a ≤ c)) := by
  unfold impl_within.f
  by_cases h : b ≤ a <;> simp [h]
theorem impl_Root_right.ptr (p : Int) : impl_isPointer.f p 2048 = some (ptrOk p) := by
  unfold impl_isPointer.f ptrOk
  by_cases h : p = 0
  · simp [h]
  · rw [if_neg h, impl_Root_right.within, Option.bind_some, show wrap64 (2048 - 1) = 2047 by unfold wrap64; omega]
    congr 1
    rw [decide_eq_false h, Bool.false_or, ← Bool.decide_and]
    apply decide_eq_decide.2
    omega
theorem impl_Root_right.count (s : Int) (h0 : 0 ≤ s) (h1 : s ≤ 262144) : impl_count.f s = some ((s + 511) / 512) := by
  unfold impl_count.f
  have e1 : wrap64 (s + 512) = s + 512 := by unfold wrap64; omega
  have e2 : wrap64 (s + 512 - 1) = s + 511 := by unfold wrap64; omega
  rw [e1, e2, Int.tdiv_eq_ediv_of_nonneg (by omega)]
  congr 1
  unfold wrap64
  omega
set_option maxHeartbeats 8000000 in
set_option maxRecDepth 100000 in
theorem impl_Root_right.calls (a0 : List Int) (n0 : a0.length = 15) (r : Bool) (w : World) (h : impl_Root_right.f a0 = some r) :
    Calls Tryd.prog 78 #[.agg (nums .i64 a0).toArray] w fun e w' => e = .returned (.bool r) ∧ Below w.heap.size w w' := by
  have H := Aside0.mk (Option.some.inj h)
  have N_ := Aside0.mk n0
  clear n0 h
  obtain ⟨s, hs⟩ : ∃ s, s = a0.getD 0 0 := ⟨_, rfl⟩
  have HS := Aside0.mk hs
  obtain ⟨x13, hx13⟩ : ∃ x, x = a0.getD 13 0 := ⟨_, rfl⟩
  have HX13 := Aside0.mk hx13
  obtain ⟨x14, hx14⟩ : ∃ x, x = a0.getD 14 0 := ⟨_, rfl⟩
  have HX14 := Aside0.mk hx14
  clear hs hx13 hx14
  obtain ⟨xs, hxs⟩ : ∃ xs, xs = seg a0 1 14 := ⟨_, rfl⟩
  have HP := Aside0.mk (show impl_Root_pointers.f a0 = some xs by rw [hxs]; exact if_pos N_.out)
  have HXL := Aside0.mk (show xs.length = 14 by rw [hxs]; exact part_len (n := 15) N_.out (by decide))
  have HXS := Aside0.mk hxs
  clear hxs
  have HB0 : Aside0 (Below w.heap.size w w) := ⟨Below.refl _ _⟩
  obtain ⟨s0, Sz0⟩ : ∃ s0, Aside0 (w.heap.size = s0) := ⟨_, ⟨rfl⟩⟩
  have hw0 : w.heap.size ≤ s0 := Nat.le_of_eq Sz0.out
  have hw1 : s0 ≤ w.heap.size := Nat.le_of_eq Sz0.out.symm
  by_cases c1 : 0 ≤ s ∧ s ≤ 262144
  case neg =>
    have HW := Aside0.mk ((impl_Root_right.within s 0 262144).trans (by rw [decide_eq_false c1]))
    have C1 := Aside0.mk c1
    clear c1
    go_enter Tryd.func78, Tryd.ntmps78
    go_wp2_with (first | ((with_reducible refine gate_dst (N := 1) rfl ?_); refine hx_box rfl 1 rfl 31 (.tmp 0) rfl Sz0 (.agg (nums .i64 a0).toArray) (nums .i64 a0).toArray rfl rfl ?_; intro w1 s1 L1 Sz1 b1 g_; have H0 := Aside0.mk g_; have HB1 := Aside0.mk (below_then HB0.out HB0.out.size b1); clear g_ HB0 b1; have c0_ := row_cell H0.out 0 (lt_len (n := 15) N_.out (by decide)); rw [← HS.out] at c0_) | (go_at_call 76; refine (impl_within.calls s 0 262144 false _ HW.out).mono ?_; rintro e_ w_ ⟨rfl, ⟨nd, rfl⟩⟩))
    go_ret
    refine ⟨?_, pw_below_drewN HB1.out _⟩
    have e_ : rootGood a0 = false := by
      by_cases c2 : a0.getD 0 0 < 0
      · exact rootGood_low c2
      · exact rootGood_high (by have := C1.out; rw [HS.out] at this; omega)
    rw [← H.out, e_]; rfl
  have HW := Aside0.mk ((impl_Root_right.within s 0 262144).trans (by rw [decide_eq_true c1]))
  have W1 : 0 ≤ s := c1.1
  have W2 : s ≤ 262144 := c1.2
  clear c1
  obtain ⟨bb, hbb⟩ : ∃ b, b = (s + 511) / 512 := ⟨_, rfl⟩
  have HC := Aside0.mk (show impl_count.f s = some bb by rw [hbb]; exact impl_Root_right.count s W1 W2)
  have HBB := Aside0.mk hbb
  have hbb1 : 0 ≤ bb := by omega
  have hbb2 : bb ≤ 1000 := by omega
  clear hbb
  go_enter Tryd.func78, Tryd.ntmps78
  go_wp2_with (first | ((with_reducible refine gate_dst (N := 1) rfl ?_); refine hx_box rfl 1 rfl 31 (.tmp 0) rfl Sz0 (.agg (nums .i64 a0).toArray) (nums .i64 a0).toArray rfl rfl ?_; intro w1 s1 L1 Sz1 b1 g_; have H0 := Aside0.mk g_; have HB1 := Aside0.mk (below_then HB0.out HB0.out.size b1); clear g_ HB0 b1; have c0_ := row_cell H0.out 0 (lt_len (n := 15) N_.out (by decide)); rw [← HS.out] at c0_) | (go_at_call 76; refine (impl_within.calls s 0 262144 true _ HW.out).mono ?_; rintro e_ w_ ⟨rfl, ⟨nd, rfl⟩⟩) | ((with_reducible refine gate_dst (N := 12) rfl ?_); refine hx_load rfl 31 (.tmp 1) rfl s0 15 rfl Tryd.underlying31 rfl (by kernel_rfl) (blk_drewN H0.out _) (nums_size _ _ _ N_.out) ?_) | ((with_reducible refine gate_dst (N := 13) rfl ?_); refine goesL_ (some 13) rfl rfl Tryd.func80 (by kernel_rfl) rfl #[.agg (nums .i64 a0).toArray] rfl (by (try simp only [List.map_toArray, List.map_cons, List.map_nil]); first | done | rfl) ?_; refine (impl_Root_pointers.calls a0 N_.out xs _ HP.out).mono ?_; rintro e_ w3 ⟨v0_, rfl, R_, b_⟩; obtain ⟨A21, c21, rfl⟩ := Kd.R_slice R_; refine ⟨_, rfl, ?_⟩; have O := Aside0.mk R_; have HB := Aside0.mk (below_then (pw_below_drewN HB1.out _) (pw_below_drewN HB1.out _).size b_); have H3 := Aside0.mk (blk_below (blk_drewN H0.out _) b_); clear R_ b_ HB1 H0 c0_))
  (try simp only [Act.put, List.setIfInBounds_toArray, List.set_cons_succ, List.set_cons_zero])
  go_loopw [15] (fun v15 wr => ∃ j : Nat, v15 = .int .i64 (j : Int) ∧ Aside0 (j ≤ 14) ∧ Aside0 (∀ i, i < j → ptrOk ((seg a0 1 14).getD i 0) = true) ∧ Drawn0 w3 wr) (fun v15 _ => 14 - (intOf v15).toNat)
  case atStart => exact ⟨0, rfl, ⟨by omega⟩, ⟨fun i hi => absurd hi (Nat.not_lt_zero i)⟩, Drawn0.refl _⟩
  case round =>
    obtain ⟨j, rfl, hj, hall, ⟨m2, rfl⟩⟩ := hrel
    by_cases c9 : j < 14
    · have c9b0 : decide ((j : Int) < (xs.length : Int)) = true := decide_eq_true (by rw [HXL.out]; omega)
      have c9b1 : decide (j < xs.length) = true := decide_eq_true (by rw [HXL.out]; omega)
      have p112 : 0 ≤ (j : Int) := by omega
      have q112 : (j : Int) < (xs.length : Int) := by rw [HXL.out]; omega
      obtain ⟨ad112, e112, hx112⟩ := Kd.at_int (Kd.C_drewN (Kd.R_reads' O.out).2.2 m2) (j : Int) p112 q112
      cases e112
      rw [Int.toNat_natCast] at hx112
      replace p112 := eq_true p112
      replace q112 := eq_true q112
      have q113 : (j < xs.length) = True := eq_true (by rw [HXL.out]; omega)
      obtain ⟨p, hp⟩ : ∃ p, p = rd xs (j : Int) := ⟨_, rfl⟩
      rw [← hp] at hx112
      have HPV := Aside0.mk (show p = (seg a0 1 14).getD j 0 by rw [hp, HXS.out, rd, Int.toNat_natCast])
      have C9 := Aside0.mk c9
      clear hp c9
      by_cases cq : ptrOk p = true
      · have HQ := Aside0.mk ((impl_Root_right.ptr p).trans (by rw [cq]))
        have CQ := Aside0.mk (show ptrOk ((seg a0 1 14).getD j 0) = true by rw [← HPV.out]; exact cq)
        clear cq
        go_wp2_with (first | (go_at_call 87; refine (impl_isPointer.calls p 2048 true _ HQ.out).mono ?_; rintro e_ w_ ⟨rfl, ⟨nd, rfl⟩⟩))
        go_roundw
        case rel =>
          refine ⟨j + 1, by rw [show wrap64 ((j : Int) + 1) = ((j + 1 : Nat) : Int) by (have := C9.out; unfold wrap64; omega)], ⟨by have := C9.out; omega⟩, ⟨fun i hi => ?_⟩, by repeat (first | exact Drawn0.refl _ | apply Drawn0.step)⟩
          by_cases hij : i = j
          · subst hij; exact CQ.out
          · exact hall.out i (by omega)
        case measure =>
          rw [show wrap64 ((j : Int) + 1) = ((j + 1 : Nat) : Int) by (have := C9.out; unfold wrap64; omega)]
          simp only [intOf, Int.toNat_natCast]
          have := C9.out
          omega
      · have cq2 : ptrOk p = false := by simpa using cq
        have HQ := Aside0.mk ((impl_Root_right.ptr p).trans (by rw [cq2]))
        have CQ := Aside0.mk cq2
        clear cq cq2
        go_wp2_with (first | (go_at_call 87; refine (impl_isPointer.calls p 2048 false _ HQ.out).mono ?_; rintro e_ w_ ⟨rfl, ⟨nd, rfl⟩⟩))
        go_ret
        refine ⟨?_, by first | exact pw_below_drewN HB.out _ | exact pw_below_drewN (pw_below_drewN HB.out _) _⟩
        have e_ : rootGood a0 = false := rootGood_bad j (by have := C9.out; omega) (by rw [ptrFits, ← HPV.out, CQ.out]; rfl)
        rw [← H.out, e_]; rfl
    · obtain rfl : j = 14 := by have := hj.out; omega
      have c9b0 : decide ((14 : Int) < (xs.length : Int)) = false := decide_eq_false (by rw [HXL.out]; decide)
      have c9b1 : decide (14 < xs.length) = false := decide_eq_false (by rw [HXL.out]; decide)
      have hp := hall
      have c0_ := row_cell (blk_drewN H3.out m2) 0 (lt_len (n := 15) N_.out (by decide))
      rw [← HS.out] at c0_
      clear hall hj
      go_wp2_with (first | (go_at_call 95; refine (impl_count.calls s bb _ HC.out).mono ?_; rintro e_ w_ ⟨rfl, ⟨nd, rfl⟩⟩) | ((with_reducible refine gate_dst (N := 27) rfl ?_); refine hx_loadp rfl 22 (.tmp 26) rfl s0 1 12 rfl Tryd.underlying22 rfl (by kernel_rfl) (blk_drewN H3.out _) (le_len (n := 15) N_.out (by decide)) ?_))
      (try simp only [Act.put, List.setIfInBounds_toArray, List.set_cons_succ, List.set_cons_zero])
      go_loopw [28] (fun v28 wr => ∃ j : Nat, v28 = .int .i64 (j : Int) ∧ Aside0 (j ≤ 12) ∧ Aside0 (∀ i, i < j → (seg a0 1 14).getD i 0 = 0 ∨ (i : Int) < (a0.getD 0 0 + 511) / 512) ∧ Drawn0 w3 wr) (fun v28 _ => 12 - (intOf v28).toNat)
      case atStart => exact ⟨0, rfl, ⟨by omega⟩, ⟨fun i hi => absurd hi (Nat.not_lt_zero i)⟩, by repeat (first | exact Drawn0.refl _ | apply Drawn0.step)⟩
      case round =>
        clear c0_ c9b0 c9b1 c9
        obtain ⟨j, rfl, hj, hall, ⟨m3, rfl⟩⟩ := hrel
        by_cases c9 : j < 12
        · have c9b0 : decide ((j : Int) < 12) = true := decide_eq_true (by omega)
          have c9b1 : decide (j < 12) = true := decide_eq_true c9
          obtain ⟨p, hp2⟩ : ∃ p, p = (seg a0 1 12).getD j 0 := ⟨_, rfl⟩
          have HPV := Aside0.mk hp2
          have HPV2 := Aside0.mk (show p = (seg a0 1 14).getD j 0 by rw [hp2, seg_getD _ _ _ _ c9, seg_getD _ _ _ _ (by omega)])
          have C9 := Aside0.mk c9
          clear hp2 c9
          by_cases cb : bb ≤ (j : Int)
          case neg =>
            have cb_ : decide (bb ≤ (j : Int)) = false := decide_eq_false cb
            have CB := Aside0.mk cb
            clear cb
            go_wp2_with (first | ((with_reducible refine gate_dst (N := 31) rfl ?_); refine hx_index rfl 22 3 12 (.tmp 27) (.tmp 28) rfl (seg a0 1 12) j _ rfl rfl Tryd.underlying22 Tryd.underlying3 rfl (by kernel_rfl) (part_len (n := 15) N_.out (by decide)) C9.out ?_; rw [← HPV.out]))
            go_roundw
            case rel =>
              refine ⟨j + 1, by rw [show wrap64 ((j : Int) + 1) = ((j + 1 : Nat) : Int) by (have := C9.out; unfold wrap64; omega)], ⟨by have := C9.out; omega⟩, ⟨fun i hi => ?_⟩, by repeat (first | exact Drawn0.refl _ | apply Drawn0.step)⟩
              by_cases hij : i = j
              · subst hij; exact by rw [← HPV2.out]; exact .inr (by rw [← HS.out]; have := HBB.out; have := CB.out; omega)
              · exact hall.out i (by omega)
            case measure =>
              rw [show wrap64 ((j : Int) + 1) = ((j + 1 : Nat) : Int) by (have := C9.out; unfold wrap64; omega)]
              simp only [intOf, Int.toNat_natCast]
              have := C9.out
              omega
          case pos =>
            have cb_ : decide (bb ≤ (j : Int)) = true := decide_eq_true cb
            have CB := Aside0.mk cb
            clear cb
            by_cases cz : p = 0
            · have cz_ : (p != 0) = false := bne_eq_false_iff_eq.mpr cz
              have CZ := Aside0.mk cz
              clear cz
              go_wp2_with (first | ((with_reducible refine gate_dst (N := 31) rfl ?_); refine hx_index rfl 22 3 12 (.tmp 27) (.tmp 28) rfl (seg a0 1 12) j _ rfl rfl Tryd.underlying22 Tryd.underlying3 rfl (by kernel_rfl) (part_len (n := 15) N_.out (by decide)) C9.out ?_; rw [← HPV.out]))
              go_roundw
              case rel =>
                refine ⟨j + 1, by rw [show wrap64 ((j : Int) + 1) = ((j + 1 : Nat) : Int) by (have := C9.out; unfold wrap64; omega)], ⟨by have := C9.out; omega⟩, ⟨fun i hi => ?_⟩, by repeat (first | exact Drawn0.refl _ | apply Drawn0.step)⟩
                by_cases hij : i = j
                · subst hij; exact by rw [← HPV2.out]; exact .inl CZ.out
                · exact hall.out i (by omega)
              case measure =>
                rw [show wrap64 ((j : Int) + 1) = ((j + 1 : Nat) : Int) by (have := C9.out; unfold wrap64; omega)]
                simp only [intOf, Int.toNat_natCast]
                have := C9.out
                omega
            · have cz_ : (p != 0) = true := bne_iff_ne.mpr cz
              have CZ := Aside0.mk cz
              clear cz
              go_wp2_with (first | ((with_reducible refine gate_dst (N := 31) rfl ?_); refine hx_index rfl 22 3 12 (.tmp 27) (.tmp 28) rfl (seg a0 1 12) j _ rfl rfl Tryd.underlying22 Tryd.underlying3 rfl (by kernel_rfl) (part_len (n := 15) N_.out (by decide)) C9.out ?_; rw [← HPV.out]))
              go_ret
              refine ⟨?_, by first | exact pw_below_drewN HB.out _ | exact pw_below_drewN (pw_below_drewN HB.out _) _⟩
              have e_ : rootGood a0 = false := rootGood_dir j C9.out (by rw [← HPV2.out]; exact CZ.out) (by rw [← HS.out]; have := HBB.out; have := CB.out; omega)
              rw [← H.out, e_]; rfl
        · obtain rfl : j = 12 := by have := hj.out; omega
          have c13_ := row_cell (blk_drewN H3.out m3) 13 (lt_len (n := 15) N_.out (by decide))
          have c14_ := row_cell (blk_drewN H3.out m3) 14 (lt_len (n := 15) N_.out (by decide))
          rw [← HX13.out] at c13_
          rw [← HX14.out] at c14_
          by_cases d1 : 12 < bb
          · have d1_ : decide (12 < bb) = true := decide_eq_true d1
            have D1 := Aside0.mk d1
            clear d1
            by_cases d3 : 140 < bb
            · have d3_ : decide (140 < bb) = true := decide_eq_true d3
              have D3 := Aside0.mk d3
              clear d3
              go_wp2
              go_ret
              refine ⟨?_, by first | exact pw_below_drewN HB.out _ | exact pw_below_drewN (pw_below_drewN HB.out _) _⟩
              have e_ : rootGood a0 = true := rootGood_end (by rw [← HS.out]; exact W1) (by rw [← HS.out]; exact W2) hp.out hall.out (.inr (by rw [← HS.out]; have := HBB.out; have := D1.out; omega)) (.inr (by rw [← HS.out]; have := HBB.out; have := D3.out; omega))
              rw [← H.out, e_]; rfl
            · have d3_ : decide (140 < bb) = false := decide_eq_false d3
              have D3 := Aside0.mk d3
              clear d3
              by_cases d4 : x14 = 0
              · have d4_ : (x14 == 0) = true := beq_iff_eq.mpr d4
                have D4 := Aside0.mk d4
                clear d4
                go_wp2
                go_ret
                refine ⟨?_, by first | exact pw_below_drewN HB.out _ | exact pw_below_drewN (pw_below_drewN HB.out _) _⟩
                have e_ : rootGood a0 = true := rootGood_end (by rw [← HS.out]; exact W1) (by rw [← HS.out]; exact W2) hp.out hall.out (.inr (by rw [← HS.out]; have := HBB.out; have := D1.out; omega)) (.inl (by rw [← HX14.out]; exact D4.out))
                rw [← H.out, e_]; rfl
              · have d4_ : (x14 == 0) = false := beq_eq_false_iff_ne.mpr d4
                have D4 := Aside0.mk d4
                clear d4
                go_wp2
                go_ret
                refine ⟨?_, by first | exact pw_below_drewN HB.out _ | exact pw_below_drewN (pw_below_drewN HB.out _) _⟩
                have e_ : rootGood a0 = false := rootGood_13 (by rw [← HX14.out]; exact D4.out) (by rw [← HS.out]; have := HBB.out; have := D3.out; omega)
                rw [← H.out, e_]; rfl
          · have d1_ : decide (12 < bb) = false := decide_eq_false d1
            have D1 := Aside0.mk d1
            clear d1
            by_cases d2 : x13 = 0
            · have d2_ : (x13 == 0) = true := beq_iff_eq.mpr d2
              have D2 := Aside0.mk d2
              clear d2
              by_cases d3 : 140 < bb
              · have d3_ : decide (140 < bb) = true := decide_eq_true d3
                have D3 := Aside0.mk d3
                clear d3
                go_wp2
                go_ret
                refine ⟨?_, by first | exact pw_below_drewN HB.out _ | exact pw_below_drewN (pw_below_drewN HB.out _) _⟩
                have e_ : rootGood a0 = true := rootGood_end (by rw [← HS.out]; exact W1) (by rw [← HS.out]; exact W2) hp.out hall.out (.inl (by rw [← HX13.out]; exact D2.out)) (.inr (by rw [← HS.out]; have := HBB.out; have := D3.out; omega))
                rw [← H.out, e_]; rfl
              · have d3_ : decide (140 < bb) = false := decide_eq_false d3
                have D3 := Aside0.mk d3
                clear d3
                by_cases d4 : x14 = 0
                · have d4_ : (x14 == 0) = true := beq_iff_eq.mpr d4
                  have D4 := Aside0.mk d4
                  clear d4
                  go_wp2
                  go_ret
                  refine ⟨?_, by first | exact pw_below_drewN HB.out _ | exact pw_below_drewN (pw_below_drewN HB.out _) _⟩
                  have e_ : rootGood a0 = true := rootGood_end (by rw [← HS.out]; exact W1) (by rw [← HS.out]; exact W2) hp.out hall.out (.inl (by rw [← HX13.out]; exact D2.out)) (.inl (by rw [← HX14.out]; exact D4.out))
                  rw [← H.out, e_]; rfl
                · have d4_ : (x14 == 0) = false := beq_eq_false_iff_ne.mpr d4
                  have D4 := Aside0.mk d4
                  clear d4
                  go_wp2
                  go_ret
                  refine ⟨?_, by first | exact pw_below_drewN HB.out _ | exact pw_below_drewN (pw_below_drewN HB.out _) _⟩
                  have e_ : rootGood a0 = false := rootGood_13 (by rw [← HX14.out]; exact D4.out) (by rw [← HS.out]; have := HBB.out; have := D3.out; omega)
                  rw [← H.out, e_]; rfl
            · have d2_ : (x13 == 0) = false := beq_eq_false_iff_ne.mpr d2
              have D2 := Aside0.mk d2
              clear d2
              go_wp2
              go_ret
              refine ⟨?_, by first | exact pw_below_drewN HB.out _ | exact pw_below_drewN (pw_below_drewN HB.out _) _⟩
              have e_ : rootGood a0 = false := rootGood_12 (by rw [← HX13.out]; exact D2.out) (by rw [← HS.out]; have := HBB.out; have := D1.out; omega)
              rw [← H.out, e_]; rfl

/-! ### impl_tableSize: function 79 -/
def impl_tableSize.f (a0 : Int) : Option (Bool) := if a0 ≥ 256 then (if (Int.tmod a0 128) = 0 then (some (decide (a0 ≤ 128128))) else (some false)) else (some false)
set_option maxHeartbeats 8000000 in
set_option maxRecDepth 100000 in
theorem impl_tableSize.calls (a0 : Int) (r : Bool) (w : World) (h : impl_tableSize.f a0 = some r) :
    Calls Tryd.prog 79 #[.int .i64 a0] w fun e w' => e = .returned (.bool r) ∧ Drawn0 w w' := by
  have H : (if a0 ≥ 256 then (if (Int.tmod a0 128) = 0 then (some (decide (a0 ≤ 128128))) else (some false)) else (some false)) = some r := h
  clear h
  by_cases c2 : a0 ≥ 256
  · rw [if_pos c2] at H
    have c2b0 : decide (256 ≤ a0) = true := decide_eq_true c2
    clear c2
    by_cases c3 : (Int.tmod a0 128) = 0
    · rw [if_pos c3] at H
      have c3b0 : ((Int.tmod a0 128) == 0) = true := beq_iff_eq.mpr c3
      have c3b1 : ((Int.tmod a0 128) != 0) = false := bne_eq_false_iff_eq.mpr c3
      clear c3
      obtain rfl := Option.some.inj H
      go_enter Tryd.func79, Tryd.ntmps79
      go_wp2
      go_ret
      exact ⟨by first | rfl | (simp; done) | (simp [*]; done), by repeat (first | exact Drawn0.refl _ | apply Drawn0.step)⟩
    · rw [if_neg c3] at H
      have c3b0 : ((Int.tmod a0 128) == 0) = false := beq_eq_false_iff_ne.mpr c3
      have c3b1 : ((Int.tmod a0 128) != 0) = true := bne_iff_ne.mpr c3
      obtain rfl := Option.some.inj H
      go_enter Tryd.func79, Tryd.ntmps79
      go_wp2
      go_ret
      exact ⟨by first | rfl | (simp; done) | (simp [*]; done), by repeat (first | exact Drawn0.refl _ | apply Drawn0.step)⟩
  · rw [if_neg c2] at H
    have c2b0 : decide (256 ≤ a0) = false := decide_eq_false c2
    clear c2
    obtain rfl := Option.some.inj H
    go_enter Tryd.func79, Tryd.ntmps79
    go_wp2
    go_ret
    exact ⟨by first | rfl | (simp; done) | (simp [*]; done), by repeat (first | exact Drawn0.refl _ | apply Drawn0.step)⟩

open Go.Proofs.YtkghgjehjchajaaDoorW Go.Proofs.YtkghgjehjchajaaDoorW.PrintHand Go.Proofs.YtkghgjehjchajaaDoorW.PrintHx
/-! ### impl_Fsinfo_right: function 58 -/
open Go.Proofs.YtkghgjehjchajaaDoorW.PrintLe Go.Proofs.YtkghgjehjchajaaDoorW.PrintGrow Go.Proofs.YtkghgjehjchajaaDoorW.PrintIno Go.Proofs.YtkghgjehjchajaaDoorW.PrintTab2 Go.Proofs.YtkghgjehjchajaaDoorW.PrintTab3 Go.Proofs.YtkghgjehjchajaaDoorW.PrintFsi Go.Proofs.YtkghgjehjchajaaDoorW.PrintOrd
def impl_Fsinfo_right.f (a0 : List Int) : Option Bool := some (fsGood a0)
theorem impl_Fsinfo_right.win (x lo hi : Int) : impl_within.f x lo hi = some (rng x lo hi) := within_i x lo hi
theorem impl_Fsinfo_right.tsz (x : Int) : impl_tableSize.f x = some (sizeI x) := size_i x
theorem path_in {P : Program} {ops : Array Oper} {Q : Exit → Act → World → Prop} {md : Region.Mode} {b : Array Bool} {a : Act} {w : World} (T : List Nat) (hT : (T.map fun t => ops[t]?) = (T.filterMap fun t => ops[t]?).map some) (hB : pathB md ops T b = true) (h : wpList P ops Q (T.filterMap fun t => ops[t]?) a w) : wpAny P md ops Q T.length b a w := wpAny_of_path T _ b a w hT hB h
theorem run_ld {P : Program} {o : Oper} {a : Act} {w : World} (ty : TypeId) (x : Operand) (ho : o.op = .load ty x) (ad : Addr) (hx : a.eval x = .pointer (some ad)) (v : Value) (h : (loadVar ty ad).run P w = .ok v w) : (execOp a.eval o).run P w = .ok (.value v) w := by
  unfold execOp
  simp only [ho, hx, Instr.loadAt, Instr.sureAddr, Sem.run_bind, Sem.run_pure, Result.andThen_ok, h]
theorem impl_Fsinfo_right.ptr (p n : Int) (h : 64 ≤ n ∧ n ≤ 2048) : impl_isPointer.f p n = some (fsPtr n p) := by
  unfold impl_isPointer.f
  rw [show impl_within.f p 2 (wrap64 (n - 1)) = some (rng p 2 (wrap64 (n - 1))) from within_i _ _ _]
  exact ptr_j p n h
set_option maxHeartbeats 8000000 in
set_option maxRecDepth 100000 in
theorem impl_Fsinfo_right.calls (a0 : List Int) (n0 : a0.length = 68) (r : Bool) (w : World) (h : impl_Fsinfo_right.f a0 = some r) :
    Calls Tryd.prog 58 #[.agg (nums .i64 a0).toArray] w fun e w' => e = .returned (.bool r) ∧ Below w.heap.size w w' := by
  have H := Aside0.mk (Option.some.inj h)
  have N_ := Aside0.mk n0
  clear n0 h
  obtain ⟨x0, hx0⟩ : ∃ x, x = a0.getD 0 0 := ⟨_, rfl⟩
  obtain ⟨x1, hx1⟩ : ∃ x, x = a0.getD 1 0 := ⟨_, rfl⟩
  obtain ⟨x2, hx2⟩ : ∃ x, x = a0.getD 2 0 := ⟨_, rfl⟩
  obtain ⟨x3, hx3⟩ : ∃ x, x = a0.getD 3 0 := ⟨_, rfl⟩
  obtain ⟨x4, hx4⟩ : ∃ x, x = a0.getD 4 0 := ⟨_, rfl⟩
  obtain ⟨x5, hx5⟩ : ∃ x, x = a0.getD 5 0 := ⟨_, rfl⟩
  obtain ⟨x6, hx6⟩ : ∃ x, x = a0.getD 6 0 := ⟨_, rfl⟩
  obtain ⟨yi, hyi⟩ : ∃ x, x = a0.getD 7 0 := ⟨_, rfl⟩
  obtain ⟨ym, hym⟩ : ∃ x, x = a0.getD 22 0 := ⟨_, rfl⟩
  obtain ⟨xi, hxi⟩ : ∃ x, x = seg a0 7 15 := ⟨_, rfl⟩
  obtain ⟨xm, hxm⟩ : ∃ x, x = seg a0 22 15 := ⟨_, rfl⟩
  have NXI := Aside0.mk (show xi.length = 15 by rw [hxi]; exact part_len N_.out (by decide))
  have NXM := Aside0.mk (show xm.length = 15 by rw [hxm]; exact part_len N_.out (by decide))
  obtain ⟨pl, hpl⟩ : ∃ p, p = fsPtrs a0 := ⟨_, rfl⟩
  have NPL := Aside0.mk (show pl.length = 59 by rw [hpl]; exact fsPtrs_length N_.out)
  have HPL := Aside0.mk (show pl = (seg xi 1 14 ++ seg xm 1 14) ++ seg a0 37 31 by rw [hpl, hxi, hxm]; rfl)
  obtain ⟨b0, hb0⟩ : ∃ b, b = rng x0 1 1099511627776 := ⟨_, rfl⟩
  have Wb0 := Aside0.mk (show impl_within.f x0 1 1099511627776 = some b0 by rw [hb0]; exact impl_Fsinfo_right.win _ _ _)
  obtain ⟨b1, hb1⟩ : ∃ b, b = rng x3 1 1099511627776 := ⟨_, rfl⟩
  have Wb1 := Aside0.mk (show impl_within.f x3 1 1099511627776 = some b1 by rw [hb1]; exact impl_Fsinfo_right.win _ _ _)
  obtain ⟨b2, hb2⟩ : ∃ b, b = rng x4 0 1099511627776 := ⟨_, rfl⟩
  have Wb2 := Aside0.mk (show impl_within.f x4 0 1099511627776 = some b2 by rw [hb2]; exact impl_Fsinfo_right.win _ _ _)
  obtain ⟨b3, hb3⟩ : ∃ b, b = rng x1 64 2048 := ⟨_, rfl⟩
  have Wb3 := Aside0.mk (show impl_within.f x1 64 2048 = some b3 by rw [hb3]; exact impl_Fsinfo_right.win _ _ _)
  obtain ⟨b4, hb4⟩ : ∃ b, b = rng x2 2 (wrap64 (x1 - 1)) := ⟨_, rfl⟩
  have Wb4 := Aside0.mk (show impl_within.f x2 2 (wrap64 (x1 - 1)) = some b4 by rw [hb4]; exact impl_Fsinfo_right.win _ _ _)
  obtain ⟨b5, hb5⟩ : ∃ b, b = rng x5 0 1000 := ⟨_, rfl⟩
  have Wb5 := Aside0.mk (show impl_within.f x5 0 1000 = some b5 by rw [hb5]; exact impl_Fsinfo_right.win _ _ _)
  obtain ⟨b6, hb6⟩ : ∃ b, b = rng x6 8192 65536 := ⟨_, rfl⟩
  have Wb6 := Aside0.mk (show impl_within.f x6 8192 65536 = some b6 by rw [hb6]; exact impl_Fsinfo_right.win _ _ _)
  obtain ⟨b7, hb7⟩ : ∃ b, b = rootGood xi := ⟨_, rfl⟩
  have Wb7 := Aside0.mk (show impl_Root_right.f xi = some b7 by rw [hb7]; rfl)
  obtain ⟨b8, hb8⟩ : ∃ b, b = rootGood xm := ⟨_, rfl⟩
  have Wb8 := Aside0.mk (show impl_Root_right.f xm = some b8 by rw [hb8]; rfl)
  obtain ⟨b9, hb9⟩ : ∃ b, b = sizeI yi := ⟨_, rfl⟩
  have Wb9 := Aside0.mk (show impl_tableSize.f yi = some b9 by rw [hb9]; exact impl_Fsinfo_right.tsz _)
  obtain ⟨bz, hbz⟩ : ∃ b, b = (x6 != 0) := ⟨_, rfl⟩
  obtain ⟨bm, hbm⟩ : ∃ b, b = (ym != wrap64 (4 * x1)) := ⟨_, rfl⟩
  have WZ := Aside0.mk hbz.symm
  have WM := Aside0.mk hbm.symm
  have HR3 := Aside0.mk (show b3 = true → 64 ≤ x1 ∧ x1 ≤ 2048 from fun e_ => rng_of (hb3.symm.trans e_))
  have HIN := Aside0.mk (show fsGood a0 = (b0 && (b1 && (b2 && (b3 && (b4 && (b5 && ((!bz || b6) && (b7 && (b8 && (!bm && (b9 && pl.all (fsPtr x1)))))))))))) by
    rw [hb7, hb8, hpl, ← fsTop_w x0 x1 x2 x3 x4 x5 x6 yi ym (rootGood xi) (rootGood xm) ((fsPtrs a0).all (fsPtr x1)) b0 b1 b2 b3 b4 b5 bz b6 bm b9 hb0.symm hb1.symm hb2.symm hb3.symm hb4.symm hb5.symm hbz.symm hb6.symm hbm.symm hb9.symm, hx0, hx1, hx2, hx3, hx4, hx5, hx6, hyi, hym, hxi, hxm]
    rfl)
  have Xx0 := Aside0.mk hx0
  have Xx1 := Aside0.mk hx1
  have Xx2 := Aside0.mk hx2
  have Xx3 := Aside0.mk hx3
  have Xx4 := Aside0.mk hx4
  have Xx5 := Aside0.mk hx5
  have Xx6 := Aside0.mk hx6
  have Xyi := Aside0.mk hyi
  have Xym := Aside0.mk hym
  have XI := Aside0.mk hxi
  have XM := Aside0.mk hxm
  clear hxi hxm hpl hx0 hx1 hx2 hx3 hx4 hx5 hx6 hyi hym hb0 hb1 hb2 hb3 hb4 hb5 hb6 hb7 hb8 hb9 hbz hbm
  have HB0 : Aside0 (Below w.heap.size w w) := ⟨Below.refl _ _⟩
  obtain ⟨s0, Sz0⟩ : ∃ s0, Aside0 (w.heap.size = s0) := ⟨_, ⟨rfl⟩⟩
  have hw0 : w.heap.size ≤ s0 := Nat.le_of_eq Sz0.out
  have hw1 : s0 ≤ w.heap.size := Nat.le_of_eq Sz0.out.symm
  have HBP := Aside0.mk (show seg xi 1 14 = seg xi 1 14 from rfl)
  clear HBP
  go_enter Tryd.func58, Tryd.ntmps58
  go_wp2_with (first | ((with_reducible refine gate_dst (N := 1) rfl ?_); refine hx_box rfl 1 rfl 48 (.tmp 0) rfl Sz0 (.agg (nums .i64 a0).toArray) (nums .i64 a0).toArray rfl rfl ?_; intro w1 s1 L1 Sz1 b1_ g_; have H1 := Aside0.mk g_; have HB := Aside0.mk (below_then HB0.out HB0.out.size b1_); clear g_ HB0 b1_) | ((with_reducible refine gate_dst (N := 6) rfl ?_); refine hx_loadf rfl 3 (.tmp 5) rfl s0 0 rfl Tryd.underlying3 rfl H1.out (lt_len (n := 68) N_.out (by decide)) ?_; rw [← Xx0.out]) | ((with_reducible refine gate_dst (N := 7) rfl ?_); refine goesL_ (some 7) rfl rfl Tryd.func76 (by kernel_rfl) rfl #[.int .i64 x0, .int .i64 1, .int .i64 1099511627776] rfl (by (try simp only [List.map_toArray, List.map_cons, List.map_nil]); first | done | rfl) ?_; refine (impl_within.calls x0 1 1099511627776 b0 _ Wb0.out).mono ?_; rintro e_ w_ ⟨rfl, d_⟩; have b_ := kept_drawn d_; refine ⟨_, rfl, ?_⟩; have Hn := Aside0.mk (blk_below H1.out b_); have HBn := Aside0.mk (below_then HB.out HB.out.size b_); clear b_ d_ H1 HB; have H1 := Hn; have HB := HBn; clear Hn HBn; cases b0) | ((with_reducible refine gate_dst (N := 11) rfl ?_); refine Go.Proofs.YtkghgjehjchajaaDoorW.PrintTab2.ungd (by rfl) ?_; refine hx_loadf rfl 3 (.tmp 10) rfl s0 3 rfl Tryd.underlying3 rfl H1.out (lt_len (n := 68) N_.out (by decide)) ?_; rw [← Xx3.out]) | ((with_reducible refine gate_dst (N := 12) rfl ?_); refine Go.Proofs.YtkghgjehjchajaaDoorW.PrintTab2.ungd (by rfl) ?_; refine goesL_ (some 12) rfl rfl Tryd.func76 (by kernel_rfl) rfl #[.int .i64 x3, .int .i64 1, .int .i64 1099511627776] rfl (by (try simp only [List.map_toArray, List.map_cons, List.map_nil]); first | done | rfl) ?_; refine (impl_within.calls x3 1 1099511627776 b1 _ Wb1.out).mono ?_; rintro e_ w_ ⟨rfl, d_⟩; have b_ := kept_drawn d_; refine ⟨_, rfl, ?_⟩; have Hn := Aside0.mk (blk_below H1.out b_); have HBn := Aside0.mk (below_then HB.out HB.out.size b_); clear b_ d_ H1 HB; have H1 := Hn; have HB := HBn; clear Hn HBn; cases b1) | ((with_reducible refine gate_dst (N := 17) rfl ?_); refine Go.Proofs.YtkghgjehjchajaaDoorW.PrintTab2.ungd (by rfl) ?_; refine hx_loadf rfl 3 (.tmp 16) rfl s0 4 rfl Tryd.underlying3 rfl H1.out (lt_len (n := 68) N_.out (by decide)) ?_; rw [← Xx4.out]) | ((with_reducible refine gate_dst (N := 18) rfl ?_); refine Go.Proofs.YtkghgjehjchajaaDoorW.PrintTab2.ungd (by rfl) ?_; refine goesL_ (some 18) rfl rfl Tryd.func76 (by kernel_rfl) rfl #[.int .i64 x4, .int .i64 0, .int .i64 1099511627776] rfl (by (try simp only [List.map_toArray, List.map_cons, List.map_nil]); first | done | rfl) ?_; refine (impl_within.calls x4 0 1099511627776 b2 _ Wb2.out).mono ?_; rintro e_ w_ ⟨rfl, d_⟩; have b_ := kept_drawn d_; refine ⟨_, rfl, ?_⟩; have Hn := Aside0.mk (blk_below H1.out b_); have HBn := Aside0.mk (below_then HB.out HB.out.size b_); clear b_ d_ H1 HB; have H1 := Hn; have HB := HBn; clear Hn HBn; cases b2) | ((with_reducible refine gate_dst (N := 23) rfl ?_); refine Go.Proofs.YtkghgjehjchajaaDoorW.PrintTab2.ungd (by rfl) ?_; refine hx_loadf rfl 3 (.tmp 22) rfl s0 1 rfl Tryd.underlying3 rfl H1.out (lt_len (n := 68) N_.out (by decide)) ?_; rw [← Xx1.out]) | ((with_reducible refine gate_dst (N := 24) rfl ?_); refine Go.Proofs.YtkghgjehjchajaaDoorW.PrintTab2.ungd (by rfl) ?_; refine goesL_ (some 24) rfl rfl Tryd.func76 (by kernel_rfl) rfl #[.int .i64 x1, .int .i64 64, .int .i64 2048] rfl (by (try simp only [List.map_toArray, List.map_cons, List.map_nil]); first | done | rfl) ?_; refine (impl_within.calls x1 64 2048 b3 _ Wb3.out).mono ?_; rintro e_ w_ ⟨rfl, d_⟩; have b_ := kept_drawn d_; refine ⟨_, rfl, ?_⟩; have Hn := Aside0.mk (blk_below H1.out b_); have HBn := Aside0.mk (below_then HB.out HB.out.size b_); clear b_ d_ H1 HB; have H1 := Hn; have HB := HBn; clear Hn HBn; cases b3) | ((with_reducible refine gate_dst (N := 29) rfl ?_); refine Go.Proofs.YtkghgjehjchajaaDoorW.PrintTab2.ungd (by rfl) ?_; refine hx_loadf rfl 3 (.tmp 28) rfl s0 2 rfl Tryd.underlying3 rfl H1.out (lt_len (n := 68) N_.out (by decide)) ?_; rw [← Xx2.out]) | ((with_reducible refine gate_dst (N := 31) rfl ?_); refine Go.Proofs.YtkghgjehjchajaaDoorW.PrintTab2.ungd (by rfl) ?_; refine hx_loadf rfl 3 (.tmp 30) rfl s0 1 rfl Tryd.underlying3 rfl H1.out (lt_len (n := 68) N_.out (by decide)) ?_; rw [← Xx1.out]) | ((with_reducible refine gate_dst (N := 33) rfl ?_); refine Go.Proofs.YtkghgjehjchajaaDoorW.PrintTab2.ungd (by rfl) ?_; refine goesL_ (some 33) rfl rfl Tryd.func76 (by kernel_rfl) rfl #[.int .i64 x2, .int .i64 2, .int .i64 (wrap64 (x1 - 1))] rfl (by (try simp only [List.map_toArray, List.map_cons, List.map_nil]); first | done | rfl) ?_; refine (impl_within.calls x2 2 (wrap64 (x1 - 1)) b4 _ Wb4.out).mono ?_; rintro e_ w_ ⟨rfl, d_⟩; have b_ := kept_drawn d_; refine ⟨_, rfl, ?_⟩; have Hn := Aside0.mk (blk_below H1.out b_); have HBn := Aside0.mk (below_then HB.out HB.out.size b_); clear b_ d_ H1 HB; have H1 := Hn; have HB := HBn; clear Hn HBn; cases b4) | ((with_reducible refine gate_dst (N := 38) rfl ?_); refine Go.Proofs.YtkghgjehjchajaaDoorW.PrintTab2.ungd (by rfl) ?_; refine hx_loadf rfl 3 (.tmp 37) rfl s0 5 rfl Tryd.underlying3 rfl H1.out (lt_len (n := 68) N_.out (by decide)) ?_; rw [← Xx5.out]) | ((with_reducible refine gate_dst (N := 39) rfl ?_); refine Go.Proofs.YtkghgjehjchajaaDoorW.PrintTab2.ungd (by rfl) ?_; refine goesL_ (some 39) rfl rfl Tryd.func76 (by kernel_rfl) rfl #[.int .i64 x5, .int .i64 0, .int .i64 1000] rfl (by (try simp only [List.map_toArray, List.map_cons, List.map_nil]); first | done | rfl) ?_; refine (impl_within.calls x5 0 1000 b5 _ Wb5.out).mono ?_; rintro e_ w_ ⟨rfl, d_⟩; have b_ := kept_drawn d_; refine ⟨_, rfl, ?_⟩; have Hn := Aside0.mk (blk_below H1.out b_); have HBn := Aside0.mk (below_then HB.out HB.out.size b_); clear b_ d_ H1 HB; have H1 := Hn; have HB := HBn; clear Hn HBn; cases b5) | ((with_reducible refine gate_dst (N := 44) rfl ?_); refine Go.Proofs.YtkghgjehjchajaaDoorW.PrintTab2.ungd (by rfl) ?_; refine hx_loadf rfl 3 (.tmp 43) rfl s0 6 rfl Tryd.underlying3 rfl H1.out (lt_len (n := 68) N_.out (by decide)) ?_; rw [← Xx6.out]) | ((with_reducible refine gate_dst (N := 45) rfl ?_); refine Go.Proofs.YtkghgjehjchajaaDoorW.PrintTab2.ungd (by rfl) ?_; refine hx_neqi rfl 3 3 (.tmp 44) _ rfl Tryd.underlying3 x6 0 rfl rfl bz WZ ?_; cases bz) | ((with_reducible refine gate_dst (N := 48) rfl ?_); refine Go.Proofs.YtkghgjehjchajaaDoorW.PrintTab2.ungd (by rfl) ?_; refine hx_loadf rfl 3 (.tmp 47) rfl s0 6 rfl Tryd.underlying3 rfl H1.out (lt_len (n := 68) N_.out (by decide)) ?_; rw [← Xx6.out]) | ((with_reducible refine gate_dst (N := 49) rfl ?_); refine Go.Proofs.YtkghgjehjchajaaDoorW.PrintTab2.ungd (by rfl) ?_; refine goesL_ (some 49) rfl rfl Tryd.func76 (by kernel_rfl) rfl #[.int .i64 x6, .int .i64 8192, .int .i64 65536] rfl (by (try simp only [List.map_toArray, List.map_cons, List.map_nil]); first | done | rfl) ?_; refine (impl_within.calls x6 8192 65536 b6 _ Wb6.out).mono ?_; rintro e_ w_ ⟨rfl, d_⟩; have b_ := kept_drawn d_; refine ⟨_, rfl, ?_⟩; have Hn := Aside0.mk (blk_below H1.out b_); have HBn := Aside0.mk (below_then HB.out HB.out.size b_); clear b_ d_ H1 HB; have H1 := Hn; have HB := HBn; clear Hn HBn; cases b6) | ((with_reducible refine gate_dst (N := 54) rfl ?_); refine hx_loadp rfl 31 (.tmp 53) rfl s0 7 15 rfl Tryd.underlying31 rfl (by kernel_rfl) H1.out (le_len (n := 68) N_.out (by decide)) ?_; rw [← XI.out]) | ((with_reducible refine gate_dst (N := 55) rfl ?_); refine goesL_ (some 55) rfl rfl Tryd.func78 (by kernel_rfl) rfl #[.agg (nums .i64 xi).toArray] rfl (by (try simp only [List.map_toArray, List.map_cons, List.map_nil]); first | done | rfl) ?_; refine (impl_Root_right.calls xi NXI.out b7 _ Wb7.out).mono ?_; rintro e_ w_ ⟨rfl, d_⟩; have b_ := d_; refine ⟨_, rfl, ?_⟩; have Hn := Aside0.mk (blk_below H1.out b_); have HBn := Aside0.mk (below_then HB.out HB.out.size b_); clear b_ d_ H1 HB; have H1 := Hn; have HB := HBn; clear Hn HBn; cases b7) | ((with_reducible refine gate_dst (N := 59) rfl ?_); refine Go.Proofs.YtkghgjehjchajaaDoorW.PrintTab2.ungd (by rfl) ?_; refine hx_loadp rfl 31 (.tmp 58) rfl s0 22 15 rfl Tryd.underlying31 rfl (by kernel_rfl) H1.out (le_len (n := 68) N_.out (by decide)) ?_; rw [← XM.out]) | ((with_reducible refine gate_dst (N := 60) rfl ?_); refine Go.Proofs.YtkghgjehjchajaaDoorW.PrintTab2.ungd (by rfl) ?_; refine goesL_ (some 60) rfl rfl Tryd.func78 (by kernel_rfl) rfl #[.agg (nums .i64 xm).toArray] rfl (by (try simp only [List.map_toArray, List.map_cons, List.map_nil]); first | done | rfl) ?_; refine (impl_Root_right.calls xm NXM.out b8 _ Wb8.out).mono ?_; rintro e_ w_ ⟨rfl, d_⟩; have b_ := d_; refine ⟨_, rfl, ?_⟩; have Hn := Aside0.mk (blk_below H1.out b_); have HBn := Aside0.mk (below_then HB.out HB.out.size b_); clear b_ d_ H1 HB; have H1 := Hn; have HB := HBn; clear Hn HBn; cases b8) | ((with_reducible refine gate_dst (N := 66) rfl ?_); refine Go.Proofs.YtkghgjehjchajaaDoorW.PrintTab2.ungd (by rfl) ?_; refine hx_loadf rfl 3 (.tmp 65) rfl s0 22 rfl Tryd.underlying3 rfl H1.out (lt_len (n := 68) N_.out (by decide)) ?_; rw [← Xym.out]) | ((with_reducible refine gate_dst (N := 68) rfl ?_); refine Go.Proofs.YtkghgjehjchajaaDoorW.PrintTab2.ungd (by rfl) ?_; refine hx_loadf rfl 3 (.tmp 67) rfl s0 1 rfl Tryd.underlying3 rfl H1.out (lt_len (n := 68) N_.out (by decide)) ?_; rw [← Xx1.out]) | ((with_reducible refine gate_dst (N := 70) rfl ?_); refine Go.Proofs.YtkghgjehjchajaaDoorW.PrintTab2.ungd (by rfl) ?_; refine hx_neqi rfl 3 3 (.tmp 66) (.tmp 69) rfl Tryd.underlying3 ym (wrap64 (4 * x1)) rfl rfl bm WM ?_; cases bm) | ((with_reducible refine gate_dst (N := 75) rfl ?_); refine Go.Proofs.YtkghgjehjchajaaDoorW.PrintTab2.ungd (by rfl) ?_; refine hx_loadf rfl 3 (.tmp 74) rfl s0 7 rfl Tryd.underlying3 rfl H1.out (lt_len (n := 68) N_.out (by decide)) ?_; rw [← Xyi.out]) | ((with_reducible refine gate_dst (N := 76) rfl ?_); refine Go.Proofs.YtkghgjehjchajaaDoorW.PrintTab2.ungd (by rfl) ?_; refine goesL_ (some 76) rfl rfl Tryd.func79 (by kernel_rfl) rfl #[.int .i64 yi] rfl (by (try simp only [List.map_toArray, List.map_cons, List.map_nil]); first | done | rfl) ?_; refine (impl_tableSize.calls yi b9 _ Wb9.out).mono ?_; rintro e_ w_ ⟨rfl, d_⟩; have b_ := kept_drawn d_; refine ⟨_, rfl, ?_⟩; have Hn := Aside0.mk (blk_below H1.out b_); have HBn := Aside0.mk (below_then HB.out HB.out.size b_); clear b_ d_ H1 HB; have H1 := Hn; have HB := HBn; clear Hn HBn; cases b9))
  all_goals (try (go_ret; exact ⟨by rw [← H.out, HIN.out]; rfl, HB.out⟩))
  all_goals
    have HX1 := Aside0.mk (HR3.out (by first | rfl | trivial))
    have HF := Aside0.mk (show fsGood a0 = pl.all (fsPtr x1) by rw [HIN.out]; rfl)
    have HBS := Aside0.mk HB.out.size
    have info3_ : (Tryd.prog.info? 3).map (fun i => (i.zero, i.size, i.bytes)) = some (some (.int .i64 0), 1, 8) := by kernel_rfl
    obtain ⟨pi, hpi⟩ : ∃ p, p = seg xi 1 14 := ⟨_, rfl⟩
    obtain ⟨pm, hpm⟩ : ∃ p, p = seg xm 1 14 := ⟨_, rfl⟩
    have EPI := Aside0.mk (show impl_Root_pointers.f xi = some pi by rw [hpi]; exact if_pos NXI.out)
    have EPM := Aside0.mk (show impl_Root_pointers.f xm = some pm by rw [hpm]; exact if_pos NXM.out)
    have LPI := Aside0.mk (show pi.length = 14 by rw [hpi]; exact part_len (n := 15) NXI.out (by decide))
    have LPM := Aside0.mk (show pm.length = 14 by rw [hpm]; exact part_len (n := 15) NXM.out (by decide))
    have EPL := Aside0.mk (show (pi ++ pm) ++ seg a0 37 31 = pl by rw [HPL.out, hpi, hpm])
    clear hpi hpm HIN HR3
    refine region_in (by kernel_rfl) H1.out HB.out ?_
    intro wd H2 HB2
    have HBS2 := Aside0.mk HB2.out.size
    clear H1 HB
    show wpAny _ _ _ _ 12 _ _ _
    refine wpAny_take (i := 0) (v := .pointer (some ⟨s0, 7, none⟩)) rfl (by kernel_rfl) (by kernel_rfl) (by kernel_rfl) (fun _ _ _ h => h) (.inl ⟨rfl, fun w_ => ?_⟩) ?_
    · unfold execOp
      go_simp
      (try rfl)
    simp only [List.getElem_toArray, List.getElem_cons_succ, List.getElem_cons_zero, Act.put, List.setIfInBounds_toArray, List.set_cons_succ, List.set_cons_zero]
    refine wpAny_take (i := 3) (v := .pointer (some ⟨s0, 22, none⟩)) rfl (by kernel_rfl) (by kernel_rfl) (by kernel_rfl) (fun _ _ _ h => h) (.inl ⟨rfl, fun w_ => ?_⟩) ?_
    · unfold execOp
      go_simp
      (try rfl)
    simp only [List.getElem_toArray, List.getElem_cons_succ, List.getElem_cons_zero, Act.put, List.setIfInBounds_toArray, List.set_cons_succ, List.set_cons_zero]
    refine wpAny_take (i := 7) (v := .pointer (some ⟨s0, 37, none⟩)) rfl (by kernel_rfl) (by kernel_rfl) (by kernel_rfl) (fun _ _ _ h => h) (.inl ⟨rfl, fun w_ => ?_⟩) ?_
    · unfold execOp
      go_simp
      (try rfl)
    simp only [List.getElem_toArray, List.getElem_cons_succ, List.getElem_cons_zero, Act.put, List.setIfInBounds_toArray, List.set_cons_succ, List.set_cons_zero]
    refine wpAny_take (i := 8) (v := .slice (some ⟨s0, 37, none⟩) 31 31) rfl (by kernel_rfl) (by kernel_rfl) (by kernel_rfl) (fun _ _ _ h => h) (.inl ⟨rfl, fun w_ => ?_⟩) ?_
    · unfold execOp
      go_simp
      (try rfl)
    simp only [List.getElem_toArray, List.getElem_cons_succ, List.getElem_cons_zero, Act.put, List.setIfInBounds_toArray, List.set_cons_succ, List.set_cons_zero]
    refine wpAny_take (i := 11) (v := .int .i64 0) rfl (by kernel_rfl) (by kernel_rfl) (by kernel_rfl) (fun _ _ _ h => h) (.inl ⟨rfl, fun w_ => ?_⟩) ?_
    · unfold execOp
      go_simp
      (try rfl)
    simp only [List.getElem_toArray, List.getElem_cons_succ, List.getElem_cons_zero, Act.put, List.setIfInBounds_toArray, List.set_cons_succ, List.set_cons_zero]
    have LD1 : ∀ W : World, W.heap[s0]? = some (.cells (nums .i64 a0).toArray 48 (0, 0)) → (loadVar 31 ⟨s0, 7, none⟩).run Tryd.prog W = .ok (.agg (nums .i64 xi).toArray) W := fun W hW => by have h_ := run_load_part (P := Tryd.prog) W s0 7 15 48 31 _ (0, 0) _ hW Tryd.underlying31 rfl (by kernel_rfl) (by rw [nums_size _ _ _ N_.out]; decide); rw [take_nums, Array.toArray_toList] at h_; rw [XI.out]; exact h_
    have LD2 : ∀ W : World, W.heap[s0]? = some (.cells (nums .i64 a0).toArray 48 (0, 0)) → (loadVar 31 ⟨s0, 22, none⟩).run Tryd.prog W = .ok (.agg (nums .i64 xm).toArray) W := fun W hW => by have h_ := run_load_part (P := Tryd.prog) W s0 22 15 48 31 _ (0, 0) _ hW Tryd.underlying31 rfl (by kernel_rfl) (by rw [nums_size _ _ _ N_.out]; decide); rw [take_nums, Array.toArray_toList] at h_; rw [XM.out]; exact h_
    refine two_loads (fuel := 4) 1 2 4 rfl rfl rfl rfl rfl rfl (by kernel_rfl) (by kernel_rfl) (by kernel_rfl) (by kernel_rfl) (by kernel_rfl) (by kernel_rfl) (by decide) (by decide) rfl rfl rfl (by decide) (by decide) (.agg (nums .i64 xi).toArray) (.agg (nums .i64 xm).toArray) ?l1 ?l1' ?l2 ?l2' ?l2c Tryd.func80 (by kernel_rfl) rfl rfl #[.agg (nums .i64 xi).toArray] ?ha1 ?ha2 (fun v W => Kd.R (Kd.int .i64) 3 W w.heap.size (fun _ => True) v pi) ?hc ?hk
    case l1 => exact run_ld 31 (.tmp 79) rfl _ rfl _ (LD1 wd H2.out)
    case l1' => exact run_ld 31 (.tmp 79) rfl _ rfl _ (LD1 wd H2.out)
    case l2 => exact run_ld 31 (.tmp 82) rfl _ rfl _ (LD2 wd H2.out)
    case l2' => exact run_ld 31 (.tmp 82) rfl _ rfl _ (LD2 wd H2.out)
    case ha1 => first | rfl | (simp [Act.put, Act.eval]; done)
    case ha2 => first | rfl | (simp [Act.put, Act.eval]; done)
    case l2c => exact fun v w2 hb_ => run_ld 31 (.tmp 82) rfl _ rfl _ (LD2 w2 (blk_below H2.out hb_))
    case hc =>
      refine (impl_Root_pointers.calls xi NXI.out pi _ EPI.out).mono ?_
      rintro e_ w2 ⟨v_, rfl, R_, b_⟩
      exact ⟨v_, rfl, Kd.R_lower R_ HBS2.out, b_⟩
    case hk =>
      intro v2_ w2 hb_ hp_
      have HB3 := Aside0.mk (below_then HB2.out HB2.out.size hb_)
      have H3 := Aside0.mk (blk_below H2.out hb_)
      have O2 := Aside0.mk (Kd.R_types hp_ H3.out (by decide))
      clear hb_ hp_ HB2 H2 LD1 LD2
      simp only [List.getElem_toArray, List.getElem_cons_succ, List.getElem_cons_zero, Act.put, List.setIfInBounds_toArray, List.set_cons_succ, List.set_cons_zero]
      refine path_in [5, 6, 9, 10] (by kernel_rfl) (by kernel_rfl) ?_
      simp only [List.filterMap_cons, List.filterMap_nil, List.getElem?_toArray, List.getElem?_cons_succ, List.getElem?_cons_zero]
      ((with_reducible refine gate_dst (N := 84) rfl ?_); refine goesL_ (some 84) rfl rfl Tryd.func80 (by kernel_rfl) rfl #[.agg (nums .i64 xm).toArray] rfl (by (try simp only [List.map_toArray, List.map_cons, List.map_nil]); first | done | rfl) ?_; refine (impl_Root_pointers.calls xm NXM.out pm _ EPM.out).mono ?_; rintro e_ w4 ⟨v84, rfl, R_, b_⟩; obtain ⟨Ap, cp, ep_⟩ := Kd.R_slice R_; subst ep_; refine ⟨_, rfl, ?_⟩; have p5_ := Aside0.mk (Kd.R_lower R_ HB3.out.size); have HB4 := Aside0.mk (below_then HB3.out HB3.out.size b_); have H4 := Aside0.mk (blk_below H3.out b_); have O4 := Aside0.mk (Kd.R_below O2.out b_); clear R_ b_ HB3 H3 O2)
      ((with_reducible refine gate_dst (N := 85) rfl ?_); refine Kd.R_append_rows (Kd.int .i64) (w0 := w) w.heap.size rfl (.tmp 81) (.tmp 84) 122 3 (.int .i64 0) 8 rfl Tryd.underlying122 info3_ rfl (by decide) (by omega) v2_ pi pm _ _ _ (fun k => True ∧ k ≠ s0) (fun _ => False) rfl rfl O4.out (Kd.R_reads' p5_.out).2.2 (fun _ _ h => h) (fun _ h => h.elim) (fun k hk => ⟨trivial, by have := blk_lt H4.out; omega⟩) HB4.out HB4.out.size (by rw [LPI.out, LPM.out]; decide) ?_; intro v85 w5 ho hb hg_ hn_; have H5 := Aside0.mk (blk_grown H4.out hg_ (fun e_ => (O4.out.1 s0 e_.symm).2 rfl)); have O5 := Aside0.mk ho; have HB5 := Aside0.mk hb; clear ho hb hg_ hn_ H4 HB4 p5_)
      ((with_reducible refine gate_dst (N := 88) rfl ?_); refine Kd.R_append_rows (Kd.int .i64) (w0 := w) w.heap.size rfl (.tmp 85) (.tmp 87) 122 3 (.int .i64 0) 8 rfl Tryd.underlying122 info3_ rfl (by decide) (by omega) v85 (pi ++ pm) (seg a0 37 31) _ 31 _ (fun k => True ∧ k ≠ s0) (fun _ => False) rfl rfl O5.out (part_reads H5.out 37 31 (by rw [N_.out]; decide) (by decide)) (fun _ _ h => h) (fun _ h => h.elim) (fun k hk => ⟨trivial, by have := blk_lt H5.out; omega⟩) HB5.out HB5.out.size (by rw [List.length_append, LPI.out, LPM.out]; decide) ?_; intro v88 w6 ho hb hg_ hn_; have H6 := Aside0.mk (blk_grown H5.out hg_ (fun e_ => (O5.out.1 s0 e_.symm).2 rfl)); have O6 := Aside0.mk ho; have HB6 := Aside0.mk hb; clear ho hb hg_ hn_ H5 HB5; rw [EPL.out] at O6; obtain ⟨A86, c86, ea_⟩ := Kd.R_slice O6.out; subst ea_)
      go_wp2
      (try simp only [Act.put, List.setIfInBounds_toArray, List.set_cons_succ, List.set_cons_zero])
      have O4 := O6
      have H4 := H6
      have HB4 := HB6
      clear O6 H6 HB6
      go_loopw [4, 90] (fun v5 v88 wr => ∃ (j : Nat) (u5 : Value), u5 = v5 ∧ v88 = .int .i64 (j : Int) ∧ Aside0 (j ≤ 59) ∧ Aside0 (∀ i, i < j → fsPtr x1 (pl.getD i 0) = true) ∧ Aside0 (Kd.R (Kd.int .i64) 3 wr w.heap.size (fun k => True ∧ k ≠ s0) (.slice A86 pl.length c86) pl) ∧ Aside0 (wr.heap[s0]? = some (.cells (nums .i64 a0).toArray 48 (0, 0))) ∧ Aside0 (Below w.heap.size w wr)) (fun _ v88 _ => 59 - (intOf v88).toNat)
      case atStart => exact ⟨0, _, rfl, rfl, ⟨Nat.zero_le _⟩, ⟨fun i hi => absurd hi (by omega)⟩, O4, H4, HB4⟩
      case round =>
        clear O4 H4 HB4
        obtain ⟨j, v5, rfl, rfl, hj, HG, OP, H1, HB⟩ := hrel
        by_cases c9 : j < 59
        · have c9b0 : decide ((j : Int) < (pl.length : Int)) = true := decide_eq_true (by rw [NPL.out]; omega)
          have c9b1 : decide (j < pl.length) = true := decide_eq_true (by rw [NPL.out]; omega)
          have p112 : 0 ≤ (j : Int) := by omega
          have q112 : (j : Int) < (pl.length : Int) := by rw [NPL.out]; omega
          obtain ⟨ad112, e112, hx112⟩ := Kd.at_int (Kd.R_reads' OP.out).2.2 (j : Int) p112 q112
          (first | subst e112 | cases e112)
          rw [Int.toNat_natCast] at hx112
          replace p112 := eq_true p112
          replace q112 := eq_true q112
          have q113 : (j < pl.length) = True := eq_true (by rw [NPL.out]; omega)
          obtain ⟨p, hp⟩ : ∃ p, p = rd pl (j : Int) := ⟨_, rfl⟩
          rw [← hp] at hx112
          have HPV := Aside0.mk (show p = pl.getD j 0 by rw [hp, rd, Int.toNat_natCast])
          have C9 := Aside0.mk c9
          clear hp c9
          obtain ⟨bp, hbp⟩ : ∃ b, b = fsPtr x1 p := ⟨_, rfl⟩
          have HQ := Aside0.mk (show impl_isPointer.f p x1 = some bp by rw [hbp]; exact impl_Fsinfo_right.ptr p x1 HX1.out)
          have HBP := Aside0.mk hbp
          clear hbp
          cases bp with
          | false =>
            go_wp2_with (first | ((with_reducible refine gate_dst (N := 96) rfl ?_); refine hx_loadf rfl 3 (.tmp 95) rfl s0 1 rfl Tryd.underlying3 rfl H1.out (lt_len (n := 68) N_.out (by decide)) ?_; rw [← Xx1.out]) | ((with_reducible refine gate_dst (N := 97) rfl ?_); refine goesL_ (some 97) rfl rfl Tryd.func87 (by kernel_rfl) rfl #[.int .i64 p, .int .i64 x1] rfl (by (try simp only [List.map_toArray, List.map_cons, List.map_nil]); first | done | rfl) ?_; refine (impl_isPointer.calls p x1 false _ HQ.out).mono ?_; rintro e_ w_ ⟨rfl, d_⟩; have b_ := kept_drawn d_; refine ⟨_, rfl, ?_⟩; have H5 := Aside0.mk (blk_below H1.out b_); have HB5 := Aside0.mk (below_then HB.out HB.out.size b_); have OP5 := Aside0.mk (Kd.R_below OP.out b_); clear b_ d_ H1 HB OP))
            go_ret
            have e_ : fsGood a0 = false := by rw [HF.out]; exact all_not (j := j) (by rw [NPL.out]; exact C9.out) (by rw [← HPV.out]; exact HBP.out.symm)
            exact ⟨by rw [← H.out, e_]; first | done | rfl, HB5.out⟩
          | true =>
            go_wp2_with (first | ((with_reducible refine gate_dst (N := 96) rfl ?_); refine hx_loadf rfl 3 (.tmp 95) rfl s0 1 rfl Tryd.underlying3 rfl H1.out (lt_len (n := 68) N_.out (by decide)) ?_; rw [← Xx1.out]) | ((with_reducible refine gate_dst (N := 97) rfl ?_); refine goesL_ (some 97) rfl rfl Tryd.func87 (by kernel_rfl) rfl #[.int .i64 p, .int .i64 x1] rfl (by (try simp only [List.map_toArray, List.map_cons, List.map_nil]); first | done | rfl) ?_; refine (impl_isPointer.calls p x1 true _ HQ.out).mono ?_; rintro e_ w_ ⟨rfl, d_⟩; have b_ := kept_drawn d_; refine ⟨_, rfl, ?_⟩; have H5 := Aside0.mk (blk_below H1.out b_); have HB5 := Aside0.mk (below_then HB.out HB.out.size b_); have OP5 := Aside0.mk (Kd.R_below OP.out b_); clear b_ d_ H1 HB OP))
            go_roundw
            case rel => exact ⟨j + 1, _, rfl, by rw [show wrap64 ((j : Int) + 1) = ((j + 1 : Nat) : Int) by (have := C9.out; unfold wrap64; omega)], ⟨by have := C9.out; omega⟩, ⟨fun i hi => by
              by_cases hij : i = j
              · rw [hij, ← HPV.out]; exact HBP.out.symm
              · exact HG.out i (by omega)⟩, OP5, H5, HB5⟩
            case measure =>
              rw [show wrap64 ((j : Int) + 1) = ((j + 1 : Nat) : Int) by (have := C9.out; unfold wrap64; omega)]
              simp only [intOf, Int.toNat_natCast]
              have := C9.out
              omega
        · obtain rfl : j = 59 := by have := hj.out; omega
          have c9b0 : decide ((59 : Int) < (pl.length : Int)) = false := decide_eq_false (by rw [NPL.out]; decide)
          have c9b1 : decide (59 < pl.length) = false := decide_eq_false (by rw [NPL.out]; decide)
          clear c9
          go_wp2
          go_ret
          have e_ : fsGood a0 = true := by rw [HF.out]; exact all_of (fun j hj => HG.out j (by rw [← NPL.out]; exact hj))
          exact ⟨by rw [← H.out, e_]; first | done | rfl, HB.out⟩

end Go.Proofs.YtkghgjehjchajaaDoor.PFnExactChooseFsinfo
