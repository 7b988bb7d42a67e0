-- Written by a program of this session (patch_print.py over the kit print)
import Derived.Test.YtkghgjehjchajaaPFnExactDecodeTablex0
import Derived.Test.YtkghgjehjchajaaPFnExactDecodeTablex5
namespace Go.Proofs.Ytkghgjehjchajaa.PFnExactDecodeTable
open Go.RowKit Go.Proofs.YtkghgjehjchajaaW.PrintWords Go.Proofs.YtkghgjehjchajaaW.PrintLast Go.Proofs.YtkghgjehjchajaaW.PrintMore
attribute [local go_sem] max2_int min2_int max_two min_two max_three min_three max_four min_four   -- for this text's walks alone
set_option linter.unusedVariables false
set_option linter.unusedSimpArgs false

open Go.Proofs.YtkghgjehjchajaaW Go.Proofs.YtkghgjehjchajaaW.PrintHand Go.Proofs.YtkghgjehjchajaaW.PrintHx
/-! ### spec_l02RootOf: function 46 -/
open Go.Proofs.YtkghgjehjchajaaW.PrintLe Go.Proofs.YtkghgjehjchajaaW.PrintGrow Go.Proofs.YtkghgjehjchajaaW.PrintDec Go.Proofs.YtkghgjehjchajaaW.PrintRaw
theorem get_l0 (x0 : List Int) (hb : Byt x0) (h8 : x0.length ≤ 8) : ∀ (n k : Nat), n ≤ x0.length → n < k → le (x0.drop n) < 18014398509481984 → spec_l02Get.l0 k x0 (le (x0.drop n)) ((n : Int) - 1) = some (if le x0 < 18014398509481984 then le x0 else 4611686018427387904)
  | 0, k, h1, h2, h3 => by
    obtain ⟨k, rfl⟩ := sucK h2
    simp only [spec_l02Get.l0]
    rw [List.drop_zero] at h3 ⊢
    rw [if_neg (by omega), if_pos h3]
  | n + 1, k, h1, h2, h3 => by
    obtain ⟨k, rfl⟩ := sucK h2
    have hn : n < x0.length := by omega
    have hd := List.drop_eq_getElem_cons hn
    have hx := hb x0[n] (List.getElem_mem hn)
    have h0 := le_nonneg (hb.drop (n + 1))
    simp only [spec_l02Get.l0]
    rw [if_pos (by omega)]
    by_cases hc : le (x0.drop (n + 1)) ≥ 70368744177664
    · rw [if_pos hc]
      have hs := le_split x0 (n + 1) (by omega)
      have ht := le_nonneg (hb.take (n + 1))
      have hp := p256 n
      rw [Int.pow_succ] at hs
      have : 256 ^ n * 256 * le (x0.drop (n + 1)) ≥ 1 * 256 * le (x0.drop (n + 1)) := Int.mul_le_mul_of_nonneg_right (by omega) h0
      rw [if_neg (by omega)]
    · rw [if_neg hc, if_pos (by omega), if_pos (by omega)]
      have hv : wrap64 ((wrap64 (le (x0.drop (n + 1)) * 256)) + (wrap64 (rd x0 (((n + 1 : Nat) : Int) - 1)))) = le (x0.drop n) := by
        rw [show ((n + 1 : Nat) : Int) - 1 = (n : Int) by omega, rd_some hn, hd]
        simp only [le]
        unfold wrap64
        omega
      rw [hv, show wrap64 (((n + 1 : Nat) : Int) - 1 - 1) = (n : Int) - 1 by unfold wrap64; omega]
      exact get_l0 x0 hb h8 n k (by omega) (by omega) (by rw [hd]; simp only [le]; omega)
/-- l02Get: the number, or 2^62 where it is 2^54 or more -/
theorem get_f (l : List Int) (hb : Byt l) (h8 : l.length ≤ 8) (k : Nat) (hk : 8 < k) : spec_l02Get.f k l = some (if le l < 18014398509481984 then le l else 4611686018427387904) := by
  unfold spec_l02Get.f
  rw [show wrap64 ((l.length : Int) - 1) = (l.length : Int) - 1 by unfold wrap64; omega]
  have h := get_l0 l hb h8 l.length k (by omega) (by omega) (by simp [le])
  rw [List.drop_length] at h
  exact h
def spec_l02RootOf.f (l0 : List Int) : Option (List Int) := if l0.length = 64 ∧ (∀ x ∈ l0, 0 ≤ x ∧ x ≤ 255) then some (rootA l0) else none
theorem at8 (a j : Nat) (ha : a ≤ 1000) (hj : j < 32) : wrap64 ((a : Int) + wrap64 (4 * (j : Int))) = ((a + 4 * j : Nat) : Int) := by
  have h : wrap64 (4 * (j : Int)) = 4 * (j : Int) := by unfold wrap64; omega
  rw [h]
  unfold wrap64
  omega
set_option maxHeartbeats 8000000 in
set_option maxRecDepth 100000 in
theorem spec_l02RootOf.calls (A0 : Option Addr) (c0 : Nat) (l0 : List Int) (r : List Int) (w : World) (hr0 : Kd.C (Kd.int .u8) w A0 l0.length l0) (hc0 : l0.length ≤ c0) (h : spec_l02RootOf.f l0 = some r) :
    Calls Try.prog 46 #[.slice A0 l0.length c0] w fun e w' => e = .returned (.agg (nums .i64 r).toArray) ∧ Below w.heap.size w w' := by
  unfold spec_l02RootOf.f at h
  by_cases hdom : l0.length = 64 ∧ (∀ x ∈ l0, 0 ≤ x ∧ x ≤ 255)
  case neg => rw [if_neg hdom] at h; cases h
  rw [if_pos hdom] at h
  obtain rfl := Option.some.inj h
  have HL := Aside0.mk hdom.1
  have HBY : Aside0 (Byt l0) := ⟨hdom.2⟩
  have HR0 := Aside0.mk hr0
  have HC0 := Aside0.mk hc0
  clear h hdom hr0 hc0
  have info5_ : (Try.prog.info? 5).map (fun i => (i.zero, i.size, i.bytes)) = some (some (.int .u8 0), 1, 1) := by kernel_rfl
  obtain ⟨i0_, hi0_, _, hsz_, _⟩ := info_parts info5_
  have Z28 : ∀ w, (zeroValue 28).run Try.prog w = .ok (.agg (nums .i64 (List.replicate 15 0)).toArray) w := fun _ => by kernel_rfl
  obtain ⟨hcut6, hA6, hC6⟩ := print_take_of (P := Try.prog) (Value.int .u8) 0 25 5 .i64 Try.underlying25 hi0_ hsz_ A0 c0 l0 (8 : Int) (by decide) (by rw [HL.out]; decide) HC0.out
  obtain ⟨q6, hq6⟩ : ∃ q, q = l0.take (8 : Int).toNat := ⟨_, rfl⟩
  rw [← hq6] at hcut6 hA6 hC6
  have hs6 : q6 = seg l0 0 8 := by rw [hq6]; exact rfl
  have HR6 := Aside0.mk (Kd.C_of_reads (h1 := fun _ => rfl) (hA6 _ (Kd.reads_of_C HR0.out)))
  have HC6 := Aside0.mk hC6
  obtain ⟨g0, hg0⟩ : ∃ g, g = gcap (seg l0 0 8) := ⟨_, rfl⟩
  have EG6 := Aside0.mk (show spec_l02Get.f 20 q6 = some g0 by rw [hg0, hs6]; exact get_f (seg l0 0 8) (seg_byt HBY.out _ _) (by rw [seg_le _ _ (by rw [HL.out]; decide)]; decide) 20 (by decide))
  clear hs6 hq6 hA6 hC6
  obtain ⟨A9, hcut9, hA9, hC9⟩ := print_mid_of (P := Try.prog) (Value.int .u8) 0 25 5 .i64 .i64 Try.underlying25 hi0_ hsz_ A0 c0 l0 (56 : Int) (60 : Int) (by decide) (by decide) (by rw [HL.out]; decide) HC0.out
  obtain ⟨q9, hq9⟩ : ∃ q, q = (l0.take (60 : Int).toNat).drop (56 : Int).toNat := ⟨_, rfl⟩
  rw [← hq9] at hcut9 hA9 hC9
  obtain ⟨k9, hk9⟩ : ∃ k, k = c0 - (56 : Int).toNat := ⟨_, rfl⟩
  rw [← hk9] at hcut9 hC9
  clear hk9
  have hs9 : q9 = seg l0 56 4 := by rw [hq9]; exact take_drop l0 56 60
  have HR9 := Aside0.mk (Kd.C_of_reads (h1 := fun _ => rfl) (hA9 _ (Kd.reads_of_C HR0.out)))
  have HC9 := Aside0.mk hC9
  obtain ⟨g1, hg1⟩ : ∃ g, g = le (seg l0 56 4) := ⟨_, rfl⟩
  have EG9 := Aside0.mk (show spec_l02Get.f 20 q9 = some g1 by rw [hg1, hs9, ← gcap4 (seg_byt HBY.out _ _) (by rw [seg_le _ _ (by rw [HL.out]; decide)]; decide)]; exact get_f (seg l0 56 4) (seg_byt HBY.out _ _) (by rw [seg_le _ _ (by rw [HL.out]; decide)]; decide) 20 (by decide))
  clear hs9 hq9 hA9 hC9
  obtain ⟨A12, hcut12, hA12, hC12⟩ := print_mid_of (P := Try.prog) (Value.int .u8) 0 25 5 .i64 .i64 Try.underlying25 hi0_ hsz_ A0 c0 l0 (60 : Int) (64 : Int) (by decide) (by decide) (by rw [HL.out]; decide) HC0.out
  obtain ⟨q12, hq12⟩ : ∃ q, q = (l0.take (64 : Int).toNat).drop (60 : Int).toNat := ⟨_, rfl⟩
  rw [← hq12] at hcut12 hA12 hC12
  obtain ⟨k12, hk12⟩ : ∃ k, k = c0 - (60 : Int).toNat := ⟨_, rfl⟩
  rw [← hk12] at hcut12 hC12
  clear hk12
  have hs12 : q12 = seg l0 60 4 := by rw [hq12]; exact take_drop l0 60 64
  have HR12 := Aside0.mk (Kd.C_of_reads (h1 := fun _ => rfl) (hA12 _ (Kd.reads_of_C HR0.out)))
  have HC12 := Aside0.mk hC12
  obtain ⟨g2, hg2⟩ : ∃ g, g = le (seg l0 60 4) := ⟨_, rfl⟩
  have EG12 := Aside0.mk (show spec_l02Get.f 20 q12 = some g2 by rw [hg2, hs12, ← gcap4 (seg_byt HBY.out _ _) (by rw [seg_le _ _ (by rw [HL.out]; decide)]; decide)]; exact get_f (seg l0 60 4) (seg_byt HBY.out _ _) (by rw [seg_le _ _ (by rw [HL.out]; decide)]; decide) 20 (by decide))
  clear hs12 hq12 hA12 hC12
  obtain ⟨ds, hds⟩ : ∃ d, d = rootVals l0 := ⟨_, rfl⟩
  have DL := Aside0.mk (show ds.length = 12 by rw [hds]; exact rootVals_length l0)
  have EGJ := Aside0.mk (show ∀ j, j < 12 → spec_l02Get.f 20 (seg l0 (8 + 4 * j) 4) = some (ds.getD j 0) from fun j hj => by rw [hds, rootVals_get l0 j hj, ← gcap4 (seg_byt HBY.out _ _) (by rw [seg_le _ _ (by rw [HL.out]; omega)]; decide)]; exact get_f _ (seg_byt HBY.out _ _) (by rw [seg_le _ _ (by rw [HL.out]; omega)]; decide) 20 (by decide))
  have hres : rootA l0 = g0 :: (ds ++ [g1, g2]) := by rw [hg0, hg1, hg2, hds]; rfl
  rw [hres]
  clear hres hg0 hg1 hg2 hds
  have HB0 : Aside0 (Below w.heap.size w w) := ⟨Below.refl _ _⟩
  obtain ⟨s0, Sz0⟩ : ∃ s0, Aside0 (w.heap.size = s0) := ⟨_, ⟨rfl⟩⟩
  have hw0 : w.heap.size ≤ s0 := Nat.le_of_eq Sz0.out
  have hw1 : s0 ≤ w.heap.size := Nat.le_of_eq Sz0.out.symm
  go_enter Try.func46, Try.ntmps46
  go_wp2_with (first | ((with_reducible refine gate_dst (N := 2) rfl ?_); refine hx_alloc rfl 2 rfl 28 rfl Sz0 (.agg (nums .i64 (List.replicate 15 0)).toArray) (nums .i64 (List.replicate 15 0)).toArray Z28 rfl ?_; intro w1 s1 L1 Sz1 b_ g_; have H2_1 := Aside0.mk g_; have HB1 := Aside0.mk (below_then HB0.out HB0.out.size b_); clear b_ g_ HB0))
  refine wp_region_grow_last 11 [Is (.slice A0 l0.length c0), Is (.slice A0 q6.length c0), Is (.int .i64 g0), Is (.slice A0 l0.length c0), Is (.slice A9 q9.length k9), Is (.int .i64 g1), Is (.slice A0 l0.length c0), Is (.slice A12 q12.length k12), Is (.int .i64 g2), Is (.agg (nums .i64 [g0, 0, 0, 0, 0, 0, 0, 0, 0, 0, 0, 0, 0, g1, g2]).toArray), New 28 (nums .i64 (List.replicate 15 0)).toArray w1.heap.size] (by kernel_rfl) (by kernel_rfl) (by kernel_rfl) (by kernel_rfl) (allst_cons st_is (allst_cons st_is (allst_cons st_is (allst_cons st_is (allst_cons st_is (allst_cons st_is (allst_cons st_is (allst_cons st_is (allst_cons st_is (allst_cons st_is (allst_cons st_new allst_nil))))))))))) ?_ (fun w2 hgn => ?_)
  · refine steps_cons ?_ ?_
    · refine stepO_val rfl [] [0] (by kernel_rfl) (.slice A0 l0.length c0) (fun a w_ hg hf => ?_) (fun w_ _ => rfl)
      obtain ⟨_, ⟨o0, _⟩⟩ := hf
      have e0 : a.tmps[0]? = some (.slice A0 l0.length c0) := o0.trans rfl
      unfold execOp
      simp only [PrintLast.eval_of e0]
      rfl
    refine steps_cons ?_ ?_
    · refine stepO_val rfl [(0, 5)] [] (by kernel_rfl) (.slice A0 q6.length c0) (fun a w_ hg hf => ?_) (fun w_ _ => rfl)
      obtain ⟨⟨⟨_, e5, rfl⟩, _⟩, _⟩ := hf
      replace e5 : a.tmps[5]? = some (.slice A0 l0.length c0) := e5
      unfold execOp
      simp only [PrintLast.eval_of e5, Act.eval]
      go_simp
      (try rfl)
    refine steps_cons ?_ ?_
    · refine stepO_call rfl [(1, 6)] [] (by kernel_rfl) Try.func54 (by kernel_rfl) rfl rfl (fun a w_ hg hf => ?_)
      obtain ⟨⟨⟨_, e6, rfl⟩, _⟩, _⟩ := hf
      replace e6 : a.tmps[6]? = some (.slice A0 q6.length c0) := e6
      refine ⟨#[.slice A0 q6.length c0], (by simp only [List.map_toArray, List.map_cons, List.map_nil, PrintLast.eval_of e6]; first | done | rfl), (spec_l02Get.calls 20 A0 c0 q6 g0 w_ (Kd.C_below HR6.out (below_then HB1.out HB1.out.size hg)) HC6.out EG6.out).mono ?_⟩
      rintro e_ w2_ ⟨rfl, d_⟩
      have b_ := kept_drawn d_
      exact ⟨_, rfl, b_, rfl⟩
    refine steps_cons ?_ ?_
    · refine stepO_val rfl [] [0] (by kernel_rfl) (.slice A0 l0.length c0) (fun a w_ hg hf => ?_) (fun w_ _ => rfl)
      obtain ⟨_, ⟨o0, _⟩⟩ := hf
      have e0 : a.tmps[0]? = some (.slice A0 l0.length c0) := o0.trans rfl
      unfold execOp
      simp only [PrintLast.eval_of e0]
      rfl
    refine steps_cons ?_ ?_
    · refine stepO_val rfl [(3, 8)] [] (by kernel_rfl) (.slice A9 q9.length k9) (fun a w_ hg hf => ?_) (fun w_ _ => rfl)
      obtain ⟨⟨⟨_, e8, rfl⟩, _⟩, _⟩ := hf
      replace e8 : a.tmps[8]? = some (.slice A0 l0.length c0) := e8
      unfold execOp
      simp only [PrintLast.eval_of e8, Act.eval]
      go_simp
      (try rfl)
    refine steps_cons ?_ ?_
    · refine stepO_call rfl [(4, 9)] [] (by kernel_rfl) Try.func54 (by kernel_rfl) rfl rfl (fun a w_ hg hf => ?_)
      obtain ⟨⟨⟨_, e9, rfl⟩, _⟩, _⟩ := hf
      replace e9 : a.tmps[9]? = some (.slice A9 q9.length k9) := e9
      refine ⟨#[.slice A9 q9.length k9], (by simp only [List.map_toArray, List.map_cons, List.map_nil, PrintLast.eval_of e9]; first | done | rfl), (spec_l02Get.calls 20 A9 k9 q9 g1 w_ (Kd.C_below HR9.out (below_then HB1.out HB1.out.size hg)) HC9.out EG9.out).mono ?_⟩
      rintro e_ w2_ ⟨rfl, d_⟩
      have b_ := kept_drawn d_
      exact ⟨_, rfl, b_, rfl⟩
    refine steps_cons ?_ ?_
    · refine stepO_val rfl [] [0] (by kernel_rfl) (.slice A0 l0.length c0) (fun a w_ hg hf => ?_) (fun w_ _ => rfl)
      obtain ⟨_, ⟨o0, _⟩⟩ := hf
      have e0 : a.tmps[0]? = some (.slice A0 l0.length c0) := o0.trans rfl
      unfold execOp
      simp only [PrintLast.eval_of e0]
      rfl
    refine steps_cons ?_ ?_
    · refine stepO_val rfl [(6, 11)] [] (by kernel_rfl) (.slice A12 q12.length k12) (fun a w_ hg hf => ?_) (fun w_ _ => rfl)
      obtain ⟨⟨⟨_, e11, rfl⟩, _⟩, _⟩ := hf
      replace e11 : a.tmps[11]? = some (.slice A0 l0.length c0) := e11
      unfold execOp
      simp only [PrintLast.eval_of e11, Act.eval]
      go_simp
      (try rfl)
    refine steps_cons ?_ ?_
    · refine stepO_call rfl [(7, 12)] [] (by kernel_rfl) Try.func54 (by kernel_rfl) rfl rfl (fun a w_ hg hf => ?_)
      obtain ⟨⟨⟨_, e12, rfl⟩, _⟩, _⟩ := hf
      replace e12 : a.tmps[12]? = some (.slice A12 q12.length k12) := e12
      refine ⟨#[.slice A12 q12.length k12], (by simp only [List.map_toArray, List.map_cons, List.map_nil, PrintLast.eval_of e12]; first | done | rfl), (spec_l02Get.calls 20 A12 k12 q12 g2 w_ (Kd.C_below HR12.out (below_then HB1.out HB1.out.size hg)) HC12.out EG12.out).mono ?_⟩
      rintro e_ w2_ ⟨rfl, d_⟩
      have b_ := kept_drawn d_
      exact ⟨_, rfl, b_, rfl⟩
    refine steps_cons ?_ ?_
    · refine stepO_val rfl [(2, 7), (5, 10), (8, 13)] [] (by kernel_rfl) (.agg (nums .i64 [g0, 0, 0, 0, 0, 0, 0, 0, 0, 0, 0, 0, 0, g1, g2]).toArray) (fun a w_ hg hf => ?_) (fun w_ _ => rfl)
      obtain ⟨⟨⟨_, e7, rfl⟩, ⟨_, e10, rfl⟩, ⟨_, e13, rfl⟩, _⟩, _⟩ := hf
      replace e7 : a.tmps[7]? = some (.int .i64 g0) := e7
      replace e10 : a.tmps[10]? = some (.int .i64 g1) := e10
      replace e13 : a.tmps[13]? = some (.int .i64 g2) := e13
      unfold execOp
      simp only [PrintLast.eval_of e7, PrintLast.eval_of e10, PrintLast.eval_of e13, Act.eval]
      go_simp
      (try rfl)
    refine steps_cons ?_ ?_
    · refine stepO_alloc rfl [] [] (by kernel_rfl) rfl (.agg (nums .i64 (List.replicate 15 0)).toArray) (nums .i64 (List.replicate 15 0)).toArray Z28 rfl (fun _ _ h => h)
    exact steps_nil
  · skip
    refine ends_cons (fun v0_ p0_ => ?_)
    obtain rfl : v0_ = _ := p0_
    refine ends_cons (fun v1_ p1_ => ?_)
    obtain rfl : v1_ = _ := p1_
    refine ends_cons (fun v2_ p2_ => ?_)
    obtain rfl : v2_ = _ := p2_
    refine ends_cons (fun v3_ p3_ => ?_)
    obtain rfl : v3_ = _ := p3_
    refine ends_cons (fun v4_ p4_ => ?_)
    obtain rfl : v4_ = _ := p4_
    refine ends_cons (fun v5_ p5_ => ?_)
    obtain rfl : v5_ = _ := p5_
    refine ends_cons (fun v6_ p6_ => ?_)
    obtain rfl : v6_ = _ := p6_
    refine ends_cons (fun v7_ p7_ => ?_)
    obtain rfl : v7_ = _ := p7_
    refine ends_cons (fun v8_ p8_ => ?_)
    obtain rfl : v8_ = _ := p8_
    refine ends_cons (fun v9_ p9_ => ?_)
    obtain rfl : v9_ = _ := p9_
    refine ends_cons (fun v10_ p10_ => ?_)
    obtain ⟨g10_, l10_, rfl, n10_⟩ := p10_
    refine ends_nil ?_
    simp only [Act.put, List.setIfInBounds_toArray, List.set_cons_succ, List.set_cons_zero]
    have HB2 := Aside0.mk (below_then HB1.out HB1.out.size hgn)
    have H2_2 := Aside0.mk (blk_below H2_1.out hgn)
    rw [Sz1.out] at l10_
    have N10 := Aside0.mk n10_
    clear n10_ hgn HB1 H2_1
    simp only [List.drop_succ_cons, List.drop_zero]
    go_wp2_with (first | ((with_reducible refine gate_store (t := 28) (p := 3) (v := .tmp 14) rfl ?_); refine hx_store rfl rfl 28 (.tmp 3) (.tmp 14) rfl g10_ 15 rfl (nums .i64 (g0 :: (filled ds 0 ++ [g1, g2]))).toArray rfl (by kernel_rfl) (nums_size _ _ _ (filled_length DL.out 0 (by decide) _ _ _)) (nums_one _ _) N10.out (by simp [nums]) ?_; intro w3 t_ gg_; have HG_3 := Aside0.mk gg_; have H2_3 := Aside0.mk (t_.keep (show s0 ≠ g10_ by omega) H2_2.out); have HB3 := Aside0.mk (t_.below HB2.out (by omega)); clear t_ gg_ H2_2 HB2 N10))
    (try simp only [Act.put, List.setIfInBounds_toArray, List.set_cons_succ, List.set_cons_zero])
    go_loopw [4, 15] (fun v4 v15 wr => ∃ (j : Nat) (u : Value), u = v4 ∧ v15 = .int .i64 (j : Int) ∧ Aside0 (j ≤ 12) ∧ Aside0 (wr.heap[g10_]? = some (.cells (nums .i64 (g0 :: (filled ds j ++ [g1, g2]))).toArray 28 (0, 0))) ∧ Aside0 (wr.heap[s0]? = some (.cells (nums .i64 (List.replicate 15 0)).toArray 28 (0, 0))) ∧ Aside0 (Below w.heap.size w wr)) (fun _ v15 _ => 12 - (intOf v15).toNat)
    case atStart => exact ⟨0, _, rfl, rfl, ⟨by omega⟩, HG_3, H2_3, HB3⟩
    case round =>
      clear HG_3 H2_3 HB3
      obtain ⟨j, v4, rfl, rfl, hj, HG, H2, HB⟩ := hrel
      by_cases c9 : j < 12
      · have c9b0 : decide ((j : Int) < 12) = true := decide_eq_true (by omega)
        have c9b1 : decide (j < 12) = true := decide_eq_true c9
        have e8 : wrap64 (8 + wrap64 (4 * (j : Int))) = ((8 + 4 * j : Nat) : Int) := at8 8 j (by decide) (by omega)
        have e12 : wrap64 (12 + wrap64 (4 * (j : Int))) = ((12 + 4 * j : Nat) : Int) := at8 12 j (by decide) (by omega)
        obtain ⟨Az, hcutz, hAz, hCz⟩ := print_mid_of (P := Try.prog) (Value.int .u8) 0 25 5 .i64 .i64 Try.underlying25 hi0_ hsz_ A0 c0 l0 (wrap64 (8 + wrap64 (4 * (j : Int))) : Int) (wrap64 (12 + wrap64 (4 * (j : Int))) : Int) (by rw [e8]; omega) (by rw [e8, e12]; omega) (by rw [e12, HL.out]; omega) HC0.out
        obtain ⟨qz, hqz⟩ : ∃ q, q = (l0.take (wrap64 (12 + wrap64 (4 * (j : Int))) : Int).toNat).drop (wrap64 (8 + wrap64 (4 * (j : Int))) : Int).toNat := ⟨_, rfl⟩
        rw [← hqz] at hcutz hAz hCz
        obtain ⟨kz, hkz⟩ : ∃ k, k = c0 - (wrap64 (8 + wrap64 (4 * (j : Int))) : Int).toNat := ⟨_, rfl⟩
        rw [← hkz] at hcutz hCz
        clear hkz
        have hsz : qz = seg l0 (8 + 4 * j) 4 := by rw [hqz, e8, e12]; exact (take_drop l0 (8 + 4 * j) (12 + 4 * j)).trans (by rw [show 12 + 4 * j - (8 + 4 * j) = 4 by omega])
        have HRz := Aside0.mk (Kd.C_of_reads (h1 := fun _ => rfl) (hAz _ (Kd.reads_of_C HR0.out)))
        have HCz := Aside0.mk hCz
        have EGz := Aside0.mk (show spec_l02Get.f 20 qz = some (ds.getD j 0) by rw [hsz]; exact EGJ.out j c9)
        obtain ⟨dv, hdv⟩ : ∃ d, d = ds.getD j 0 := ⟨_, rfl⟩
        rw [← hdv] at EGz
        have HDV := Aside0.mk hdv
        have C9 := Aside0.mk c9
        have q9 : (0 ≤ (j : Int)) = True := eq_true (by omega)
        have q10 : ((j : Int) < 12) = True := eq_true (by omega)
        have q11 : (j < 12) = True := eq_true c9
        clear hsz hqz hAz hCz hdv c9 e8 e12
        go_wp2_with (first | ((with_reducible refine gate_dst (N := 27) rfl ?_); refine goesL_ (some 27) rfl rfl Try.func54 (by kernel_rfl) rfl #[.slice Az qz.length kz] rfl (by (try simp only [List.map_toArray, List.map_cons, List.map_nil]); first | done | rfl) ?_; refine (spec_l02Get.calls 20 Az kz qz dv _ (Kd.C_below HRz.out HB.out) HCz.out EGz.out).mono ?_; rintro e_ w5 ⟨rfl, d_⟩; refine ⟨_, rfl, ?_⟩; have b_ := kept_drawn d_; have HG5 := Aside0.mk (blk_below HG.out b_); have H25 := Aside0.mk (blk_below H2.out b_); have HB5 := Aside0.mk (below_then HB.out HB.out.size b_); clear b_ d_ HG H2 HB) | ((with_reducible refine gate_store (t := 3) (p := 29) (v := .tmp 27) rfl ?_); refine st_num rfl rfl 3 (.tmp 29) (.tmp 27) rfl g10_ (1 + j) .i64 dv rfl rfl (by kernel_rfl) HG5.out (by rw [filled_length DL.out j (by have := C9.out; omega)]; have := C9.out; omega) ?_; intro w6 t_ gg_; have HG6 := Aside0.mk gg_; have H26 := Aside0.mk (t_.keep (show s0 ≠ g10_ by omega) H25.out); have HB6 := Aside0.mk (t_.below HB5.out (by omega)); clear t_ gg_ HG5 H25 HB5))
        go_roundw
        case rel =>
          refine ⟨j + 1, _, rfl, by rw [show wrap64 ((j : Int) + 1) = ((j + 1 : Nat) : Int) by (have := C9.out; unfold wrap64; omega)], ⟨by have := C9.out; omega⟩, ⟨?_⟩, H26, HB6⟩
          have h_ := HG6.out
          rw [HDV.out, filled_next DL.out j C9.out] at h_
          exact h_
        case measure =>
          rw [show wrap64 ((j : Int) + 1) = ((j + 1 : Nat) : Int) by (have := C9.out; unfold wrap64; omega)]
          simp only [intOf, Int.toNat_natCast]
          have := C9.out
          omega
      · obtain rfl : j = 12 := by have := hj.out; omega
        have c9b0 : decide ((12 : Int) < 12) = false := by decide
        have hf := HG.out
        rw [filled_all DL.out] at hf
        have HF := Aside0.mk hf
        clear c9 hf HG
        go_wp2_with (first | ((with_reducible refine gate_dst (N := 31) rfl ?_); refine hx_load rfl 28 (.tmp 3) rfl g10_ 15 rfl Try.underlying28 rfl (by kernel_rfl) HF.out (by simp [nums, DL.out]) ?_) | ((with_reducible refine gate_store (t := 28) (p := 2) (v := .tmp 31) rfl ?_); refine hx_store rfl rfl 28 (.tmp 2) (.tmp 31) rfl s0 15 rfl (nums .i64 (g0 :: (ds ++ [g1, g2]))).toArray rfl (by kernel_rfl) (by simp [nums, DL.out]) (nums_one _ _) H2.out (by simp [nums]) ?_; intro w7 t_ gg_; have HR7 := Aside0.mk gg_; have HB7 := Aside0.mk (t_.below HB.out (by omega)); clear t_ gg_))
        exact bodyPost_ret (results_cell_row rfl _ _ s0 28 _ (0, 0) _ rfl HR7.out Try.underlying28 rfl (by rw [nums_size _ _ 15 (by simp [DL.out])]; kernel_rfl)) rfl ⟨rfl, HB7.out⟩

end Go.Proofs.Ytkghgjehjchajaa.PFnExactDecodeTable
