/- PFnExactSnapshotsx2: functions of the law, walked; written by a program of this session. No condition. -/
import Derived.Test.YtknlpjoidjgciaaDoorQPFnExactSnapshotsx0
import Derived.Test.YtknlpjoidjgciaaDoorQPFnExactSnapshotsx1
namespace Go.Proofs.YtknlpjoidjgciaaDoor.PFnExactSnapshots
open Go.RowKit Go.Proofs.YtknlpjoidjgciaaDoorW.PrintWords Go.Proofs.YtknlpjoidjgciaaDoorW.PrintLast Go.Proofs.YtknlpjoidjgciaaDoorW.PrintMore
attribute [local go_sem] max2_int min2_int max_two min_two max_three min_three max_four min_four
set_option linter.unusedVariables false
set_option linter.unusedSimpArgs false
open Go.Proofs.YtknlpjoidjgciaaDoorW Go.Proofs.YtknlpjoidjgciaaDoorW.PrintHand Go.Proofs.YtknlpjoidjgciaaDoorW.PrintHx
open Go.Proofs.YtknlpjoidjgciaaDoorW.PrintLe Go.Proofs.YtknlpjoidjgciaaDoorW.PrintGrow Go.Proofs.YtknlpjoidjgciaaDoorW.PrintDec Go.Proofs.YtknlpjoidjgciaaDoorW.PrintRaw
theorem get_l0 (x0 : List Int) (hb : Byt x0) (h8 : x0.length ≤ 8) : ∀ (n k : Nat), n ≤ x0.length → n < k → le (x0.drop n) < 18014398509481984 → spec_l02Get.l0 k x0 (le (x0.drop n)) ((n : Int) - 1) = some (if le x0 < 18014398509481984 then le x0 else 4611686018427387904)
  | 0, k, h1, h2, h3 => by
    obtain ⟨k, rfl⟩ := sucK h2
    simp only [spec_l02Get.l0]
    rw [List.drop_zero] at h3 ⊢
    rw [if_neg (by omega), if_pos h3]
  | n + 1, k, h1, h2, h3 => by
    obtain ⟨k, rfl⟩ := sucK h2
    have hn : n < x0.length := by omega
    have hd := List.drop_eq_getElem_cons hn
    have hx := hb x0[n] (List.getElem_mem hn)
    have h0 := le_nonneg (hb.drop (n + 1))
    simp only [spec_l02Get.l0]
    rw [if_pos (by omega)]
    by_cases hc : le (x0.drop (n + 1)) ≥ 70368744177664
    · rw [if_pos hc]
      have hs := le_split x0 (n + 1) (by omega)
      have ht := le_nonneg (hb.take (n + 1))
      have hp := p256 n
      rw [Int.pow_succ] at hs
      have : 256 ^ n * 256 * le (x0.drop (n + 1)) ≥ 1 * 256 * le (x0.drop (n + 1)) := Int.mul_le_mul_of_nonneg_right (by omega) h0
      rw [if_neg (by omega)]
    · rw [if_neg hc, if_pos (by omega), if_pos (by omega)]
      have hv : wrap64 ((wrap64 (le (x0.drop (n + 1)) * 256)) + (wrap64 (rd x0 (((n + 1 : Nat) : Int) - 1)))) = le (x0.drop n) := by
        rw [show ((n + 1 : Nat) : Int) - 1 = (n : Int) by omega, rd_some hn, hd]
        simp only [le]
        unfold wrap64
        omega
      rw [hv, show wrap64 (((n + 1 : Nat) : Int) - 1 - 1) = (n : Int) - 1 by unfold wrap64; omega]
      exact get_l0 x0 hb h8 n k (by omega) (by omega) (by rw [hd]; simp only [le]; omega)
theorem get_f (l : List Int) (hb : Byt l) (h8 : l.length ≤ 8) (k : Nat) (hk : 8 < k) : spec_l02Get.f k l = some (if le l < 18014398509481984 then le l else 4611686018427387904) := by
  unfold spec_l02Get.f
  rw [show wrap64 ((l.length : Int) - 1) = (l.length : Int) - 1 by unfold wrap64; omega]
  have h := get_l0 l hb h8 l.length k (by omega) (by omega) (by simp [le])
  rw [List.drop_length] at h
  exact h
def spec_l02RootOf.f (l0 : List Int) : Option (List Int) := if l0.length = 64 ∧ (∀ x ∈ l0, 0 ≤ x ∧ x ≤ 255) then some (rootA l0) else none
theorem at8 (a j : Nat) (ha : a ≤ 1000) (hj : j < 32) : wrap64 ((a : Int) + wrap64 (4 * (j : Int))) = ((a + 4 * j : Nat) : Int) := by
  have h : wrap64 (4 * (j : Int)) = 4 * (j : Int) := by unfold wrap64; omega
  rw [h]
  unfold wrap64
  omega
set_option maxHeartbeats 8000000 in
set_option maxRecDepth 100000 in
theorem spec_l02RootOf.calls (A0 : Option Addr) (c0 : Nat) (l0 : List Int) (r : List Int) (w : World) (hr0 : Kd.C (Kd.int .u8) w A0 l0.length l0) (hc0 : l0.length ≤ c0) (h : spec_l02RootOf.f l0 = some r) :
    Calls Tryd.prog 109 #[.slice A0 l0.length c0] w fun e w' => e = .returned (.agg (nums .i64 r).toArray) ∧ Below w.heap.size w w' := by
  unfold spec_l02RootOf.f at h
  by_cases hdom : l0.length = 64 ∧ (∀ x ∈ l0, 0 ≤ x ∧ x ≤ 255)
  case neg => rw [if_neg hdom] at h; cases h
  rw [if_pos hdom] at h
  obtain rfl := Option.some.inj h
  have HL := Aside0.mk hdom.1
  have HBY : Aside0 (Byt l0) := ⟨hdom.2⟩
  have HR0 := Aside0.mk hr0
  have HC0 := Aside0.mk hc0
  clear h hdom hr0 hc0
  have info5_ : (Tryd.prog.info? 5).map (fun i => (i.zero, i.size, i.bytes)) = some (some (.int .u8 0), 1, 1) := by kernel_rfl
  obtain ⟨i0_, hi0_, _, hsz_, _⟩ := info_parts info5_
  have Z124 : ∀ w, (zeroValue 124).run Tryd.prog w = .ok (.agg (nums .i64 (List.replicate 15 0)).toArray) w := fun _ => by kernel_rfl
  obtain ⟨hcut6, hA6, hC6⟩ := print_take_of (P := Tryd.prog) (Value.int .u8) 0 22 5 .i64 Tryd.underlying22 hi0_ hsz_ A0 c0 l0 (8 : Int) (by decide) (by rw [HL.out]; decide) HC0.out
  obtain ⟨q6, hq6⟩ : ∃ q, q = l0.take (8 : Int).toNat := ⟨_, rfl⟩
  rw [← hq6] at hcut6 hA6 hC6
  have hs6 : q6 = seg l0 0 8 := by rw [hq6]; exact rfl
  have HR6 := Aside0.mk (Kd.C_of_reads (h1 := fun _ => rfl) (hA6 _ (Kd.reads_of_C HR0.out)))
  have HC6 := Aside0.mk hC6
  obtain ⟨g0, hg0⟩ : ∃ g, g = gcap (seg l0 0 8) := ⟨_, rfl⟩
  have EG6 := Aside0.mk (show spec_l02Get.f 20 q6 = some g0 by rw [hg0, hs6]; exact get_f (seg l0 0 8) (seg_byt HBY.out _ _) (by rw [seg_le _ _ (by rw [HL.out]; decide)]; decide) 20 (by decide))
  clear hs6 hq6 hA6 hC6
  obtain ⟨A9, hcut9, hA9, hC9⟩ := print_mid_of (P := Tryd.prog) (Value.int .u8) 0 22 5 .i64 .i64 Tryd.underlying22 hi0_ hsz_ A0 c0 l0 (56 : Int) (60 : Int) (by decide) (by decide) (by rw [HL.out]; decide) HC0.out
  obtain ⟨q9, hq9⟩ : ∃ q, q = (l0.take (60 : Int).toNat).drop (56 : Int).toNat := ⟨_, rfl⟩
  rw [← hq9] at hcut9 hA9 hC9
  obtain ⟨k9, hk9⟩ : ∃ k, k = c0 - (56 : Int).toNat := ⟨_, rfl⟩
  rw [← hk9] at hcut9 hC9
  clear hk9
  have hs9 : q9 = seg l0 56 4 := by rw [hq9]; exact take_drop l0 56 60
  have HR9 := Aside0.mk (Kd.C_of_reads (h1 := fun _ => rfl) (hA9 _ (Kd.reads_of_C HR0.out)))
  have HC9 := Aside0.mk hC9
  obtain ⟨g1, hg1⟩ : ∃ g, g = le (seg l0 56 4) := ⟨_, rfl⟩
  have EG9 := Aside0.mk (show spec_l02Get.f 20 q9 = some g1 by rw [hg1, hs9, ← gcap4 (seg_byt HBY.out _ _) (by rw [seg_le _ _ (by rw [HL.out]; decide)]; decide)]; exact get_f (seg l0 56 4) (seg_byt HBY.out _ _) (by rw [seg_le _ _ (by rw [HL.out]; decide)]; decide) 20 (by decide))
  clear hs9 hq9 hA9 hC9
  obtain ⟨A12, hcut12, hA12, hC12⟩ := print_mid_of (P := Tryd.prog) (Value.int .u8) 0 22 5 .i64 .i64 Tryd.underlying22 hi0_ hsz_ A0 c0 l0 (60 : Int) (64 : Int) (by decide) (by decide) (by rw [HL.out]; decide) HC0.out
  obtain ⟨q12, hq12⟩ : ∃ q, q = (l0.take (64 : Int).toNat).drop (60 : Int).toNat := ⟨_, rfl⟩
  rw [← hq12] at hcut12 hA12 hC12
  obtain ⟨k12, hk12⟩ : ∃ k, k = c0 - (60 : Int).toNat := ⟨_, rfl⟩
  rw [← hk12] at hcut12 hC12
  clear hk12
  have hs12 : q12 = seg l0 60 4 := by rw [hq12]; exact take_drop l0 60 64
  have HR12 := Aside0.mk (Kd.C_of_reads (h1 := fun _ => rfl) (hA12 _ (Kd.reads_of_C HR0.out)))
  have HC12 := Aside0.mk hC12
  obtain ⟨g2, hg2⟩ : ∃ g, g = le (seg l0 60 4) := ⟨_, rfl⟩
  have EG12 := Aside0.mk (show spec_l02Get.f 20 q12 = some g2 by rw [hg2, hs12, ← gcap4 (seg_byt HBY.out _ _) (by rw [seg_le _ _ (by rw [HL.out]; decide)]; decide)]; exact get_f (seg l0 60 4) (seg_byt HBY.out _ _) (by rw [seg_le _ _ (by rw [HL.out]; decide)]; decide) 20 (by decide))
  clear hs12 hq12 hA12 hC12
  obtain ⟨ds, hds⟩ : ∃ d, d = rootVals l0 := ⟨_, rfl⟩
  have DL := Aside0.mk (show ds.length = 12 by rw [hds]; exact rootVals_length l0)
  have EGJ := Aside0.mk (show ∀ j, j < 12 → spec_l02Get.f 20 (seg l0 (8 + 4 * j) 4) = some (ds.getD j 0) from fun j hj => by rw [hds, rootVals_get l0 j hj, ← gcap4 (seg_byt HBY.out _ _) (by rw [seg_le _ _ (by rw [HL.out]; omega)]; decide)]; exact get_f _ (seg_byt HBY.out _ _) (by rw [seg_le _ _ (by rw [HL.out]; omega)]; decide) 20 (by decide))
  have hres : rootA l0 = g0 :: (ds ++ [g1, g2]) := by rw [hg0, hg1, hg2, hds]; rfl
  rw [hres]
  clear hres hg0 hg1 hg2 hds
  have HB0 : Aside0 (Below w.heap.size w w) := ⟨Below.refl _ _⟩
  obtain ⟨s0, Sz0⟩ : ∃ s0, Aside0 (w.heap.size = s0) := ⟨_, ⟨rfl⟩⟩
  have hw0 : w.heap.size ≤ s0 := Nat.le_of_eq Sz0.out
  have hw1 : s0 ≤ w.heap.size := Nat.le_of_eq Sz0.out.symm
  go_enter Tryd.func109, Tryd.ntmps109
  go_wp2_with (first | ((with_reducible refine gate_dst (N := 2) rfl ?_); refine hx_alloc rfl 2 rfl 124 rfl Sz0 (.agg (nums .i64 (List.replicate 15 0)).toArray) (nums .i64 (List.replicate 15 0)).toArray Z124 rfl ?_; intro w1 s1 L1 Sz1 b_ g_; have H2_1 := Aside0.mk g_; have HB1 := Aside0.mk (below_then HB0.out HB0.out.size b_); clear b_ g_ HB0))
  refine wp_region_grow_last 11 [Is (.slice A0 l0.length c0), Is (.slice A0 q6.length c0), Is (.int .i64 g0), Is (.slice A0 l0.length c0), Is (.slice A9 q9.length k9), Is (.int .i64 g1), Is (.slice A0 l0.length c0), Is (.slice A12 q12.length k12), Is (.int .i64 g2), Is (.agg (nums .i64 [g0, 0, 0, 0, 0, 0, 0, 0, 0, 0, 0, 0, 0, g1, g2]).toArray), New 124 (nums .i64 (List.replicate 15 0)).toArray w1.heap.size] (by kernel_rfl) (by kernel_rfl) (by kernel_rfl) (by kernel_rfl) (allst_cons st_is (allst_cons st_is (allst_cons st_is (allst_cons st_is (allst_cons st_is (allst_cons st_is (allst_cons st_is (allst_cons st_is (allst_cons st_is (allst_cons st_is (allst_cons st_new allst_nil))))))))))) ?_ (fun w2 hgn => ?_)
  · refine steps_cons ?_ ?_
    · refine stepO_val rfl [] [0] (by kernel_rfl) (.slice A0 l0.length c0) (fun a w_ hg hf => ?_) (fun w_ _ => rfl)
      obtain ⟨_, ⟨o0, _⟩⟩ := hf
      have e0 : a.tmps[0]? = some (.slice A0 l0.length c0) := o0.trans rfl
      unfold execOp
      simp only [PrintLast.eval_of e0]
      rfl
    refine steps_cons ?_ ?_
    · refine stepO_val rfl [(0, 5)] [] (by kernel_rfl) (.slice A0 q6.length c0) (fun a w_ hg hf => ?_) (fun w_ _ => rfl)
      obtain ⟨⟨⟨_, e5, rfl⟩, _⟩, _⟩ := hf
      replace e5 : a.tmps[5]? = some (.slice A0 l0.length c0) := e5
      unfold execOp
      simp only [PrintLast.eval_of e5, Act.eval]
      go_simp
      (try rfl)
    refine steps_cons ?_ ?_
    · refine stepO_call rfl [(1, 6)] [] (by kernel_rfl) Tryd.func108 (by kernel_rfl) rfl rfl (fun a w_ hg hf => ?_)
      obtain ⟨⟨⟨_, e6, rfl⟩, _⟩, _⟩ := hf
      replace e6 : a.tmps[6]? = some (.slice A0 q6.length c0) := e6
      refine ⟨#[.slice A0 q6.length c0], (by simp only [List.map_toArray, List.map_cons, List.map_nil, PrintLast.eval_of e6]; first | done | rfl), (spec_l02Get.calls 20 A0 c0 q6 g0 w_ (Kd.C_below HR6.out (below_then HB1.out HB1.out.size hg)) HC6.out EG6.out).mono ?_⟩
      rintro e_ w2_ ⟨rfl, d_⟩
      have b_ := kept_drawn d_
      exact ⟨_, rfl, b_, rfl⟩
    refine steps_cons ?_ ?_
    · refine stepO_val rfl [] [0] (by kernel_rfl) (.slice A0 l0.length c0) (fun a w_ hg hf => ?_) (fun w_ _ => rfl)
      obtain ⟨_, ⟨o0, _⟩⟩ := hf
      have e0 : a.tmps[0]? = some (.slice A0 l0.length c0) := o0.trans rfl
      unfold execOp
      simp only [PrintLast.eval_of e0]
      rfl
    refine steps_cons ?_ ?_
    · refine stepO_val rfl [(3, 8)] [] (by kernel_rfl) (.slice A9 q9.length k9) (fun a w_ hg hf => ?_) (fun w_ _ => rfl)
      obtain ⟨⟨⟨_, e8, rfl⟩, _⟩, _⟩ := hf
      replace e8 : a.tmps[8]? = some (.slice A0 l0.length c0) := e8
      unfold execOp
      simp only [PrintLast.eval_of e8, Act.eval]
      go_simp
      (try rfl)
    refine steps_cons ?_ ?_
    · refine stepO_call rfl [(4, 9)] [] (by kernel_rfl) Tryd.func108 (by kernel_rfl) rfl rfl (fun a w_ hg hf => ?_)
      obtain ⟨⟨⟨_, e9, rfl⟩, _⟩, _⟩ := hf
      replace e9 : a.tmps[9]? = some (.slice A9 q9.length k9) := e9
      refine ⟨#[.slice A9 q9.length k9], (by simp only [List.map_toArray, List.map_cons, List.map_nil, PrintLast.eval_of e9]; first | done | rfl), (spec_l02Get.calls 20 A9 k9 q9 g1 w_ (Kd.C_below HR9.out (below_then HB1.out HB1.out.size hg)) HC9.out EG9.out).mono ?_⟩
      rintro e_ w2_ ⟨rfl, d_⟩
      have b_ := kept_drawn d_
      exact ⟨_, rfl, b_, rfl⟩
    refine steps_cons ?_ ?_
    · refine stepO_val rfl [] [0] (by kernel_rfl) (.slice A0 l0.length c0) (fun a w_ hg hf => ?_) (fun w_ _ => rfl)
      obtain ⟨_, ⟨o0, _⟩⟩ := hf
      have e0 : a.tmps[0]? = some (.slice A0 l0.length c0) := o0.trans rfl
      unfold execOp
      simp only [PrintLast.eval_of e0]
      rfl
    refine steps_cons ?_ ?_
    · refine stepO_val rfl [(6, 11)] [] (by kernel_rfl) (.slice A12 q12.length k12) (fun a w_ hg hf => ?_) (fun w_ _ => rfl)
      obtain ⟨⟨⟨_, e11, rfl⟩, _⟩, _⟩ := hf
      replace e11 : a.tmps[11]? = some (.slice A0 l0.length c0) := e11
      unfold execOp
      simp only [PrintLast.eval_of e11, Act.eval]
      go_simp
      (try rfl)
    refine steps_cons ?_ ?_
    · refine stepO_call rfl [(7, 12)] [] (by kernel_rfl) Tryd.func108 (by kernel_rfl) rfl rfl (fun a w_ hg hf => ?_)
      obtain ⟨⟨⟨_, e12, rfl⟩, _⟩, _⟩ := hf
      replace e12 : a.tmps[12]? = some (.slice A12 q12.length k12) := e12
      refine ⟨#[.slice A12 q12.length k12], (by simp only [List.map_toArray, List.map_cons, List.map_nil, PrintLast.eval_of e12]; first | done | rfl), (spec_l02Get.calls 20 A12 k12 q12 g2 w_ (Kd.C_below HR12.out (below_then HB1.out HB1.out.size hg)) HC12.out EG12.out).mono ?_⟩
      rintro e_ w2_ ⟨rfl, d_⟩
      have b_ := kept_drawn d_
      exact ⟨_, rfl, b_, rfl⟩
    refine steps_cons ?_ ?_
    · refine stepO_val rfl [(2, 7), (5, 10), (8, 13)] [] (by kernel_rfl) (.agg (nums .i64 [g0, 0, 0, 0, 0, 0, 0, 0, 0, 0, 0, 0, 0, g1, g2]).toArray) (fun a w_ hg hf => ?_) (fun w_ _ => rfl)
      obtain ⟨⟨⟨_, e7, rfl⟩, ⟨_, e10, rfl⟩, ⟨_, e13, rfl⟩, _⟩, _⟩ := hf
      replace e7 : a.tmps[7]? = some (.int .i64 g0) := e7
      replace e10 : a.tmps[10]? = some (.int .i64 g1) := e10
      replace e13 : a.tmps[13]? = some (.int .i64 g2) := e13
      unfold execOp
      simp only [PrintLast.eval_of e7, PrintLast.eval_of e10, PrintLast.eval_of e13, Act.eval]
      go_simp
      (try rfl)
    refine steps_cons ?_ ?_
    · refine stepO_alloc rfl [] [] (by kernel_rfl) rfl (.agg (nums .i64 (List.replicate 15 0)).toArray) (nums .i64 (List.replicate 15 0)).toArray Z124 rfl (fun _ _ h => h)
    exact steps_nil
  · skip
    refine ends_cons (fun v0_ p0_ => ?_)
    obtain rfl : v0_ = _ := p0_
    refine ends_cons (fun v1_ p1_ => ?_)
    obtain rfl : v1_ = _ := p1_
    refine ends_cons (fun v2_ p2_ => ?_)
    obtain rfl : v2_ = _ := p2_
    refine ends_cons (fun v3_ p3_ => ?_)
    obtain rfl : v3_ = _ := p3_
    refine ends_cons (fun v4_ p4_ => ?_)
    obtain rfl : v4_ = _ := p4_
    refine ends_cons (fun v5_ p5_ => ?_)
    obtain rfl : v5_ = _ := p5_
    refine ends_cons (fun v6_ p6_ => ?_)
    obtain rfl : v6_ = _ := p6_
    refine ends_cons (fun v7_ p7_ => ?_)
    obtain rfl : v7_ = _ := p7_
    refine ends_cons (fun v8_ p8_ => ?_)
    obtain rfl : v8_ = _ := p8_
    refine ends_cons (fun v9_ p9_ => ?_)
    obtain rfl : v9_ = _ := p9_
    refine ends_cons (fun v10_ p10_ => ?_)
    obtain ⟨g10_, l10_, rfl, n10_⟩ := p10_
    refine ends_nil ?_
    simp only [Act.put, List.setIfInBounds_toArray, List.set_cons_succ, List.set_cons_zero]
    have HB2 := Aside0.mk (below_then HB1.out HB1.out.size hgn)
    have H2_2 := Aside0.mk (blk_below H2_1.out hgn)
    rw [Sz1.out] at l10_
    have N10 := Aside0.mk n10_
    clear n10_ hgn HB1 H2_1
    simp only [List.drop_succ_cons, List.drop_zero]
    go_wp2_with (first | ((with_reducible refine gate_store (t := 124) (p := 3) (v := .tmp 14) rfl ?_); refine hx_store rfl rfl 124 (.tmp 3) (.tmp 14) rfl g10_ 15 rfl (nums .i64 (g0 :: (filled ds 0 ++ [g1, g2]))).toArray rfl (by kernel_rfl) (nums_size _ _ _ (filled_length DL.out 0 (by decide) _ _ _)) (nums_one _ _) N10.out (by simp [nums]) ?_; intro w3 t_ gg_; have HG_3 := Aside0.mk gg_; have H2_3 := Aside0.mk (t_.keep (show s0 ≠ g10_ by omega) H2_2.out); have HB3 := Aside0.mk (t_.below HB2.out (by omega)); clear t_ gg_ H2_2 HB2 N10))
    (try simp only [Act.put, List.setIfInBounds_toArray, List.set_cons_succ, List.set_cons_zero])
    go_loopw [4, 15] (fun v4 v15 wr => ∃ (j : Nat) (u : Value), u = v4 ∧ v15 = .int .i64 (j : Int) ∧ Aside0 (j ≤ 12) ∧ Aside0 (wr.heap[g10_]? = some (.cells (nums .i64 (g0 :: (filled ds j ++ [g1, g2]))).toArray 124 (0, 0))) ∧ Aside0 (wr.heap[s0]? = some (.cells (nums .i64 (List.replicate 15 0)).toArray 124 (0, 0))) ∧ Aside0 (Below w.heap.size w wr)) (fun _ v15 _ => 12 - (intOf v15).toNat)
    case atStart => exact ⟨0, _, rfl, rfl, ⟨by omega⟩, HG_3, H2_3, HB3⟩
    case round =>
      clear HG_3 H2_3 HB3
      obtain ⟨j, v4, rfl, rfl, hj, HG, H2, HB⟩ := hrel
      by_cases c9 : j < 12
      · have c9b0 : decide ((j : Int) < 12) = true := decide_eq_true (by omega)
        have c9b1 : decide (j < 12) = true := decide_eq_true c9
        have e8 : wrap64 (8 + wrap64 (4 * (j : Int))) = ((8 + 4 * j : Nat) : Int) := at8 8 j (by decide) (by omega)
        have e12 : wrap64 (12 + wrap64 (4 * (j : Int))) = ((12 + 4 * j : Nat) : Int) := at8 12 j (by decide) (by omega)
        obtain ⟨Az, hcutz, hAz, hCz⟩ := print_mid_of (P := Tryd.prog) (Value.int .u8) 0 22 5 .i64 .i64 Tryd.underlying22 hi0_ hsz_ A0 c0 l0 (wrap64 (8 + wrap64 (4 * (j : Int))) : Int) (wrap64 (12 + wrap64 (4 * (j : Int))) : Int) (by rw [e8]; omega) (by rw [e8, e12]; omega) (by rw [e12, HL.out]; omega) HC0.out
        obtain ⟨qz, hqz⟩ : ∃ q, q = (l0.take (wrap64 (12 + wrap64 (4 * (j : Int))) : Int).toNat).drop (wrap64 (8 + wrap64 (4 * (j : Int))) : Int).toNat := ⟨_, rfl⟩
        rw [← hqz] at hcutz hAz hCz
        obtain ⟨kz, hkz⟩ : ∃ k, k = c0 - (wrap64 (8 + wrap64 (4 * (j : Int))) : Int).toNat := ⟨_, rfl⟩
        rw [← hkz] at hcutz hCz
        clear hkz
        have hsz : qz = seg l0 (8 + 4 * j) 4 := by rw [hqz, e8, e12]; exact (take_drop l0 (8 + 4 * j) (12 + 4 * j)).trans (by rw [show 12 + 4 * j - (8 + 4 * j) = 4 by omega])
        have HRz := Aside0.mk (Kd.C_of_reads (h1 := fun _ => rfl) (hAz _ (Kd.reads_of_C HR0.out)))
        have HCz := Aside0.mk hCz
        have EGz := Aside0.mk (show spec_l02Get.f 20 qz = some (ds.getD j 0) by rw [hsz]; exact EGJ.out j c9)
        obtain ⟨dv, hdv⟩ : ∃ d, d = ds.getD j 0 := ⟨_, rfl⟩
        rw [← hdv] at EGz
        have HDV := Aside0.mk hdv
        have C9 := Aside0.mk c9
        have q9 : (0 ≤ (j : Int)) = True := eq_true (by omega)
        have q10 : ((j : Int) < 12) = True := eq_true (by omega)
        have q11 : (j < 12) = True := eq_true c9
        clear hsz hqz hAz hCz hdv c9 e8 e12
        go_wp2_with (first | ((with_reducible refine gate_dst (N := 27) rfl ?_); refine goesL_ (some 27) rfl rfl Tryd.func108 (by kernel_rfl) rfl #[.slice Az qz.length kz] rfl (by (try simp only [List.map_toArray, List.map_cons, List.map_nil]); first | done | rfl) ?_; refine (spec_l02Get.calls 20 Az kz qz dv _ (Kd.C_below HRz.out HB.out) HCz.out EGz.out).mono ?_; rintro e_ w5 ⟨rfl, d_⟩; refine ⟨_, rfl, ?_⟩; have b_ := kept_drawn d_; have HG5 := Aside0.mk (blk_below HG.out b_); have H25 := Aside0.mk (blk_below H2.out b_); have HB5 := Aside0.mk (below_then HB.out HB.out.size b_); clear b_ d_ HG H2 HB) | ((with_reducible refine gate_store (t := 3) (p := 29) (v := .tmp 27) rfl ?_); refine st_num rfl rfl 3 (.tmp 29) (.tmp 27) rfl g10_ (1 + j) .i64 dv rfl rfl (by kernel_rfl) HG5.out (by rw [filled_length DL.out j (by have := C9.out; omega)]; have := C9.out; omega) ?_; intro w6 t_ gg_; have HG6 := Aside0.mk gg_; have H26 := Aside0.mk (t_.keep (show s0 ≠ g10_ by omega) H25.out); have HB6 := Aside0.mk (t_.below HB5.out (by omega)); clear t_ gg_ HG5 H25 HB5))
        go_roundw
        case rel =>
          refine ⟨j + 1, _, rfl, by rw [show wrap64 ((j : Int) + 1) = ((j + 1 : Nat) : Int) by (have := C9.out; unfold wrap64; omega)], ⟨by have := C9.out; omega⟩, ⟨?_⟩, H26, HB6⟩
          have h_ := HG6.out
          rw [HDV.out, filled_next DL.out j C9.out] at h_
          exact h_
        case measure =>
          rw [show wrap64 ((j : Int) + 1) = ((j + 1 : Nat) : Int) by (have := C9.out; unfold wrap64; omega)]
          simp only [intOf, Int.toNat_natCast]
          have := C9.out
          omega
      · obtain rfl : j = 12 := by have := hj.out; omega
        have c9b0 : decide ((12 : Int) < 12) = false := by decide
        have hf := HG.out
        rw [filled_all DL.out] at hf
        have HF := Aside0.mk hf
        clear c9 hf HG
        go_wp2_with (first | ((with_reducible refine gate_dst (N := 31) rfl ?_); refine hx_load rfl 124 (.tmp 3) rfl g10_ 15 rfl Tryd.underlying124 rfl (by kernel_rfl) HF.out (by simp [nums, DL.out]) ?_) | ((with_reducible refine gate_store (t := 124) (p := 2) (v := .tmp 31) rfl ?_); refine hx_store rfl rfl 124 (.tmp 2) (.tmp 31) rfl s0 15 rfl (nums .i64 (g0 :: (ds ++ [g1, g2]))).toArray rfl (by kernel_rfl) (by simp [nums, DL.out]) (nums_one _ _) H2.out (by simp [nums]) ?_; intro w7 t_ gg_; have HR7 := Aside0.mk gg_; have HB7 := Aside0.mk (t_.below HB.out (by omega)); clear t_ gg_))
        exact bodyPost_ret (results_cell_row rfl _ _ s0 124 _ (0, 0) _ rfl HR7.out Tryd.underlying124 rfl (by rw [nums_size _ _ 15 (by simp [DL.out])]; kernel_rfl)) rfl ⟨rfl, HB7.out⟩
def spec_l02Join.l0 : Nat → List Int → List (List Int) → Int → Int → Option (List Int)
  | 0, _, _, _, _ => none
  | k + 1, x3, x7, x8, x9 => if x9 < x8 then (if 0 ≤ x9 then (if x9 < (x7.length : Int) then (if x3.length + (rd_L1 x7 x9).length < 140737488355328 then (spec_l02Join.l0 k (x3 ++ (rd_L1 x7 x9)) x7 x8 (wrap64 (x9 + 1))) else (none)) else (none)) else (none)) else (some x3)
def spec_l02Join.f (k : Nat) (l0 : List (List Int)) : Option (List Int) := spec_l02Join.l0 k (([] : List Int)) l0 (l0.length : Int) 0
theorem spec_l02Join.mono_l : ∀ k, (∀ y0 y1 y2 y3, LeO (spec_l02Join.l0 k y0 y1 y2 y3) (spec_l02Join.l0 (k + 1) y0 y1 y2 y3))
  | 0 => fun _ _ _ _ r h => by simp [spec_l02Join.l0] at h
  | k + 1 => by
    have ih0 := spec_l02Join.mono_l k
    · intro y0 y1 y2 y3
      unfold spec_l02Join.l0
      repeat' first
      | (with_reducible exact ih0 _ _ _ _)
      | (with_reducible exact LeO.refl _)
      | (with_reducible exact LeO.none _)
      | (with_reducible refine LeO.ite ?_ ?_)
      | (with_reducible refine LeO.bind ?_ (fun _ => ?_))
      | exact ih0 _ _ _ _
      | exact LeO.none _
      | refine LeO.ite ?_ ?_
      | refine LeO.bind ?_ (fun _ => ?_)
theorem spec_l02Join.mono : ∀ a0 k, LeO (spec_l02Join.f k a0) (spec_l02Join.f (k + 1) a0) := by
  intro a0 k
  have ih0 := spec_l02Join.mono_l k
  unfold spec_l02Join.f
  repeat' first
      | (with_reducible exact ih0 _ _ _ _)
      | (with_reducible exact LeO.refl _)
      | (with_reducible exact LeO.none _)
      | (with_reducible refine LeO.ite ?_ ?_)
      | (with_reducible refine LeO.bind ?_ (fun _ => ?_))
      | exact ih0 _ _ _ _
      | exact LeO.none _
      | refine LeO.ite ?_ ?_
      | refine LeO.bind ?_ (fun _ => ?_)
set_option maxHeartbeats 8000000 in
set_option maxRecDepth 100000 in
theorem spec_l02Join.calls (k : Nat) (A0 : Option Addr) (c0 : Nat) (l0 : List (List Int)) (r : List Int) (w : World) (hr0 : Kd.C (Kd.slice 5 (Kd.int .u8)) w A0 l0.length l0) (hc0 : l0.length ≤ c0) (h : spec_l02Join.f k l0 = some r) :
    Calls Tryd.prog 136 #[.slice A0 l0.length c0] w fun e w' => ∃ v0_ : Value, e = .returned (v0_) ∧ Kd.R (Kd.int .u8) 5 w' w.heap.size (fun _ => True) v0_ r ∧ Below w.heap.size w w' := by
  have HR0 := Aside0.mk hr0
  have HC0 := Aside0.mk hc0
  clear hr0 hc0
  have HB := Aside0.mk (Below.refl w.heap.size w)
  have H : (spec_l02Join.l0 k (([] : List Int)) l0 (l0.length : Int) 0) = some r := h
  clear h
  obtain ⟨y110, hy110⟩ : ∃ y_ : List Int, y_ = (([] : List Int)) := ⟨_, rfl⟩
  replace H : (spec_l02Join.l0 k y110 l0 (l0.length : Int) 0) = some r := by first | (rw [hy110]; with_reducible exact H) | (have H2_ := (Option.bind_some _ _).symm.trans H; rw [hy110]; with_reducible exact H2_) | (have H2_ := (Option.bind_some _ _).symm.trans H; with_reducible exact H2_) | with_reducible exact H | (rw [hy110]; exact H) | exact H
  have Ny110 := Aside0.mk hy110
  clear hy110
  have H' := Aside0.mk H
  clear H
  go_enter Tryd.func136, Tryd.ntmps136
  go_wp2_with (first | ((with_reducible refine gate_dst (N := 6) rfl ?_); refine Kd.R_lit (Kd.int .u8) _ 5 ?hg (N := 6) ?hd (xs := ([] : List Int)) (inner := []) (ok := fun _ => True) (okp := fun _ => True) ?hr ?hp (fun _ hk => hk) trivial (Below.refl _ _) (Nat.le_refl _) (by simp) ?_; (case hd => rfl); (case hg => rfl); (case hr => first | (go_simp; done) | (go_simp; rfl)); (case hp => exact (Reps.none _ _)); intro v111 w2 ho3 hb hg_ hnew_; clear hg_ hnew_; (first | rw [← Ny110.out] at ho3 | (simp only [Int.reduceToNat] at ho3; rw [← Ny110.out] at ho3)); have n0_ := Aside0.mk (Kd.R_lower ho3 (below_size (by repeat (first | (with_reducible first | exact HB.out | apply below_alloc | apply pw_below_drewN | apply below_drew1) | exact HB.out)))); have n1_ := Aside0.mk (below_step (by repeat (first | (with_reducible first | exact HB.out | apply below_alloc | apply pw_below_drewN | apply below_drew1) | exact HB.out)) hb); clear HB; have HO112 := n0_; have HB := n1_; clear n0_ n1_; clear hb ho3))
  go_loopg [3, 9] k (fun kq v3 v9 w' => ∃ (x3_1 : List Int) (x9_1 : Int), v9 = .int .i64 x9_1 ∧ Aside0 (spec_l02Join.l0 kq x3_1 l0 (l0.length : Int) x9_1 = some r) ∧ Aside0 (kq ≤ k) ∧ Aside0 (Kd.R (Kd.int .u8) 5 w' w.heap.size (fun _ => True) v3 x3_1) ∧ Aside0 (Below w.heap.size w w'))
  case atStart => exact ⟨(y110), (0), (by first | rfl | (simp; done) | (simp [*]; done)), H', ⟨Nat.le_refl _⟩, ⟨by (with_reducible repeat (first | apply Kd.R_alloc | apply Kd.R_drewN | apply Kd.R_drew)); exact HO112.out⟩, ⟨by repeat (first | (with_reducible first | exact HB.out | apply below_alloc | apply pw_below_drewN | apply below_drew1) | exact HB.out)⟩⟩
  case round =>
    clear H'
    try clear c1
    try clear p2
    obtain ⟨x3_1, x9_1, rfl, HA, HK1, HO_3, HB⟩ := hrel
    cases gk with
    | zero => exact absurd HA.out (by simp [spec_l02Join.l0])
    | succ k1 =>
      have H := HA.out
      clear HA
      simp only [spec_l02Join.l0] at H
      by_cases c4 : x9_1 < (l0.length : Int)
      · rw [if_pos c4] at H
        have c4b0 : decide (x9_1 < (l0.length : Int)) = true := decide_eq_true c4
        clear c4
        by_cases c5 : 0 ≤ x9_1
        · rw [if_pos c5] at H
          have c5b0 : decide (0 ≤ x9_1) = true := decide_eq_true c5
          clear c5
          by_cases c6 : x9_1 < (l0.length : Int)
          · rw [if_pos c6] at H
            have c6b0 : decide (x9_1 < (l0.length : Int)) = true := decide_eq_true c6
            clear c6
            by_cases c7 : x3_1.length + (rd_L1 l0 x9_1).length < 140737488355328
            · rw [if_pos c7] at H
              have LMc7 := Aside0.mk c7
              clear c7
              obtain ⟨y114, hy114⟩ : ∃ y_ : List Int, y_ = (x3_1 ++ (rd_L1 l0 x9_1)) := ⟨_, rfl⟩
              replace H : (spec_l02Join.l0 k1 y114 l0 (l0.length : Int) (wrap64 (x9_1 + 1))) = some r := by first | (rw [hy114]; with_reducible exact H) | (have H2_ := (Option.bind_some _ _).symm.trans H; rw [hy114]; with_reducible exact H2_) | (have H2_ := (Option.bind_some _ _).symm.trans H; with_reducible exact H2_) | with_reducible exact H | (rw [hy114]; exact H) | exact H
              have Ny114 := Aside0.mk hy114
              clear hy114
              have H' := Aside0.mk H
              clear H
              have p113 : 0 ≤ (x9_1 : Int) := of_decide_eq_true (by first | (with_reducible assumption) | assumption)
              have q113 : x9_1 < (l0.length : Int) := of_decide_eq_true (by first | (with_reducible assumption) | assumption)
              obtain ⟨ad113, A113_0, c113_0, e113, hx113_0, hl113_0, hi113_0⟩ := at_L1 HR0.out x9_1 p113 q113
              cases e113
              replace hx113_0 := (HB.out.cell (World.block_lt_of_cell? w _ hx113_0)).trans hx113_0
              have HR113_0 := Aside0.mk hi113_0
              have HC113_0 := Aside0.mk hl113_0
              clear hi113_0 hl113_0
              replace p113 := eq_true p113
              replace q113 := eq_true q113
              go_wp2_with (first | ((with_reducible refine gate_builtin (b := .append) (xs := #[.tmp 13, .tmp 14]) rfl ?_); at_builtin; refine Kd.R_append_rows (Kd.int .u8) (w0 := w) w.heap.size rfl (.tmp 13) (.tmp 14) 22 5 (.int .u8 0) 1 rfl Tryd.underlying22 info5 rfl (by decide) (by omega) u3 x3_1 (rd_L1 l0 x9_1) _ _ _ (fun _ => True) (fun _ => False) rfl rfl ?aO ?aR (fun _ _ h => h) (fun _ h => h.elim) ?aF ?aB ?aS ?aL ?_; (case aR => repeat (first | exact (Kd.C_below HR113_0.out HB.out) | (with_reducible refine Kd.C_alloc ?_ _) | (with_reducible refine Kd.C_drewN ?_ _) | (with_reducible refine Kd.C_drew ?_))); (case aB => exact (by repeat (first | (with_reducible first | exact HB.out | apply below_alloc | apply pw_below_drewN | apply below_drew1) | exact HB.out))); (case aF => exact (fun _ _ => trivial)); (case aO => exact (by (with_reducible repeat (first | apply Kd.R_alloc | apply Kd.R_drewN | apply Kd.R_drew)); exact HO_3.out)); (case aS => exact (below_size (by repeat (first | (with_reducible first | exact HB.out | apply below_alloc | apply pw_below_drewN | apply below_drew1) | exact HB.out)))); (case aL => have := LMc7.out; omega); intro v115 w8 ho hb hg hat; rw [← Ny114.out] at ho; have n0_ := Aside0.mk (hb); have n1_ := Aside0.mk (ho); clear HB; clear HO_3; have HB := n0_; have HO116 := n1_; clear n0_ n1_; clear ho hb hg hat))
              go_roundg k1
              case measure => have := HK1.out; omega
              case rel => exact ⟨(y114), (wrap64 (x9_1 + 1)), (by first | rfl | (simp; done) | (simp [*]; done)), H', ⟨by have := HK1.out; omega⟩, ⟨by (with_reducible repeat (first | apply Kd.R_alloc | apply Kd.R_drewN | apply Kd.R_drew)); exact HO116.out⟩, ⟨by repeat (first | (with_reducible first | exact HB.out | apply below_alloc | apply pw_below_drewN | apply below_drew1) | exact HB.out)⟩⟩
            · rw [if_neg c7] at H
              exact absurd H (by simp)
          · rw [if_neg c6] at H
            exact absurd H (by simp)
        · rw [if_neg c5] at H
          exact absurd H (by simp)
      · rw [if_neg c4] at H
        have c4b0 : decide (x9_1 < (l0.length : Int)) = false := decide_eq_false c4
        clear c4
        obtain rfl := Option.some.inj H
        go_wp2
        go_ret
        exact ⟨_, by first | rfl | (simp [errW_none, errW_some] <;> rfl) | (simp [*, errW_none, errW_some] <;> rfl), by (with_reducible repeat (first | apply Kd.R_alloc | apply Kd.R_drewN | apply Kd.R_drew)); exact HO_3.out, by repeat (first | (with_reducible first | exact HB.out | apply below_alloc | apply pw_below_drewN | apply below_drew1) | exact HB.out)⟩
def spec_l02Put.l0 : Nat → Int → Int → List Int → Int → Option (List Int)
  | 0, _, _, _, _ => none
  | k + 1, x0, x1, x5, x6 => if x6 < x1 then (if x5.length < 140737488355328 then (spec_l02Put.l0 k (wrap64 (Int.tdiv x0 256)) x1 (x5 ++ [(Int.tmod x0 256) % 256]) (wrap64 (x6 + 1))) else (none)) else (some x5)
def spec_l02Put.f (k : Nat) (a0 : Int) (a1 : Int) : Option (List Int) := spec_l02Put.l0 k a0 a1 (([] : List Int)) 0
theorem spec_l02Put.mono_l : ∀ k, (∀ y0 y1 y2 y3, LeO (spec_l02Put.l0 k y0 y1 y2 y3) (spec_l02Put.l0 (k + 1) y0 y1 y2 y3))
  | 0 => fun _ _ _ _ r h => by simp [spec_l02Put.l0] at h
  | k + 1 => by
    have ih0 := spec_l02Put.mono_l k
    · intro y0 y1 y2 y3
      unfold spec_l02Put.l0
      repeat' first
      | (with_reducible exact ih0 _ _ _ _)
      | (with_reducible exact LeO.refl _)
      | (with_reducible exact LeO.none _)
      | (with_reducible refine LeO.ite ?_ ?_)
      | (with_reducible refine LeO.bind ?_ (fun _ => ?_))
      | exact ih0 _ _ _ _
      | exact LeO.none _
      | refine LeO.ite ?_ ?_
      | refine LeO.bind ?_ (fun _ => ?_)
theorem spec_l02Put.mono : ∀ a0 a1 k, LeO (spec_l02Put.f k a0 a1) (spec_l02Put.f (k + 1) a0 a1) := by
  intro a0 a1 k
  have ih0 := spec_l02Put.mono_l k
  unfold spec_l02Put.f
  repeat' first
      | (with_reducible exact ih0 _ _ _ _)
      | (with_reducible exact LeO.refl _)
      | (with_reducible exact LeO.none _)
      | (with_reducible refine LeO.ite ?_ ?_)
      | (with_reducible refine LeO.bind ?_ (fun _ => ?_))
      | exact ih0 _ _ _ _
      | exact LeO.none _
      | refine LeO.ite ?_ ?_
      | refine LeO.bind ?_ (fun _ => ?_)
set_option maxHeartbeats 8000000 in
set_option maxRecDepth 100000 in
theorem spec_l02Put.calls (k : Nat) (a0 : Int) (a1 : Int) (r : List Int) (w : World) (h : spec_l02Put.f k a0 a1 = some r) :
    Calls Tryd.prog 137 #[.int .i64 a0, .int .i64 a1] w fun e w' => ∃ v0_ : Value, e = .returned (v0_) ∧ Kd.R (Kd.int .u8) 5 w' w.heap.size (fun _ => True) v0_ r ∧ Below w.heap.size w w' := by
  have HB := Aside0.mk (Below.refl w.heap.size w)
  have H : (spec_l02Put.l0 k a0 a1 (([] : List Int)) 0) = some r := h
  clear h
  obtain ⟨y117, hy117⟩ : ∃ y_ : List Int, y_ = (([] : List Int)) := ⟨_, rfl⟩
  replace H : (spec_l02Put.l0 k a0 a1 y117 0) = some r := by first | (rw [hy117]; with_reducible exact H) | (have H2_ := (Option.bind_some _ _).symm.trans H; rw [hy117]; with_reducible exact H2_) | (have H2_ := (Option.bind_some _ _).symm.trans H; with_reducible exact H2_) | with_reducible exact H | (rw [hy117]; exact H) | exact H
  have Ny117 := Aside0.mk hy117
  clear hy117
  have H' := Aside0.mk H
  clear H
  go_enter Tryd.func137, Tryd.ntmps137
  go_wp2_with (first | ((with_reducible refine gate_dst (N := 7) rfl ?_); refine Kd.R_lit (Kd.int .u8) _ 5 ?hg (N := 7) ?hd (xs := ([] : List Int)) (inner := []) (ok := fun _ => True) (okp := fun _ => True) ?hr ?hp (fun _ hk => hk) trivial (Below.refl _ _) (Nat.le_refl _) (by simp) ?_; (case hd => rfl); (case hg => rfl); (case hr => first | (go_simp; done) | (go_simp; rfl)); (case hp => exact (Reps.none _ _)); intro v118 w3 ho4 hb hg_ hnew_; clear hg_ hnew_; (first | rw [← Ny117.out] at ho4 | (simp only [Int.reduceToNat] at ho4; rw [← Ny117.out] at ho4)); have n0_ := Aside0.mk (Kd.R_lower ho4 (below_size (by repeat (first | (with_reducible first | exact HB.out | apply below_alloc | apply pw_below_drewN | apply below_drew1) | exact HB.out)))); have n1_ := Aside0.mk (below_step (by repeat (first | (with_reducible first | exact HB.out | apply below_alloc | apply pw_below_drewN | apply below_drew1) | exact HB.out)) hb); clear HB; have HO119 := n0_; have HB := n1_; clear n0_ n1_; clear hb ho4))
  go_loopg [0, 5, 6] k (fun kq v0 v5 v6 w' => ∃ (x0_1 : Int) (x5_1 : List Int) (x6_1 : Int), v0 = .int .i64 x0_1 ∧ v6 = .int .i64 x6_1 ∧ Aside0 (spec_l02Put.l0 kq x0_1 a1 x5_1 x6_1 = some r) ∧ Aside0 (kq ≤ k) ∧ Aside0 (Kd.R (Kd.int .u8) 5 w' w.heap.size (fun _ => True) v5 x5_1) ∧ Aside0 (Below w.heap.size w w'))
  case atStart => exact ⟨(a0), (y117), (0), (by first | rfl | (simp; done) | (simp [*]; done)), (by first | rfl | (simp; done) | (simp [*]; done)), H', ⟨Nat.le_refl _⟩, ⟨by (with_reducible repeat (first | apply Kd.R_alloc | apply Kd.R_drewN | apply Kd.R_drew)); exact HO119.out⟩, ⟨by repeat (first | (with_reducible first | exact HB.out | apply below_alloc | apply pw_below_drewN | apply below_drew1) | exact HB.out)⟩⟩
  case round =>
    clear H'
    try clear c1
    try clear p2
    obtain ⟨x0_1, x5_1, x6_1, rfl, rfl, HA, HK1, HO_5, HB⟩ := hrel
    cases gk with
    | zero => exact absurd HA.out (by simp [spec_l02Put.l0])
    | succ k1 =>
      have H := HA.out
      clear HA
      simp only [spec_l02Put.l0] at H
      by_cases c5 : x6_1 < a1
      · rw [if_pos c5] at H
        have c5b0 : decide (x6_1 < a1) = true := decide_eq_true c5
        clear c5
        by_cases c6 : x5_1.length < 140737488355328
        · rw [if_pos c6] at H
          have LMc6 := Aside0.mk c6
          clear c6
          obtain ⟨y120, hy120⟩ : ∃ y_ : List Int, y_ = (x5_1 ++ [(Int.tmod x0_1 256) % 256]) := ⟨_, rfl⟩
          replace H : (spec_l02Put.l0 k1 (wrap64 (Int.tdiv x0_1 256)) a1 y120 (wrap64 (x6_1 + 1))) = some r := by first | (rw [hy120]; with_reducible exact H) | (have H2_ := (Option.bind_some _ _).symm.trans H; rw [hy120]; with_reducible exact H2_) | (have H2_ := (Option.bind_some _ _).symm.trans H; with_reducible exact H2_) | with_reducible exact H | (rw [hy120]; exact H) | exact H
          have Ny120 := Aside0.mk hy120
          clear hy120
          have H' := Aside0.mk H
          clear H
          go_wp2_with (first | ((with_reducible refine gate_builtin (b := .append) (xs := #[.tmp 13, .tmp 17]) rfl ?_); at_builtin; refine Kd.R_append (Kd.int .u8) (w0 := w) w.heap.size rfl (.tmp 13) (.tmp 17) 22 5 (.int .u8 0) 1 rfl Tryd.underlying22 info5 rfl (by decide) (by omega) u5 x5_1 ((Int.tmod x0_1 256) % 256) [.int .u8 ((Int.tmod x0_1 256) % 256)] (fun _ => True) (fun _ => False) rfl rfl ?aP (fun _ hk => hk.elim) ?aF ?aO ?aB ?aS ?aL ?_; (case aP => exact rfl); (case aB => exact (by repeat (first | (with_reducible first | exact HB.out | apply below_alloc | apply pw_below_drewN | apply below_drew1) | exact HB.out))); (case aF => exact (fun _ _ => trivial)); (case aO => exact (by (with_reducible repeat (first | apply Kd.R_alloc | apply Kd.R_drewN | apply Kd.R_drew)); exact HO_5.out)); (case aS => exact (below_size (by repeat (first | (with_reducible first | exact HB.out | apply below_alloc | apply pw_below_drewN | apply below_drew1) | exact HB.out)))); (case aL => have := LMc6.out; omega); intro v121 w7 ho hb hg hat; rw [← Ny120.out] at ho; have n0_ := Aside0.mk (hb); have n1_ := Aside0.mk (ho); clear HB; clear HO_5; have HB := n0_; have HO122 := n1_; clear n0_ n1_; clear ho hb hg hat))
          go_roundg k1
          case measure => have := HK1.out; omega
          case rel => exact ⟨(wrap64 (Int.tdiv x0_1 256)), (y120), (wrap64 (x6_1 + 1)), (by first | rfl | (simp; done) | (simp [*]; done)), (by first | rfl | (simp; done) | (simp [*]; done)), H', ⟨by have := HK1.out; omega⟩, ⟨by (with_reducible repeat (first | apply Kd.R_alloc | apply Kd.R_drewN | apply Kd.R_drew)); exact HO122.out⟩, ⟨by repeat (first | (with_reducible first | exact HB.out | apply below_alloc | apply pw_below_drewN | apply below_drew1) | exact HB.out)⟩⟩
        · rw [if_neg c6] at H
          exact absurd H (by simp)
      · rw [if_neg c5] at H
        have c5b0 : decide (x6_1 < a1) = false := decide_eq_false c5
        clear c5
        obtain rfl := Option.some.inj H
        go_wp2
        go_ret
        exact ⟨_, by first | rfl | (simp [errW_none, errW_some] <;> rfl) | (simp [*, errW_none, errW_some] <;> rfl), by (with_reducible repeat (first | apply Kd.R_alloc | apply Kd.R_drewN | apply Kd.R_drew)); exact HO_5.out, by repeat (first | (with_reducible first | exact HB.out | apply below_alloc | apply pw_below_drewN | apply below_drew1) | exact HB.out)⟩
def spec_l02Fill.l0 : Nat → Int → List Int → Option (List Int)
  | 0, _, _ => none
  | k + 1, x1, x5 => if (x5.length : Int) < x1 then (if x5.length < 140737488355328 then (spec_l02Fill.l0 k x1 (x5 ++ [0])) else (none)) else (some x5)
def spec_l02Fill.f (k : Nat) (l0 : List Int) (a1 : Int) : Option (List Int) := (some (([] : List Int) : List Int)).bind fun y123 => (if y123.length + l0.length < 140737488355328 then (spec_l02Fill.l0 k a1 (y123 ++ l0)) else (none))
theorem spec_l02Fill.mono_l : ∀ k, (∀ y0 y1, LeO (spec_l02Fill.l0 k y0 y1) (spec_l02Fill.l0 (k + 1) y0 y1))
  | 0 => fun _ _ r h => by simp [spec_l02Fill.l0] at h
  | k + 1 => by
    have ih0 := spec_l02Fill.mono_l k
    · intro y0 y1
      unfold spec_l02Fill.l0
      repeat' first
      | (with_reducible exact ih0 _ _)
      | (with_reducible exact LeO.refl _)
      | (with_reducible exact LeO.none _)
      | (with_reducible refine LeO.ite ?_ ?_)
      | (with_reducible refine LeO.bind ?_ (fun _ => ?_))
      | exact ih0 _ _
      | exact LeO.none _
      | refine LeO.ite ?_ ?_
      | refine LeO.bind ?_ (fun _ => ?_)
theorem spec_l02Fill.mono : ∀ a0 a1 k, LeO (spec_l02Fill.f k a0 a1) (spec_l02Fill.f (k + 1) a0 a1) := by
  intro a0 a1 k
  have ih0 := spec_l02Fill.mono_l k
  unfold spec_l02Fill.f
  repeat' first
      | (with_reducible exact ih0 _ _)
      | (with_reducible exact LeO.refl _)
      | (with_reducible exact LeO.none _)
      | (with_reducible refine LeO.ite ?_ ?_)
      | (with_reducible refine LeO.bind ?_ (fun _ => ?_))
      | exact ih0 _ _
      | exact LeO.none _
      | refine LeO.ite ?_ ?_
      | refine LeO.bind ?_ (fun _ => ?_)
set_option maxHeartbeats 8000000 in
set_option maxRecDepth 100000 in
theorem spec_l02Fill.calls (k : Nat) (A0 : Option Addr) (c0 : Nat) (l0 : List Int) (a1 : Int) (r : List Int) (w : World) (hr0 : Kd.C (Kd.int .u8) w A0 l0.length l0) (hc0 : l0.length ≤ c0) (h : spec_l02Fill.f k l0 a1 = some r) :
    Calls Tryd.prog 138 #[.slice A0 l0.length c0, .int .i64 a1] w fun e w' => ∃ v0_ : Value, e = .returned (v0_) ∧ Kd.R (Kd.int .u8) 5 w' w.heap.size (fun _ => True) v0_ r ∧ Below w.heap.size w w' := by
  have HR0 := Aside0.mk hr0
  have HC0 := Aside0.mk hc0
  clear hr0 hc0
  have HB := Aside0.mk (Below.refl w.heap.size w)
  have H : ((some (([] : List Int) : List Int)).bind fun y123 => (if y123.length + l0.length < 140737488355328 then (spec_l02Fill.l0 k a1 (y123 ++ l0)) else (none))) = some r := h
  clear h
  obtain ⟨y123, hy123⟩ : ∃ y_ : List Int, y_ = (([] : List Int)) := ⟨_, rfl⟩
  replace H : (if y123.length + l0.length < 140737488355328 then (spec_l02Fill.l0 k a1 (y123 ++ l0)) else (none)) = some r := by first | (rw [hy123]; with_reducible exact H) | (have H2_ := (Option.bind_some _ _).symm.trans H; rw [hy123]; with_reducible exact H2_) | (have H2_ := (Option.bind_some _ _).symm.trans H; with_reducible exact H2_) | with_reducible exact H | (rw [hy123]; exact H) | exact H
  have Ny123 := Aside0.mk hy123
  clear hy123
  by_cases c3 : y123.length + l0.length < 140737488355328
  · rw [if_pos c3] at H
    have LMc3 := Aside0.mk c3
    clear c3
    obtain ⟨y126, hy126⟩ : ∃ y_ : List Int, y_ = (y123 ++ l0) := ⟨_, rfl⟩
    replace H : (spec_l02Fill.l0 k a1 y126) = some r := by first | (rw [hy126]; with_reducible exact H) | (have H2_ := (Option.bind_some _ _).symm.trans H; rw [hy126]; with_reducible exact H2_) | (have H2_ := (Option.bind_some _ _).symm.trans H; with_reducible exact H2_) | with_reducible exact H | (rw [hy126]; exact H) | exact H
    have Ny126 := Aside0.mk hy126
    clear hy126
    have H' := Aside0.mk H
    clear H
    go_enter Tryd.func138, Tryd.ntmps138
    go_wp2_with (first | ((with_reducible refine gate_dst (N := 6) rfl ?_); refine Kd.R_lit (Kd.int .u8) _ 5 ?hg (N := 6) ?hd (xs := ([] : List Int)) (inner := []) (ok := fun _ => True) (okp := fun _ => True) ?hr ?hp (fun _ hk => hk) trivial (Below.refl _ _) (Nat.le_refl _) (by simp) ?_; (case hd => rfl); (case hg => rfl); (case hr => first | (go_simp; done) | (go_simp; rfl)); (case hp => exact (Reps.none _ _)); intro v124 w4 ho5 hb hg_ hnew_; clear hg_ hnew_; (first | rw [← Ny123.out] at ho5 | (simp only [Int.reduceToNat] at ho5; rw [← Ny123.out] at ho5)); have n0_ := Aside0.mk (Kd.R_lower ho5 (below_size (by repeat (first | (with_reducible first | exact HB.out | apply below_alloc | apply pw_below_drewN | apply below_drew1) | exact HB.out)))); have n1_ := Aside0.mk (below_step (by repeat (first | (with_reducible first | exact HB.out | apply below_alloc | apply pw_below_drewN | apply below_drew1) | exact HB.out)) hb); clear HB; have HO125 := n0_; have HB := n1_; clear n0_ n1_; clear hb ho5) | ((with_reducible refine gate_builtin (b := .append) (xs := #[.tmp 6, .tmp 7]) rfl ?_); at_builtin; refine Kd.R_append_rows (Kd.int .u8) (w0 := w) w.heap.size rfl (.tmp 6) (.tmp 7) 22 5 (.int .u8 0) 1 rfl Tryd.underlying22 info5 rfl (by decide) (by omega) v124 y123 l0 _ _ _ (fun _ => True) (fun _ => False) rfl rfl ?aO ?aR (fun _ _ h => h) (fun _ h => h.elim) ?aF ?aB ?aS ?aL ?_; (case aR => repeat (first | exact (Kd.C_below HR0.out HB.out) | (with_reducible refine Kd.C_alloc ?_ _) | (with_reducible refine Kd.C_drewN ?_ _) | (with_reducible refine Kd.C_drew ?_))); (case aB => exact (by repeat (first | (with_reducible first | exact HB.out | apply below_alloc | apply pw_below_drewN | apply below_drew1) | exact HB.out))); (case aF => exact (fun _ _ => trivial)); (case aO => exact (by (with_reducible repeat (first | apply Kd.R_alloc | apply Kd.R_drewN | apply Kd.R_drew)); exact HO125.out)); (case aS => exact (below_size (by repeat (first | (with_reducible first | exact HB.out | apply below_alloc | apply pw_below_drewN | apply below_drew1) | exact HB.out)))); (case aL => have := LMc3.out; omega); intro v127 w6 ho hb hg hat; rw [← Ny126.out] at ho; have n0_ := Aside0.mk (hb); have n1_ := Aside0.mk (ho); clear HB; clear HO125; have HB := n0_; have HO128 := n1_; clear n0_ n1_; clear ho hb hg hat))
    go_loopg [5] k (fun kq v5 w' => ∃ (x5_1 : List Int), Aside0 (spec_l02Fill.l0 kq a1 x5_1 = some r) ∧ Aside0 (kq ≤ k) ∧ Aside0 (Kd.R (Kd.int .u8) 5 w' w.heap.size (fun _ => True) v5 x5_1) ∧ Aside0 (Below w.heap.size w w'))
    case atStart => exact ⟨(y126), H', ⟨Nat.le_refl _⟩, ⟨by (with_reducible repeat (first | apply Kd.R_alloc | apply Kd.R_drewN | apply Kd.R_drew)); exact HO128.out⟩, ⟨by repeat (first | (with_reducible first | exact HB.out | apply below_alloc | apply pw_below_drewN | apply below_drew1) | exact HB.out)⟩⟩
    case round =>
      clear H'
      try clear c1
      try clear p2
      try clear c3
      obtain ⟨x5_1, HA, HK1, HO_5, HB⟩ := hrel
      cases gk with
      | zero => exact absurd HA.out (by simp [spec_l02Fill.l0])
      | succ k1 =>
        have H := HA.out
        clear HA
        simp only [spec_l02Fill.l0] at H
        by_cases c7 : (x5_1.length : Int) < a1
        · rw [if_pos c7] at H
          have c7b0 : decide ((x5_1.length : Int) < a1) = true := decide_eq_true c7
          clear c7
          by_cases c8 : x5_1.length < 140737488355328
          · rw [if_pos c8] at H
            have LMc8 := Aside0.mk c8
            clear c8
            obtain ⟨y129, hy129⟩ : ∃ y_ : List Int, y_ = (x5_1 ++ [0]) := ⟨_, rfl⟩
            replace H : (spec_l02Fill.l0 k1 a1 y129) = some r := by first | (rw [hy129]; with_reducible exact H) | (have H2_ := (Option.bind_some _ _).symm.trans H; rw [hy129]; with_reducible exact H2_) | (have H2_ := (Option.bind_some _ _).symm.trans H; with_reducible exact H2_) | with_reducible exact H | (rw [hy129]; exact H) | exact H
            have Ny129 := Aside0.mk hy129
            clear hy129
            have H' := Aside0.mk H
            clear H
            obtain ⟨Ao9, co9, eo9⟩ := Kd.R_slice HO_5.out
            subst eo9
            go_wp2_with (first | ((with_reducible refine gate_builtin (b := .append) (xs := #[.tmp 13, .tmp 14]) rfl ?_); at_builtin; refine Kd.R_append (Kd.int .u8) (w0 := w) w.heap.size rfl (.tmp 13) (.tmp 14) 22 5 (.int .u8 0) 1 rfl Tryd.underlying22 info5 rfl (by decide) (by omega) (.slice Ao9 x5_1.length co9) x5_1 0 [.int .u8 0] (fun _ => True) (fun _ => False) rfl rfl ?aP (fun _ hk => hk.elim) ?aF ?aO ?aB ?aS ?aL ?_; (case aP => exact rfl); (case aB => exact (by repeat (first | (with_reducible first | exact HB.out | apply below_alloc | apply pw_below_drewN | apply below_drew1) | exact HB.out))); (case aF => exact (fun _ _ => trivial)); (case aO => exact (by (with_reducible repeat (first | apply Kd.R_alloc | apply Kd.R_drewN | apply Kd.R_drew)); exact HO_5.out)); (case aS => exact (below_size (by repeat (first | (with_reducible first | exact HB.out | apply below_alloc | apply pw_below_drewN | apply below_drew1) | exact HB.out)))); (case aL => have := LMc8.out; omega); intro v130 w10 ho hb hg hat; rw [← Ny129.out] at ho; have n0_ := Aside0.mk (hb); have n1_ := Aside0.mk (ho); clear HB; clear HO_5; have HB := n0_; have HO131 := n1_; clear n0_ n1_; clear ho hb hg hat))
            go_roundg k1
            case measure => have := HK1.out; omega
            case rel => exact ⟨(y129), H', ⟨by have := HK1.out; omega⟩, ⟨by (with_reducible repeat (first | apply Kd.R_alloc | apply Kd.R_drewN | apply Kd.R_drew)); exact HO131.out⟩, ⟨by repeat (first | (with_reducible first | exact HB.out | apply below_alloc | apply pw_below_drewN | apply below_drew1) | exact HB.out)⟩⟩
          · rw [if_neg c8] at H
            exact absurd H (by simp)
        · rw [if_neg c7] at H
          have c7b0 : decide ((x5_1.length : Int) < a1) = false := decide_eq_false c7
          clear c7
          obtain rfl := Option.some.inj H
          obtain ⟨Ao11, co11, eo11⟩ := Kd.R_slice HO_5.out
          subst eo11
          go_wp2
          go_ret
          exact ⟨_, by first | rfl | (simp [errW_none, errW_some] <;> rfl) | (simp [*, errW_none, errW_some] <;> rfl), by (with_reducible repeat (first | apply Kd.R_alloc | apply Kd.R_drewN | apply Kd.R_drew)); exact HO_5.out, by repeat (first | (with_reducible first | exact HB.out | apply below_alloc | apply pw_below_drewN | apply below_drew1) | exact HB.out)⟩
  · rw [if_neg c3] at H
    exact absurd H (by simp)
def spec_l02Table.l0 : Nat → Int → Int → Option (Int)
  | 0, _, _ => none
  | k + 1, x0, x3 => if x3 < 8 then (if (Int.tmod x0 2) = 1 then (spec_l02Table.l0 k (Go.bits .xor .u32 ((Int.tdiv x0 2) % 4294967296) 3988292384) (wrap64 (x3 + 1))) else (spec_l02Table.l0 k ((Int.tdiv x0 2) % 4294967296) (wrap64 (x3 + 1)))) else (some x0)
def spec_l02Table.f (k : Nat) (a0 : Int) : Option (Int) := spec_l02Table.l0 k a0 0
theorem spec_l02Table.mono_l : ∀ k, (∀ y0 y1, LeO (spec_l02Table.l0 k y0 y1) (spec_l02Table.l0 (k + 1) y0 y1))
  | 0 => fun _ _ r h => by simp [spec_l02Table.l0] at h
  | k + 1 => by
    have ih0 := spec_l02Table.mono_l k
    · intro y0 y1
      unfold spec_l02Table.l0
      repeat' first
      | (with_reducible exact ih0 _ _)
      | (with_reducible exact LeO.refl _)
      | (with_reducible exact LeO.none _)
      | (with_reducible refine LeO.ite ?_ ?_)
      | (with_reducible refine LeO.bind ?_ (fun _ => ?_))
      | exact ih0 _ _
      | exact LeO.none _
      | refine LeO.ite ?_ ?_
      | refine LeO.bind ?_ (fun _ => ?_)
theorem spec_l02Table.mono : ∀ a0 k, LeO (spec_l02Table.f k a0) (spec_l02Table.f (k + 1) a0) := by
  intro a0 k
  have ih0 := spec_l02Table.mono_l k
  unfold spec_l02Table.f
  repeat' first
      | (with_reducible exact ih0 _ _)
      | (with_reducible exact LeO.refl _)
      | (with_reducible exact LeO.none _)
      | (with_reducible refine LeO.ite ?_ ?_)
      | (with_reducible refine LeO.bind ?_ (fun _ => ?_))
      | exact ih0 _ _
      | exact LeO.none _
      | refine LeO.ite ?_ ?_
      | refine LeO.bind ?_ (fun _ => ?_)
set_option maxHeartbeats 8000000 in
set_option maxRecDepth 100000 in
theorem spec_l02Table.calls (k : Nat) (a0 : Int) (r : Int) (w : World) (h : spec_l02Table.f k a0 = some r) :
    Calls Tryd.prog 181 #[.int .u32 a0] w fun e w' => e = .returned (.int .u32 r) ∧ Drawn0 w w' := by
  have H : (spec_l02Table.l0 k a0 0) = some r := h
  clear h
  have H' := Aside0.mk H
  clear H
  go_enter Tryd.func181, Tryd.ntmps181
  go_wp2
  go_loopg [0, 3] k (fun kq v0 v3 w' => ∃ (x0_1 : Int) (x3_1 : Int), v0 = .int .u32 x0_1 ∧ v3 = .int .i64 x3_1 ∧ Aside0 (spec_l02Table.l0 kq x0_1 x3_1 = some r) ∧ Aside0 (kq ≤ k) ∧ Drawn0 w w')
  case atStart => exact ⟨(a0), (0), (by first | rfl | (simp; done) | (simp [*]; done)), (by first | rfl | (simp; done) | (simp [*]; done)), H', ⟨Nat.le_refl _⟩, by repeat (first | exact Drawn0.refl _ | apply Drawn0.step)⟩
  case round =>
    clear H'
    try clear c1
    obtain ⟨x0_1, x3_1, rfl, rfl, HA, HK1, ⟨m1, rfl⟩⟩ := hrel
    cases gk with
    | zero => exact absurd HA.out (by simp [spec_l02Table.l0])
    | succ k1 =>
      have H := HA.out
      clear HA
      simp only [spec_l02Table.l0] at H
      by_cases c2 : x3_1 < 8
      · rw [if_pos c2] at H
        have c2b0 : decide (x3_1 < 8) = true := decide_eq_true c2
        clear c2
        by_cases c3 : (Int.tmod x0_1 2) = 1
        · rw [if_pos c3] at H
          have c3b0 : ((Int.tmod x0_1 2) == 1) = true := beq_iff_eq.mpr c3
          have c3b1 : ((Int.tmod x0_1 2) != 1) = false := bne_eq_false_iff_eq.mpr c3
          clear c3
          have H' := Aside0.mk H
          clear H
          go_wp2
          go_roundg k1
          case measure => have := HK1.out; omega
          case rel => exact ⟨(Go.bits .xor .u32 ((Int.tdiv x0_1 2) % 4294967296) 3988292384), (wrap64 (x3_1 + 1)), (by first | rfl | (simp; done) | (simp [*]; done)), (by first | rfl | (simp; done) | (simp [*]; done)), H', ⟨by have := HK1.out; omega⟩, by repeat (first | exact Drawn0.refl _ | apply Drawn0.step)⟩
        · rw [if_neg c3] at H
          have c3b0 : ((Int.tmod x0_1 2) == 1) = false := beq_eq_false_iff_ne.mpr c3
          have c3b1 : ((Int.tmod x0_1 2) != 1) = true := bne_iff_ne.mpr c3
          have H' := Aside0.mk H
          clear H
          go_wp2
          go_roundg k1
          case measure => have := HK1.out; omega
          case rel => exact ⟨((Int.tdiv x0_1 2) % 4294967296), (wrap64 (x3_1 + 1)), (by first | rfl | (simp; done) | (simp [*]; done)), (by first | rfl | (simp; done) | (simp [*]; done)), H', ⟨by have := HK1.out; omega⟩, by repeat (first | exact Drawn0.refl _ | apply Drawn0.step)⟩
      · rw [if_neg c2] at H
        have c2b0 : decide (x3_1 < 8) = false := decide_eq_false c2
        clear c2
        obtain rfl := Option.some.inj H
        go_wp2
        go_ret
        exact ⟨by first | rfl | (simp; done) | (simp [*]; done), by repeat (first | exact Drawn0.refl _ | apply Drawn0.step)⟩
end Go.Proofs.YtknlpjoidjgciaaDoor.PFnExactSnapshots
