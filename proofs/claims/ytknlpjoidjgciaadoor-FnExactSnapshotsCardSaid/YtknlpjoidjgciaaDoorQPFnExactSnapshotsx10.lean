/- PFnExactSnapshotsx10: functions of the law, walked; written by a program of this session. No condition. -/
import Derived.Test.YtknlpjoidjgciaaDoorQPFnExactSnapshotsx0
import Derived.Test.YtknlpjoidjgciaaDoorQPFnExactSnapshotsx2
namespace Go.Proofs.YtknlpjoidjgciaaDoor.PFnExactSnapshots
open Go.RowKit Go.Proofs.YtknlpjoidjgciaaDoorW.PrintWords Go.Proofs.YtknlpjoidjgciaaDoorW.PrintLast Go.Proofs.YtknlpjoidjgciaaDoorW.PrintMore
attribute [local go_sem] max2_int min2_int max_two min_two max_three min_three max_four min_four
set_option linter.unusedVariables false
set_option linter.unusedSimpArgs false
def impl_number.l0 : Nat → List Int → Int → Int → Int → Option (Int)
  | 0, _, _, _, _ => none
  | k + 1, x0, x1, x7, x8 => if x8 ≥ 0 then (if 0 ≤ (wrap64 (x1 + x8)) then (if (wrap64 (x1 + x8)) < (x0.length : Int) then (impl_number.l0 k x0 x1 (Go.bits .or .u64 (IntKind.u64.wrap (x7 * 256)) (IntKind.u64.wrap (rd x0 (wrap64 (x1 + x8))))) (wrap64 (x8 - 1))) else (none)) else (none)) else (some (wrap64 (x7)))
def impl_number.f (k : Nat) (l0 : List Int) (a1 : Int) (a2 : Int) : Option (Int) := impl_number.l0 k l0 a1 0 (wrap64 (a2 - 1))
theorem impl_number.mono_l : ∀ k, (∀ y0 y1 y2 y3, LeO (impl_number.l0 k y0 y1 y2 y3) (impl_number.l0 (k + 1) y0 y1 y2 y3))
  | 0 => fun _ _ _ _ r h => by simp [impl_number.l0] at h
  | k + 1 => by
    have ih0 := impl_number.mono_l k
    · intro y0 y1 y2 y3
      unfold impl_number.l0
      repeat' first
      | (with_reducible exact ih0 _ _ _ _)
      | (with_reducible exact LeO.refl _)
      | (with_reducible exact LeO.none _)
      | (with_reducible refine LeO.ite ?_ ?_)
      | (with_reducible refine LeO.bind ?_ (fun _ => ?_))
      | exact ih0 _ _ _ _
      | exact LeO.none _
      | refine LeO.ite ?_ ?_
      | refine LeO.bind ?_ (fun _ => ?_)
theorem impl_number.mono : ∀ a0 a1 a2 k, LeO (impl_number.f k a0 a1 a2) (impl_number.f (k + 1) a0 a1 a2) := by
  intro a0 a1 a2 k
  have ih0 := impl_number.mono_l k
  unfold impl_number.f
  repeat' first
      | (with_reducible exact ih0 _ _ _ _)
      | (with_reducible exact LeO.refl _)
      | (with_reducible exact LeO.none _)
      | (with_reducible refine LeO.ite ?_ ?_)
      | (with_reducible refine LeO.bind ?_ (fun _ => ?_))
      | exact ih0 _ _ _ _
      | exact LeO.none _
      | refine LeO.ite ?_ ?_
      | refine LeO.bind ?_ (fun _ => ?_)
set_option maxHeartbeats 8000000 in
set_option maxRecDepth 100000 in
theorem impl_number.calls (k : Nat) (A0 : Option Addr) (c0 : Nat) (l0 : List Int) (a1 : Int) (a2 : Int) (r : Int) (w : World) (hr0 : Kd.C (Kd.int .u8) w A0 l0.length l0) (hc0 : l0.length ≤ c0) (h : impl_number.f k l0 a1 a2 = some r) :
    Calls Tryd.prog 165 #[.slice A0 l0.length c0, .int .i64 a1, .int .i64 a2] w fun e w' => e = .returned (.int .i64 r) ∧ Drawn0 w w' := by
  have HR0 := Aside0.mk hr0
  have HC0 := Aside0.mk hc0
  clear hr0 hc0
  have H : (impl_number.l0 k l0 a1 0 (wrap64 (a2 - 1))) = some r := h
  clear h
  have H' := Aside0.mk H
  clear H
  go_enter Tryd.func165, Tryd.ntmps165
  go_wp2
  go_loopg [7, 8] k (fun kq v7 v8 w' => ∃ (x7_1 : Int) (x8_1 : Int), v7 = .int .u64 x7_1 ∧ v8 = .int .i64 x8_1 ∧ Aside0 (impl_number.l0 kq l0 a1 x7_1 x8_1 = some r) ∧ Aside0 (kq ≤ k) ∧ Drawn0 w w')
  case atStart => exact ⟨(0), (wrap64 (a2 - 1)), (by first | rfl | (simp; done) | (simp [*]; done)), (by first | rfl | (simp; done) | (simp [*]; done)), H', ⟨Nat.le_refl _⟩, by repeat (first | exact Drawn0.refl _ | apply Drawn0.step)⟩
  case round =>
    clear H'
    try clear c1
    try clear p2
    obtain ⟨x7_1, x8_1, rfl, rfl, HA, HK1, ⟨m1, rfl⟩⟩ := hrel
    cases gk with
    | zero => exact absurd HA.out (by simp [impl_number.l0])
    | succ k1 =>
      have H := HA.out
      clear HA
      simp only [impl_number.l0] at H
      by_cases c4 : x8_1 ≥ 0
      · rw [if_pos c4] at H
        have c4b0 : decide (0 ≤ x8_1) = true := decide_eq_true c4
        clear c4
        obtain ⟨ji5, hji5⟩ : ∃ j_ : Int, (wrap64 (a1 + x8_1)) = j_ := ⟨_, rfl⟩
        replace H : (if 0 ≤ (ji5) then (if (ji5) < (l0.length : Int) then (impl_number.l0 k1 l0 a1 (Go.bits .or .u64 (IntKind.u64.wrap (x7_1 * 256)) (IntKind.u64.wrap (rd l0 (ji5)))) (wrap64 (x8_1 - 1))) else (none)) else (none)) = some r := by first | (rw [hji5] at H; exact H) | (simp only [hji5] at H ⊢; exact H)
        have hji5w : (IntKind.i64.wrap (a1 + x8_1)) = ji5 := (i64_w _).trans hji5
        by_cases c6 : 0 ≤ (ji5)
        · rw [if_pos c6] at H
          have c6b0 : decide (0 ≤ (ji5)) = true := decide_eq_true c6
          clear c6
          by_cases c7 : (ji5) < (l0.length : Int)
          · rw [if_pos c7] at H
            have c7b0 : decide ((ji5) < (l0.length : Int)) = true := decide_eq_true c7
            clear c7
            have H' := Aside0.mk H
            clear H
            have p148 : 0 ≤ ((ji5) : Int) := of_decide_eq_true (by first | (with_reducible assumption) | assumption)
            have q148 : (ji5) < (l0.length : Int) := of_decide_eq_true (by first | (with_reducible assumption) | assumption)
            obtain ⟨ad148, e148, hx148_0⟩ := Kd.at_int HR0.out (ji5) p148 q148
            cases e148
            replace p148 := eq_true p148
            replace q148 := eq_true q148
            go_wp2
            go_roundg k1
            case measure => have := HK1.out; omega
            case rel => exact ⟨(Go.bits .or .u64 (IntKind.u64.wrap (x7_1 * 256)) (IntKind.u64.wrap (rd l0 (ji5)))), (wrap64 (x8_1 - 1)), (by first | rfl | (simp; done) | (simp only [← hji5] <;> (first | rfl | simp)) | (simp [*]; done)), (by first | rfl | (simp; done) | (simp [*]; done)), H', ⟨by have := HK1.out; omega⟩, by repeat (first | exact Drawn0.refl _ | apply Drawn0.step)⟩
          · rw [if_neg c7] at H
            exact absurd H (by simp)
        · rw [if_neg c6] at H
          exact absurd H (by simp)
      · rw [if_neg c4] at H
        have c4b0 : decide (0 ≤ x8_1) = false := decide_eq_false c4
        clear c4
        obtain rfl := Option.some.inj H
        go_wp2
        go_ret
        exact ⟨by first | rfl | (simp; done) | (simp [*]; done), by repeat (first | exact Drawn0.refl _ | apply Drawn0.step)⟩
open Go.Proofs.YtknlpjoidjgciaaDoorW Go.Proofs.YtknlpjoidjgciaaDoorW.PrintHand Go.Proofs.YtknlpjoidjgciaaDoorW.PrintHx
open Go.Proofs.YtknlpjoidjgciaaDoorW.PrintLe Go.Proofs.YtknlpjoidjgciaaDoorW.PrintGrow Go.Proofs.YtknlpjoidjgciaaDoorW.PrintDec Go.Proofs.YtknlpjoidjgciaaDoorW.PrintRaw
theorem number_l0 (x0 c : List Int) (at_ : Nat) (hb : Byt c) (h8 : c.length ≤ 8) (hat : at_ + c.length ≤ x0.length) (hc : ∀ j, j < c.length → x0.getD (at_ + j) 0 = c.getD j 0) (hx : x0.length ≤ 1048576) : ∀ (n k : Nat), n ≤ c.length → n < k → impl_number.l0 k x0 (at_ : Int) (le (c.drop n)) ((n : Int) - 1) = some (wrap64 (le c))
  | 0, k, h1, h2 => by
    obtain ⟨k, rfl⟩ := sucK h2
    simp only [impl_number.l0]
    rw [List.drop_zero, if_neg (by omega)]
  | n + 1, k, h1, h2 => by
    obtain ⟨k, rfl⟩ := sucK h2
    have hn : n < c.length := by omega
    have hd := List.drop_eq_getElem_cons hn
    have hxn := hb c[n] (List.getElem_mem hn)
    have h0 := le_nonneg (hb.drop (n + 1))
    have hlt := le_lt (hb.drop (n + 1))
    rw [List.length_drop] at hlt
    have h7 : le (c.drop (n + 1)) < 256 ^ 7 := Int.lt_of_lt_of_le hlt (p256_le (by omega))
    have e1 : wrap64 ((at_ : Int) + (((n + 1 : Nat) : Int) - 1)) = ((at_ + n : Nat) : Int) := by unfold wrap64; omega
    have hr : rd x0 ((at_ + n : Nat) : Int) = c[n] := by rw [rdN, hc n hn, List.getD_eq_getElem?_getD, List.getElem?_eq_getElem hn]; rfl
    simp only [impl_number.l0]
    rw [e1, if_pos (by omega), if_pos (by omega), if_pos (by omega), hr]
    have hv : Go.bits .or .u64 (IntKind.u64.wrap (le (c.drop (n + 1)) * 256)) (IntKind.u64.wrap c[n]) = le (c.drop n) := by
      rw [wraps_u64 _ (by omega) (by omega), wraps_u64 _ (by omega) (by omega), bits_join .u64 64 (by decide) wraps_u64 8 _ _ (by omega) (by omega) (by omega) (by omega) (by omega) (by omega), hd]
      simp only [le]
      omega
    rw [hv, show wrap64 (((n + 1 : Nat) : Int) - 1 - 1) = (n : Int) - 1 by unfold wrap64; omega]
    exact number_l0 x0 c at_ hb h8 hat hc hx n k (by omega) (by omega)
theorem number_f (x0 : List Int) (at_ size : Nat) (hb : Byt x0) (h8 : size ≤ 8) (hat : at_ + size ≤ x0.length) (hx : x0.length ≤ 1048576) (k : Nat) (hk : 8 < k) : impl_number.f k x0 (at_ : Int) (size : Int) = some (wrap64 (le ((x0.drop at_).take size))) := by
  unfold impl_number.f
  have hl : ((x0.drop at_).take size).length = size := by rw [List.length_take, List.length_drop]; omega
  have h := number_l0 x0 ((x0.drop at_).take size) at_ ((hb.drop _).take _) (by omega) (by omega) (fun j hj => by
    rw [List.getD_eq_getElem?_getD, List.getD_eq_getElem?_getD, List.getElem?_take, List.getElem?_drop, if_pos (by omega)]) hx size k (by omega) (by omega)
  rw [List.drop_eq_nil_of_le (by omega)] at h
  rw [show wrap64 ((size : Int) - 1) = (size : Int) - 1 by unfold wrap64; omega]
  exact h
def impl_getRoot.f (l0 : List Int) : Option (List Int) := if (64 ≤ l0.length ∧ l0.length ≤ 1048576) ∧ (∀ x ∈ l0, 0 ≤ x ∧ x ≤ 255) then some (rootB l0) else none
set_option maxHeartbeats 8000000 in
set_option maxRecDepth 100000 in
theorem impl_getRoot.calls (A0 : Option Addr) (c0 : Nat) (l0 : List Int) (r : List Int) (w : World) (hr0 : Kd.C (Kd.int .u8) w A0 l0.length l0) (hc0 : l0.length ≤ c0) (h : impl_getRoot.f l0 = some r) :
    Calls Tryd.prog 166 #[.slice A0 l0.length c0] w fun e w' => e = .returned (.agg (nums .i64 r).toArray) ∧ Below w.heap.size w w' := by
  unfold impl_getRoot.f at h
  by_cases hdom : (64 ≤ l0.length ∧ l0.length ≤ 1048576) ∧ (∀ x ∈ l0, 0 ≤ x ∧ x ≤ 255)
  case neg => rw [if_neg hdom] at h; cases h
  rw [if_pos hdom] at h
  obtain rfl := Option.some.inj h
  have HL := Aside0.mk hdom.1
  have HBY : Aside0 (Byt l0) := ⟨hdom.2⟩
  have HR0 := Aside0.mk hr0
  have HC0 := Aside0.mk hc0
  clear h hdom hr0 hc0
  have Z124 : ∀ w, (zeroValue 124).run Tryd.prog w = .ok (.agg (nums .i64 (List.replicate 15 0)).toArray) w := fun _ => by kernel_rfl
  obtain ⟨g0, hg0⟩ : ∃ g, g = wrap64 (le (seg l0 0 8)) := ⟨_, rfl⟩
  have Eg0 := Aside0.mk (show impl_number.f 20 l0 0 8 = some g0 by rw [hg0]; exact number_f l0 0 8 HBY.out (by decide) (by have := HL.out; omega) (by have := HL.out; omega) 20 (by decide))
  obtain ⟨g1, hg1⟩ : ∃ g, g = wrap64 (le (seg l0 56 4)) := ⟨_, rfl⟩
  have Eg1 := Aside0.mk (show impl_number.f 20 l0 56 4 = some g1 by rw [hg1]; exact number_f l0 56 4 HBY.out (by decide) (by have := HL.out; omega) (by have := HL.out; omega) 20 (by decide))
  obtain ⟨g2, hg2⟩ : ∃ g, g = wrap64 (le (seg l0 60 4)) := ⟨_, rfl⟩
  have Eg2 := Aside0.mk (show impl_number.f 20 l0 60 4 = some g2 by rw [hg2]; exact number_f l0 60 4 HBY.out (by decide) (by have := HL.out; omega) (by have := HL.out; omega) 20 (by decide))
  obtain ⟨ds, hds⟩ : ∃ d, d = rootVals l0 := ⟨_, rfl⟩
  have DL := Aside0.mk (show ds.length = 12 by rw [hds]; exact rootVals_length l0)
  have EGJ := Aside0.mk (show ∀ j : Nat, j < 12 → impl_number.f 20 l0 ((8 + 4 * j : Nat) : Int) 4 = some (ds.getD j 0) from fun j hj => by rw [hds, rootVals_get l0 j hj, ← wrap4 (seg_byt HBY.out _ _) (by rw [seg_le _ _ (by have := HL.out; omega)]; decide)]; exact number_f l0 (8 + 4 * j) 4 HBY.out (by decide) (by have := HL.out; omega) (by have := HL.out; omega) 20 (by decide))
  have hres : rootB l0 = g0 :: (ds ++ [g1, g2]) := by rw [hg0, hg1, hg2, hds, wrap4 (seg_byt HBY.out 56 4) (by rw [seg_le _ _ (by have := HL.out; omega)]; decide), wrap4 (seg_byt HBY.out 60 4) (by rw [seg_le _ _ (by have := HL.out; omega)]; decide)]; rfl
  rw [hres]
  clear hres hg0 hg1 hg2 hds
  have HB0 : Aside0 (Below w.heap.size w w) := ⟨Below.refl _ _⟩
  obtain ⟨s0, Sz0⟩ : ∃ s0, Aside0 (w.heap.size = s0) := ⟨_, ⟨rfl⟩⟩
  have hw0 : w.heap.size ≤ s0 := Nat.le_of_eq Sz0.out
  have hw1 : s0 ≤ w.heap.size := Nat.le_of_eq Sz0.out.symm
  go_enter Tryd.func166, Tryd.ntmps166
  go_wp2_with (first | ((with_reducible refine gate_dst (N := 2) rfl ?_); refine hx_alloc rfl 2 rfl 124 rfl Sz0 (.agg (nums .i64 (List.replicate 15 0)).toArray) (nums .i64 (List.replicate 15 0)).toArray Z124 rfl ?_; intro w1 s1 Ls1 Ss1 b_ g_; have H2_1 := Aside0.mk g_; have HB1 := Aside0.mk (below_then HB0.out HB0.out.size b_); clear b_ g_ HB0) | ((with_reducible refine gate_dst (N := 6) rfl ?_); refine goesL_ (some 6) rfl rfl Tryd.func165 (by kernel_rfl) rfl #[.slice A0 l0.length c0, .int .i64 0, .int .i64 8] rfl (by (try simp only [List.map_toArray, List.map_cons, List.map_nil]); first | done | rfl) ?_; refine (impl_number.calls 20 A0 c0 l0 0 8 g0 _ (Kd.C_below HR0.out HB1.out) HC0.out Eg0.out).mono ?_; rintro e_ w2 ⟨rfl, d_⟩; refine ⟨_, rfl, ?_⟩; have b_ := kept_drawn d_; have H2_2 := Aside0.mk (blk_below H2_1.out b_); have HB2 := Aside0.mk (below_then HB1.out HB1.out.size b_); clear b_ d_ H2_1 HB1) | ((with_reducible refine gate_dst (N := 8) rfl ?_); refine goesL_ (some 8) rfl rfl Tryd.func165 (by kernel_rfl) rfl #[.slice A0 l0.length c0, .int .i64 56, .int .i64 4] rfl (by (try simp only [List.map_toArray, List.map_cons, List.map_nil]); first | done | rfl) ?_; refine (impl_number.calls 20 A0 c0 l0 56 4 g1 _ (Kd.C_below HR0.out HB2.out) HC0.out Eg1.out).mono ?_; rintro e_ w3 ⟨rfl, d_⟩; refine ⟨_, rfl, ?_⟩; have b_ := kept_drawn d_; have H2_3 := Aside0.mk (blk_below H2_2.out b_); have HB3 := Aside0.mk (below_then HB2.out HB2.out.size b_); clear b_ d_ H2_2 HB2) | ((with_reducible refine gate_dst (N := 10) rfl ?_); refine goesL_ (some 10) rfl rfl Tryd.func165 (by kernel_rfl) rfl #[.slice A0 l0.length c0, .int .i64 60, .int .i64 4] rfl (by (try simp only [List.map_toArray, List.map_cons, List.map_nil]); first | done | rfl) ?_; refine (impl_number.calls 20 A0 c0 l0 60 4 g2 _ (Kd.C_below HR0.out HB3.out) HC0.out Eg2.out).mono ?_; rintro e_ w4 ⟨rfl, d_⟩; refine ⟨_, rfl, ?_⟩; have b_ := kept_drawn d_; have H2_4 := Aside0.mk (blk_below H2_3.out b_); have HB4 := Aside0.mk (below_then HB3.out HB3.out.size b_); have hz_ := (blk_lt H2_4.out); obtain ⟨s4, Ss4⟩ : ∃ s, Aside0 (w4.heap.size = s) := ⟨_, ⟨rfl⟩⟩; rw [Ss4.out] at hz_; clear b_ d_ H2_3 HB3) | ((with_reducible refine gate_dst (N := 3) rfl ?_); refine hx_alloc rfl 3 rfl 124 rfl Ss4 (.agg (nums .i64 (List.replicate 15 0)).toArray) (nums .i64 (List.replicate 15 0)).toArray Z124 rfl ?_; intro w5 s5 Ls5 Ss5 b_ g_; have HG5 := Aside0.mk g_; have HB5 := Aside0.mk (below_then HB4.out HB4.out.size b_); have H2_5 := Aside0.mk (blk_below H2_4.out b_); clear b_ g_ HB4 H2_4) | ((with_reducible refine gate_store (t := 124) (p := 3) (v := .tmp 11) rfl ?_); refine hx_store rfl rfl 124 (.tmp 3) (.tmp 11) rfl s4 15 rfl (nums .i64 (g0 :: (filled ds 0 ++ [g1, g2]))).toArray rfl (by kernel_rfl) (nums_size _ _ _ (filled_length DL.out 0 (by decide) _ _ _)) (nums_one _ _) HG5.out (by simp [nums]) ?_; intro w6 t_ gg_; have HG6 := Aside0.mk gg_; have H2_6 := Aside0.mk (t_.keep (show s0 ≠ s4 by omega) H2_5.out); have HB6 := Aside0.mk (t_.below HB5.out (by omega)); clear t_ gg_ HG5 HB5 H2_5))
  (try simp only [Act.put, List.setIfInBounds_toArray, List.set_cons_succ, List.set_cons_zero])
  go_loopw [4, 12] (fun v4 v15 wr => ∃ (j : Nat) (u : Value), u = v4 ∧ v15 = .int .i64 (j : Int) ∧ Aside0 (j ≤ 12) ∧ Aside0 (wr.heap[s4]? = some (.cells (nums .i64 (g0 :: (filled ds j ++ [g1, g2]))).toArray 124 (0, 0))) ∧ Aside0 (wr.heap[s0]? = some (.cells (nums .i64 (List.replicate 15 0)).toArray 124 (0, 0))) ∧ Aside0 (Below w.heap.size w wr)) (fun _ v15 _ => 12 - (intOf v15).toNat)
  case atStart => exact ⟨0, _, rfl, rfl, ⟨by omega⟩, HG6, H2_6, HB6⟩
  case round =>
    clear HG6 H2_6 HB6
    obtain ⟨j, v4, rfl, rfl, hj, HG, H2, HB⟩ := hrel
    by_cases c9 : j < 12
    · have c9b0 : decide ((j : Int) < 12) = true := decide_eq_true (by omega)
      have c9b1 : decide (j < 12) = true := decide_eq_true c9
      have e8 : wrap64 (8 + wrap64 (4 * (j : Int))) = ((8 + 4 * j : Nat) : Int) := at8 8 j (by decide) (by omega)
      obtain ⟨dv, hdv⟩ : ∃ d, d = ds.getD j 0 := ⟨_, rfl⟩
      have EGz := Aside0.mk (show impl_number.f 20 l0 (wrap64 (8 + wrap64 (4 * (j : Int)))) 4 = some dv by rw [e8, hdv]; exact EGJ.out j c9)
      have HDV := Aside0.mk hdv
      have C9 := Aside0.mk c9
      have q9 : (0 ≤ (j : Int)) = True := eq_true (by omega)
      have q10 : ((j : Int) < 12) = True := eq_true (by omega)
      have q11 : (j < 12) = True := eq_true c9
      clear hdv c9 e8
      go_wp2_with (first | ((with_reducible refine gate_dst (N := 20) rfl ?_); refine goesL_ (some 20) rfl rfl Tryd.func165 (by kernel_rfl) rfl #[.slice A0 l0.length c0, .int .i64 (wrap64 (8 + wrap64 (4 * (j : Int)))), .int .i64 4] rfl (by (try simp only [List.map_toArray, List.map_cons, List.map_nil]); first | done | rfl) ?_; refine (impl_number.calls 20 A0 c0 l0 _ _ dv _ (Kd.C_below HR0.out HB.out) HC0.out EGz.out).mono ?_; rintro e_ w7 ⟨rfl, d_⟩; refine ⟨_, rfl, ?_⟩; have b_ := kept_drawn d_; have HG5 := Aside0.mk (blk_below HG.out b_); have H25 := Aside0.mk (blk_below H2.out b_); have HB5 := Aside0.mk (below_then HB.out HB.out.size b_); clear b_ d_ HG H2 HB) | ((with_reducible refine gate_store (t := 3) (p := 22) (v := .tmp 20) rfl ?_); refine st_num rfl rfl 3 (.tmp 22) (.tmp 20) rfl s4 (1 + j) .i64 dv rfl rfl (by kernel_rfl) HG5.out (by rw [filled_length DL.out j (by have := C9.out; omega)]; have := C9.out; omega) ?_; intro w8 t_ gg_; have HG6 := Aside0.mk gg_; have H26 := Aside0.mk (t_.keep (show s0 ≠ s4 by omega) H25.out); have HB6 := Aside0.mk (t_.below HB5.out (by omega)); clear t_ gg_ HG5 H25 HB5))
      go_roundw
      case rel =>
        refine ⟨j + 1, _, rfl, by rw [show wrap64 ((j : Int) + 1) = ((j + 1 : Nat) : Int) by (have := C9.out; unfold wrap64; omega)], ⟨by have := C9.out; omega⟩, ⟨?_⟩, H26, HB6⟩
        have h_ := HG6.out
        rw [HDV.out, filled_next DL.out j C9.out] at h_
        exact h_
      case measure =>
        rw [show wrap64 ((j : Int) + 1) = ((j + 1 : Nat) : Int) by (have := C9.out; unfold wrap64; omega)]
        simp only [intOf, Int.toNat_natCast]
        have := C9.out
        omega
    · obtain rfl : j = 12 := by have := hj.out; omega
      have c9b0 : decide ((12 : Int) < 12) = false := by decide
      have hf := HG.out
      rw [filled_all DL.out] at hf
      have HF := Aside0.mk hf
      clear c9 hf HG
      go_wp2_with (first | ((with_reducible refine gate_dst (N := 24) rfl ?_); refine hx_load rfl 124 (.tmp 3) rfl s4 15 rfl Tryd.underlying124 rfl (by kernel_rfl) HF.out (by simp [nums, DL.out]) ?_) | ((with_reducible refine gate_store (t := 124) (p := 2) (v := .tmp 24) rfl ?_); refine hx_store rfl rfl 124 (.tmp 2) (.tmp 24) rfl s0 15 rfl (nums .i64 (g0 :: (ds ++ [g1, g2]))).toArray rfl (by kernel_rfl) (by simp [nums, DL.out]) (nums_one _ _) H2.out (by simp [nums]) ?_; intro w7 t_ gg_; have HR7 := Aside0.mk gg_; have HB7 := Aside0.mk (t_.below HB.out (by omega)); clear t_ gg_))
      exact bodyPost_ret (results_cell_row rfl _ _ s0 124 _ (0, 0) _ rfl HR7.out Tryd.underlying124 rfl (by rw [nums_size _ _ 15 (by simp [DL.out])]; kernel_rfl)) rfl ⟨rfl, HB7.out⟩
open Go.Proofs.YtknlpjoidjgciaaDoorW Go.Proofs.YtknlpjoidjgciaaDoorW.PrintHand Go.Proofs.YtknlpjoidjgciaaDoorW.PrintHx
open Go.Proofs.YtknlpjoidjgciaaDoorW.PrintLe Go.Proofs.YtknlpjoidjgciaaDoorW.PrintGrow Go.Proofs.YtknlpjoidjgciaaDoorW.PrintDec Go.Proofs.YtknlpjoidjgciaaDoorW.PrintIno Go.Proofs.YtknlpjoidjgciaaDoorW.PrintTab2 Go.Proofs.YtknlpjoidjgciaaDoorW.PrintTab3 Go.Proofs.YtknlpjoidjgciaaDoorW.PrintFsi Go.Proofs.YtknlpjoidjgciaaDoorW.PrintFsb Go.Proofs.YtknlpjoidjgciaaDoorW.PrintFsd Go.Proofs.YtknlpjoidjgciaaDoorW.PrintCrc
def impl_getFsinfo.f (l0 : List Int) : Option (List Int) := if l0.length = 512 ∧ (∀ x ∈ l0, 0 ≤ x ∧ x ≤ 255) then some (fsB l0) else none
set_option maxHeartbeats 8000000 in
set_option maxRecDepth 100000 in
theorem impl_getFsinfo.calls (A0 : Option Addr) (c0 : Nat) (l0 : List Int) (r : List Int) (w : World) (hr0 : Kd.C (Kd.int .u8) w A0 l0.length l0) (hc0 : l0.length ≤ c0) (h : impl_getFsinfo.f l0 = some r) :
    Calls Tryd.prog 142 #[.slice A0 l0.length c0] w fun e w' => e = .returned (.agg (nums .i64 r).toArray) ∧ Below w.heap.size w w' := by
  unfold impl_getFsinfo.f at h
  by_cases hdom : l0.length = 512 ∧ (∀ x ∈ l0, 0 ≤ x ∧ x ≤ 255)
  case neg => rw [if_neg hdom] at h; cases h
  rw [if_pos hdom] at h
  obtain rfl := Option.some.inj h
  have HL := Aside0.mk hdom.1
  have HBY : Aside0 (Byt l0) := ⟨hdom.2⟩
  have HR0 := Aside0.mk hr0
  have HC0 := Aside0.mk hc0
  clear h hdom hr0 hc0
  have Z127 : ∀ w, (zeroValue 127).run Tryd.prog w = .ok (.agg (nums .i64 (List.replicate 68 0)).toArray) w := fun _ => by kernel_rfl
  obtain ⟨g0, hg0⟩ : ∃ g, g = wrap64 (le (seg l0 8 8)) := ⟨_, rfl⟩
  have EG0 := Aside0.mk (show impl_number.f 20 l0 8 8 = some g0 by rw [hg0]; exact number_f l0 8 8 HBY.out (by decide) (by rw [HL.out]; decide) (by rw [HL.out]; decide) 20 (by decide))
  obtain ⟨g1, hg1⟩ : ∃ g, g = wrap64 (le (seg l0 16 4)) := ⟨_, rfl⟩
  have EG1 := Aside0.mk (show impl_number.f 20 l0 16 4 = some g1 by rw [hg1]; exact number_f l0 16 4 HBY.out (by decide) (by rw [HL.out]; decide) (by rw [HL.out]; decide) 20 (by decide))
  obtain ⟨g2, hg2⟩ : ∃ g, g = wrap64 (le (seg l0 20 4)) := ⟨_, rfl⟩
  have EG2 := Aside0.mk (show impl_number.f 20 l0 20 4 = some g2 by rw [hg2]; exact number_f l0 20 4 HBY.out (by decide) (by rw [HL.out]; decide) (by rw [HL.out]; decide) 20 (by decide))
  obtain ⟨g3, hg3⟩ : ∃ g, g = wrap64 (le (seg l0 24 8)) := ⟨_, rfl⟩
  have EG3 := Aside0.mk (show impl_number.f 20 l0 24 8 = some g3 by rw [hg3]; exact number_f l0 24 8 HBY.out (by decide) (by rw [HL.out]; decide) (by rw [HL.out]; decide) 20 (by decide))
  obtain ⟨g4, hg4⟩ : ∃ g, g = wrap64 (le (seg l0 32 8)) := ⟨_, rfl⟩
  have EG4 := Aside0.mk (show impl_number.f 20 l0 32 8 = some g4 by rw [hg4]; exact number_f l0 32 8 HBY.out (by decide) (by rw [HL.out]; decide) (by rw [HL.out]; decide) 20 (by decide))
  obtain ⟨g5, hg5⟩ : ∃ g, g = wrap64 (le (seg l0 40 4)) := ⟨_, rfl⟩
  have EG5 := Aside0.mk (show impl_number.f 20 l0 40 4 = some g5 by rw [hg5]; exact number_f l0 40 4 HBY.out (by decide) (by rw [HL.out]; decide) (by rw [HL.out]; decide) 20 (by decide))
  obtain ⟨g6, hg6⟩ : ∃ g, g = wrap64 (le (seg l0 44 4)) := ⟨_, rfl⟩
  have EG6 := Aside0.mk (show impl_number.f 20 l0 44 4 = some g6 by rw [hg6]; exact number_f l0 44 4 HBY.out (by decide) (by rw [HL.out]; decide) (by rw [HL.out]; decide) 20 (by decide))
  have info5_ : (Tryd.prog.info? 5).map (fun i => (i.zero, i.size, i.bytes)) = some (some (.int .u8 0), 1, 1) := by kernel_rfl
  obtain ⟨i0_, hi0_, _, hsz_, _⟩ := info_parts info5_
  obtain ⟨A20, hcut20, hA20, hC20⟩ := print_drop_of (P := Tryd.prog) (Value.int .u8) 0 22 5 .i64 Tryd.underlying22 hi0_ hsz_ A0 c0 l0 (48 : Int) (by decide) (by rw [HL.out]; decide) HC0.out
  obtain ⟨q20, hq20⟩ : ∃ q, q = l0.drop (48 : Int).toNat := ⟨_, rfl⟩
  rw [← hq20] at hcut20 hA20 hC20
  obtain ⟨k20, hk20⟩ : ∃ k, k = c0 - (48 : Int).toNat := ⟨_, rfl⟩
  rw [← hk20] at hcut20 hC20
  clear hk20
  have hs20 : q20 = l0.drop 48 := hq20
  have HR20 := Aside0.mk (Kd.C_of_reads (h1 := fun _ => rfl) (hA20 _ (Kd.reads_of_C HR0.out)))
  have HC20 := Aside0.mk hC20
  obtain ⟨ri, hri⟩ : ∃ g, g = rootB (seg l0 48 64) := ⟨_, rfl⟩
  have NRI := Aside0.mk (show ri.length = 15 by rw [hri]; exact rootOf_length _ _)
  have EG20 := Aside0.mk (show impl_getRoot.f q20 = some ri by rw [hri, hs20, show rootB (seg l0 48 64) = rootB (l0.drop 48) from rootOf_part _ l0 48]; exact if_pos ⟨⟨by rw [List.length_drop, HL.out]; decide, by rw [List.length_drop, HL.out]; decide⟩, HBY.out.drop 48⟩)
  clear hs20 hq20 hA20 hC20
  obtain ⟨A23, hcut23, hA23, hC23⟩ := print_drop_of (P := Tryd.prog) (Value.int .u8) 0 22 5 .i64 Tryd.underlying22 hi0_ hsz_ A0 c0 l0 (112 : Int) (by decide) (by rw [HL.out]; decide) HC0.out
  obtain ⟨q23, hq23⟩ : ∃ q, q = l0.drop (112 : Int).toNat := ⟨_, rfl⟩
  rw [← hq23] at hcut23 hA23 hC23
  obtain ⟨k23, hk23⟩ : ∃ k, k = c0 - (112 : Int).toNat := ⟨_, rfl⟩
  rw [← hk23] at hcut23 hC23
  clear hk23
  have hs23 : q23 = l0.drop 112 := hq23
  have HR23 := Aside0.mk (Kd.C_of_reads (h1 := fun _ => rfl) (hA23 _ (Kd.reads_of_C HR0.out)))
  have HC23 := Aside0.mk hC23
  obtain ⟨rm, hrm⟩ : ∃ g, g = rootB (seg l0 112 64) := ⟨_, rfl⟩
  have NRM := Aside0.mk (show rm.length = 15 by rw [hrm]; exact rootOf_length _ _)
  have EG23 := Aside0.mk (show impl_getRoot.f q23 = some rm by rw [hrm, hs23, show rootB (seg l0 112 64) = rootB (l0.drop 112) from rootOf_part _ l0 112]; exact if_pos ⟨⟨by rw [List.length_drop, HL.out]; decide, by rw [List.length_drop, HL.out]; decide⟩, HBY.out.drop 112⟩)
  clear hs23 hq23 hA23 hC23
  obtain ⟨ss, hss⟩ : ∃ s, s = snapsOf l0 := ⟨_, rfl⟩
  have HSS := Aside0.mk hss
  have HSL := Aside0.mk (show ss.length = 31 by rw [hss]; exact snapsOf_length l0)
  have BU : ∀ z y : List Int, z.length = 15 → y.length = 15 → ∀ w, (Instr.build 127 #[(0, .int .i64 g0), (1, .int .i64 g1), (2, .int .i64 g2), (3, .int .i64 g3), (4, .int .i64 g4), (5, .int .i64 g5), (6, .int .i64 g6), (7, .agg (nums .i64 z).toArray), (8, .agg (nums .i64 y).toArray)]).run Tryd.prog w = .ok (.agg (nums .i64 (g0 :: g1 :: g2 :: g3 :: g4 :: g5 :: g6 :: (z ++ y) ++ List.replicate 31 0)).toArray) w := by
    intro z y h k w_
    obtain ⟨x0, xb0, rfl, h0⟩ := cons_of_len h
    obtain ⟨x1, xb1, rfl, h1⟩ := cons_of_len h0
    obtain ⟨x2, xb2, rfl, h2⟩ := cons_of_len h1
    obtain ⟨x3, xb3, rfl, h3⟩ := cons_of_len h2
    obtain ⟨x4, xb4, rfl, h4⟩ := cons_of_len h3
    obtain ⟨x5, xb5, rfl, h5⟩ := cons_of_len h4
    obtain ⟨x6, xb6, rfl, h6⟩ := cons_of_len h5
    obtain ⟨x7, xb7, rfl, h7⟩ := cons_of_len h6
    obtain ⟨x8, xb8, rfl, h8⟩ := cons_of_len h7
    obtain ⟨x9, xb9, rfl, h9⟩ := cons_of_len h8
    obtain ⟨x10, xb10, rfl, h10⟩ := cons_of_len h9
    obtain ⟨x11, xb11, rfl, h11⟩ := cons_of_len h10
    obtain ⟨x12, xb12, rfl, h12⟩ := cons_of_len h11
    obtain ⟨x13, xb13, rfl, h13⟩ := cons_of_len h12
    obtain ⟨x14, xb14, rfl, h14⟩ := cons_of_len h13
    obtain ⟨y0, yb0, rfl, k0⟩ := cons_of_len k
    obtain ⟨y1, yb1, rfl, k1⟩ := cons_of_len k0
    obtain ⟨y2, yb2, rfl, k2⟩ := cons_of_len k1
    obtain ⟨y3, yb3, rfl, k3⟩ := cons_of_len k2
    obtain ⟨y4, yb4, rfl, k4⟩ := cons_of_len k3
    obtain ⟨y5, yb5, rfl, k5⟩ := cons_of_len k4
    obtain ⟨y6, yb6, rfl, k6⟩ := cons_of_len k5
    obtain ⟨y7, yb7, rfl, k7⟩ := cons_of_len k6
    obtain ⟨y8, yb8, rfl, k8⟩ := cons_of_len k7
    obtain ⟨y9, yb9, rfl, k9⟩ := cons_of_len k8
    obtain ⟨y10, yb10, rfl, k10⟩ := cons_of_len k9
    obtain ⟨y11, yb11, rfl, k11⟩ := cons_of_len k10
    obtain ⟨y12, yb12, rfl, k12⟩ := cons_of_len k11
    obtain ⟨y13, yb13, rfl, k13⟩ := cons_of_len k12
    obtain ⟨y14, yb14, rfl, k14⟩ := cons_of_len k13
    obtain rfl := List.length_eq_zero_iff.mp h14
    obtain rfl := List.length_eq_zero_iff.mp k14
    exact run_build w_ 127 _ _ (by kernel_rfl)
  replace BU := BU ri rm NRI.out NRM.out
  obtain ⟨tp, htp⟩ : ∃ t, t = g0 :: g1 :: g2 :: g3 :: g4 :: g5 :: g6 :: (ri ++ rm) := ⟨_, rfl⟩
  have hres : fsB l0 = tp ++ ss := by rw [htp, hss, hg0, hg1, hg2, hg3, hg4, hg5, hg6, hri, hrm, wrap4 (seg_byt HBY.out 16 4) (by rw [seg_le _ _ (by rw [HL.out]; decide)]; decide), wrap4 (seg_byt HBY.out 20 4) (by rw [seg_le _ _ (by rw [HL.out]; decide)]; decide), wrap4 (seg_byt HBY.out 40 4) (by rw [seg_le _ _ (by rw [HL.out]; decide)]; decide), wrap4 (seg_byt HBY.out 44 4) (by rw [seg_le _ _ (by rw [HL.out]; decide)]; decide)]; rfl
  have HTL := Aside0.mk (show tp.length = 37 by rw [htp]; simp [NRI.out, NRM.out])
  obtain ⟨ra, hra⟩ : ∃ a, a = tp ++ List.replicate 31 0 := ⟨_, rfl⟩
  have hra2 : ra = g0 :: g1 :: g2 :: g3 :: g4 :: g5 :: g6 :: (ri ++ rm) ++ List.replicate 31 0 := by rw [hra, htp]
  rw [← hra2] at BU
  have BU_ := Aside0.mk BU
  have NA := Aside0.mk (show ra.length = 68 by rw [hra, List.length_append, HTL.out]; rfl)
  have HRA := Aside0.mk (show fsUp tp ss 0 = ra by rw [hra]; exact fsUp_zero)
  obtain ⟨rz, hrz⟩ : ∃ a, a = tp ++ ss := ⟨_, rfl⟩
  rw [hres, ← hrz]
  have NL := Aside0.mk (show rz.length = 68 by rw [hrz, List.length_append, HTL.out, HSL.out])
  have HRZ := Aside0.mk hrz
  clear BU hra hra2 hrz hres htp hss hri hrm hg0 hg1 hg2 hg3 hg4 hg5 hg6
  have HB0 : Aside0 (Below w.heap.size w w) := ⟨Below.refl _ _⟩
  obtain ⟨s0, Sz0⟩ : ∃ s0, Aside0 (w.heap.size = s0) := ⟨_, ⟨rfl⟩⟩
  have hw0 : w.heap.size ≤ s0 := Nat.le_of_eq Sz0.out
  have hw1 : s0 ≤ w.heap.size := Nat.le_of_eq Sz0.out.symm
  go_enter Tryd.func142, Tryd.ntmps142
  go_wp2_with (first | ((with_reducible refine gate_dst (N := 2) rfl ?_); refine hx_alloc rfl 2 rfl 127 rfl Sz0 (.agg (nums .i64 (List.replicate 68 0)).toArray) (nums .i64 (List.replicate 68 0)).toArray Z127 rfl ?_; intro w1 s1 Ls1 Ss1 b_ g_; have H2 := Aside0.mk g_; have HB1 := Aside0.mk (below_then HB0.out HB0.out.size b_); clear b_ g_ HB0))
  refine wp_region_grow_last 22 [Is (.slice A0 l0.length c0), Is (.int .i64 g0), Is (.slice A0 l0.length c0), Is (.int .i64 g1), Is (.slice A0 l0.length c0), Is (.int .i64 g2), Is (.slice A0 l0.length c0), Is (.int .i64 g3), Is (.slice A0 l0.length c0), Is (.int .i64 g4), Is (.slice A0 l0.length c0), Is (.int .i64 g5), Is (.slice A0 l0.length c0), Is (.int .i64 g6), Is (.slice A0 l0.length c0), Is (.slice A20 q20.length k20), Is (.agg (nums .i64 ri).toArray), Is (.slice A0 l0.length c0), Is (.slice A23 q23.length k23), Is (.agg (nums .i64 rm).toArray), Is (.agg (nums .i64 ra).toArray), New 127 (nums .i64 (List.replicate 68 0)).toArray w1.heap.size] (by kernel_rfl) (by kernel_rfl) (by kernel_rfl) (by kernel_rfl) (allst_cons st_is (allst_cons st_is (allst_cons st_is (allst_cons st_is (allst_cons st_is (allst_cons st_is (allst_cons st_is (allst_cons st_is (allst_cons st_is (allst_cons st_is (allst_cons st_is (allst_cons st_is (allst_cons st_is (allst_cons st_is (allst_cons st_is (allst_cons st_is (allst_cons st_is (allst_cons st_is (allst_cons st_is (allst_cons st_is (allst_cons st_is (allst_cons st_new allst_nil)))))))))))))))))))))) ?_ (fun w2 hgn => ?_)
  · refine steps_cons ?_ ?_
    · refine stepO_val rfl [] [0] (by kernel_rfl) (.slice A0 l0.length c0) (fun a w_ hg hf => ?_) (fun w_ _ => rfl)
      obtain ⟨_, ⟨o0, _⟩⟩ := hf
      have e0 : a.tmps[0]? = some (.slice A0 l0.length c0) := o0.trans rfl
      unfold execOp
      simp only [PrintLast.eval_of e0]
      rfl
    refine steps_cons ?_ ?_
    · refine stepO_call rfl [(0, 5)] [] (by kernel_rfl) Tryd.func165 (by kernel_rfl) rfl rfl (fun a w_ hg hf => ?_)
      obtain ⟨⟨⟨_, e5, rfl⟩, _⟩, _⟩ := hf
      replace e5 : a.tmps[5]? = some (.slice A0 l0.length c0) := e5
      refine ⟨#[.slice A0 l0.length c0, .int .i64 8, .int .i64 8], (by simp only [List.map_toArray, List.map_cons, List.map_nil, PrintLast.eval_of e5]; first | done | rfl), (impl_number.calls 20 A0 c0 l0 8 8 g0 w_ (Kd.C_below HR0.out (below_then HB1.out HB1.out.size hg)) HC0.out EG0.out).mono ?_⟩
      rintro e_ w2_ ⟨rfl, d_⟩
      have b_ := kept_drawn d_
      exact ⟨_, rfl, b_, rfl⟩
    refine steps_cons ?_ ?_
    · refine stepO_val rfl [] [0] (by kernel_rfl) (.slice A0 l0.length c0) (fun a w_ hg hf => ?_) (fun w_ _ => rfl)
      obtain ⟨_, ⟨o0, _⟩⟩ := hf
      have e0 : a.tmps[0]? = some (.slice A0 l0.length c0) := o0.trans rfl
      unfold execOp
      simp only [PrintLast.eval_of e0]
      rfl
    refine steps_cons ?_ ?_
    · refine stepO_call rfl [(2, 7)] [] (by kernel_rfl) Tryd.func165 (by kernel_rfl) rfl rfl (fun a w_ hg hf => ?_)
      obtain ⟨⟨⟨_, e7, rfl⟩, _⟩, _⟩ := hf
      replace e7 : a.tmps[7]? = some (.slice A0 l0.length c0) := e7
      refine ⟨#[.slice A0 l0.length c0, .int .i64 16, .int .i64 4], (by simp only [List.map_toArray, List.map_cons, List.map_nil, PrintLast.eval_of e7]; first | done | rfl), (impl_number.calls 20 A0 c0 l0 16 4 g1 w_ (Kd.C_below HR0.out (below_then HB1.out HB1.out.size hg)) HC0.out EG1.out).mono ?_⟩
      rintro e_ w2_ ⟨rfl, d_⟩
      have b_ := kept_drawn d_
      exact ⟨_, rfl, b_, rfl⟩
    refine steps_cons ?_ ?_
    · refine stepO_val rfl [] [0] (by kernel_rfl) (.slice A0 l0.length c0) (fun a w_ hg hf => ?_) (fun w_ _ => rfl)
      obtain ⟨_, ⟨o0, _⟩⟩ := hf
      have e0 : a.tmps[0]? = some (.slice A0 l0.length c0) := o0.trans rfl
      unfold execOp
      simp only [PrintLast.eval_of e0]
      rfl
    refine steps_cons ?_ ?_
    · refine stepO_call rfl [(4, 9)] [] (by kernel_rfl) Tryd.func165 (by kernel_rfl) rfl rfl (fun a w_ hg hf => ?_)
      obtain ⟨⟨⟨_, e9, rfl⟩, _⟩, _⟩ := hf
      replace e9 : a.tmps[9]? = some (.slice A0 l0.length c0) := e9
      refine ⟨#[.slice A0 l0.length c0, .int .i64 20, .int .i64 4], (by simp only [List.map_toArray, List.map_cons, List.map_nil, PrintLast.eval_of e9]; first | done | rfl), (impl_number.calls 20 A0 c0 l0 20 4 g2 w_ (Kd.C_below HR0.out (below_then HB1.out HB1.out.size hg)) HC0.out EG2.out).mono ?_⟩
      rintro e_ w2_ ⟨rfl, d_⟩
      have b_ := kept_drawn d_
      exact ⟨_, rfl, b_, rfl⟩
    refine steps_cons ?_ ?_
    · refine stepO_val rfl [] [0] (by kernel_rfl) (.slice A0 l0.length c0) (fun a w_ hg hf => ?_) (fun w_ _ => rfl)
      obtain ⟨_, ⟨o0, _⟩⟩ := hf
      have e0 : a.tmps[0]? = some (.slice A0 l0.length c0) := o0.trans rfl
      unfold execOp
      simp only [PrintLast.eval_of e0]
      rfl
    refine steps_cons ?_ ?_
    · refine stepO_call rfl [(6, 11)] [] (by kernel_rfl) Tryd.func165 (by kernel_rfl) rfl rfl (fun a w_ hg hf => ?_)
      obtain ⟨⟨⟨_, e11, rfl⟩, _⟩, _⟩ := hf
      replace e11 : a.tmps[11]? = some (.slice A0 l0.length c0) := e11
      refine ⟨#[.slice A0 l0.length c0, .int .i64 24, .int .i64 8], (by simp only [List.map_toArray, List.map_cons, List.map_nil, PrintLast.eval_of e11]; first | done | rfl), (impl_number.calls 20 A0 c0 l0 24 8 g3 w_ (Kd.C_below HR0.out (below_then HB1.out HB1.out.size hg)) HC0.out EG3.out).mono ?_⟩
      rintro e_ w2_ ⟨rfl, d_⟩
      have b_ := kept_drawn d_
      exact ⟨_, rfl, b_, rfl⟩
    refine steps_cons ?_ ?_
    · refine stepO_val rfl [] [0] (by kernel_rfl) (.slice A0 l0.length c0) (fun a w_ hg hf => ?_) (fun w_ _ => rfl)
      obtain ⟨_, ⟨o0, _⟩⟩ := hf
      have e0 : a.tmps[0]? = some (.slice A0 l0.length c0) := o0.trans rfl
      unfold execOp
      simp only [PrintLast.eval_of e0]
      rfl
    refine steps_cons ?_ ?_
    · refine stepO_call rfl [(8, 13)] [] (by kernel_rfl) Tryd.func165 (by kernel_rfl) rfl rfl (fun a w_ hg hf => ?_)
      obtain ⟨⟨⟨_, e13, rfl⟩, _⟩, _⟩ := hf
      replace e13 : a.tmps[13]? = some (.slice A0 l0.length c0) := e13
      refine ⟨#[.slice A0 l0.length c0, .int .i64 32, .int .i64 8], (by simp only [List.map_toArray, List.map_cons, List.map_nil, PrintLast.eval_of e13]; first | done | rfl), (impl_number.calls 20 A0 c0 l0 32 8 g4 w_ (Kd.C_below HR0.out (below_then HB1.out HB1.out.size hg)) HC0.out EG4.out).mono ?_⟩
      rintro e_ w2_ ⟨rfl, d_⟩
      have b_ := kept_drawn d_
      exact ⟨_, rfl, b_, rfl⟩
    refine steps_cons ?_ ?_
    · refine stepO_val rfl [] [0] (by kernel_rfl) (.slice A0 l0.length c0) (fun a w_ hg hf => ?_) (fun w_ _ => rfl)
      obtain ⟨_, ⟨o0, _⟩⟩ := hf
      have e0 : a.tmps[0]? = some (.slice A0 l0.length c0) := o0.trans rfl
      unfold execOp
      simp only [PrintLast.eval_of e0]
      rfl
    refine steps_cons ?_ ?_
    · refine stepO_call rfl [(10, 15)] [] (by kernel_rfl) Tryd.func165 (by kernel_rfl) rfl rfl (fun a w_ hg hf => ?_)
      obtain ⟨⟨⟨_, e15, rfl⟩, _⟩, _⟩ := hf
      replace e15 : a.tmps[15]? = some (.slice A0 l0.length c0) := e15
      refine ⟨#[.slice A0 l0.length c0, .int .i64 40, .int .i64 4], (by simp only [List.map_toArray, List.map_cons, List.map_nil, PrintLast.eval_of e15]; first | done | rfl), (impl_number.calls 20 A0 c0 l0 40 4 g5 w_ (Kd.C_below HR0.out (below_then HB1.out HB1.out.size hg)) HC0.out EG5.out).mono ?_⟩
      rintro e_ w2_ ⟨rfl, d_⟩
      have b_ := kept_drawn d_
      exact ⟨_, rfl, b_, rfl⟩
    refine steps_cons ?_ ?_
    · refine stepO_val rfl [] [0] (by kernel_rfl) (.slice A0 l0.length c0) (fun a w_ hg hf => ?_) (fun w_ _ => rfl)
      obtain ⟨_, ⟨o0, _⟩⟩ := hf
      have e0 : a.tmps[0]? = some (.slice A0 l0.length c0) := o0.trans rfl
      unfold execOp
      simp only [PrintLast.eval_of e0]
      rfl
    refine steps_cons ?_ ?_
    · refine stepO_call rfl [(12, 17)] [] (by kernel_rfl) Tryd.func165 (by kernel_rfl) rfl rfl (fun a w_ hg hf => ?_)
      obtain ⟨⟨⟨_, e17, rfl⟩, _⟩, _⟩ := hf
      replace e17 : a.tmps[17]? = some (.slice A0 l0.length c0) := e17
      refine ⟨#[.slice A0 l0.length c0, .int .i64 44, .int .i64 4], (by simp only [List.map_toArray, List.map_cons, List.map_nil, PrintLast.eval_of e17]; first | done | rfl), (impl_number.calls 20 A0 c0 l0 44 4 g6 w_ (Kd.C_below HR0.out (below_then HB1.out HB1.out.size hg)) HC0.out EG6.out).mono ?_⟩
      rintro e_ w2_ ⟨rfl, d_⟩
      have b_ := kept_drawn d_
      exact ⟨_, rfl, b_, rfl⟩
    refine steps_cons ?_ ?_
    · refine stepO_val rfl [] [0] (by kernel_rfl) (.slice A0 l0.length c0) (fun a w_ hg hf => ?_) (fun w_ _ => rfl)
      obtain ⟨_, ⟨o0, _⟩⟩ := hf
      have e0 : a.tmps[0]? = some (.slice A0 l0.length c0) := o0.trans rfl
      unfold execOp
      simp only [PrintLast.eval_of e0]
      rfl
    refine steps_cons ?_ ?_
    · refine stepO_val rfl [(14, 19)] [] (by kernel_rfl) (.slice A20 q20.length k20) (fun a w_ hg hf => ?_) (fun w_ _ => rfl)
      obtain ⟨⟨⟨_, e19, rfl⟩, _⟩, _⟩ := hf
      replace e19 : a.tmps[19]? = some (.slice A0 l0.length c0) := e19
      unfold execOp
      simp only [PrintLast.eval_of e19, Act.eval]
      go_simp
      (try rfl)
    refine steps_cons ?_ ?_
    · refine stepO_call rfl [(15, 20)] [] (by kernel_rfl) Tryd.func166 (by kernel_rfl) rfl rfl (fun a w_ hg hf => ?_)
      obtain ⟨⟨⟨_, e20, rfl⟩, _⟩, _⟩ := hf
      replace e20 : a.tmps[20]? = some (.slice A20 q20.length k20) := e20
      refine ⟨#[.slice A20 q20.length k20], (by simp only [List.map_toArray, List.map_cons, List.map_nil, PrintLast.eval_of e20]; first | done | rfl), (impl_getRoot.calls A20 k20 q20 ri w_ (Kd.C_below HR20.out (below_then HB1.out HB1.out.size hg)) HC20.out EG20.out).mono ?_⟩
      rintro e_ w2_ ⟨rfl, b_⟩
      exact ⟨_, rfl, b_, rfl⟩
    refine steps_cons ?_ ?_
    · refine stepO_val rfl [] [0] (by kernel_rfl) (.slice A0 l0.length c0) (fun a w_ hg hf => ?_) (fun w_ _ => rfl)
      obtain ⟨_, ⟨o0, _⟩⟩ := hf
      have e0 : a.tmps[0]? = some (.slice A0 l0.length c0) := o0.trans rfl
      unfold execOp
      simp only [PrintLast.eval_of e0]
      rfl
    refine steps_cons ?_ ?_
    · refine stepO_val rfl [(17, 22)] [] (by kernel_rfl) (.slice A23 q23.length k23) (fun a w_ hg hf => ?_) (fun w_ _ => rfl)
      obtain ⟨⟨⟨_, e22, rfl⟩, _⟩, _⟩ := hf
      replace e22 : a.tmps[22]? = some (.slice A0 l0.length c0) := e22
      unfold execOp
      simp only [PrintLast.eval_of e22, Act.eval]
      go_simp
      (try rfl)
    refine steps_cons ?_ ?_
    · refine stepO_call rfl [(18, 23)] [] (by kernel_rfl) Tryd.func166 (by kernel_rfl) rfl rfl (fun a w_ hg hf => ?_)
      obtain ⟨⟨⟨_, e23, rfl⟩, _⟩, _⟩ := hf
      replace e23 : a.tmps[23]? = some (.slice A23 q23.length k23) := e23
      refine ⟨#[.slice A23 q23.length k23], (by simp only [List.map_toArray, List.map_cons, List.map_nil, PrintLast.eval_of e23]; first | done | rfl), (impl_getRoot.calls A23 k23 q23 rm w_ (Kd.C_below HR23.out (below_then HB1.out HB1.out.size hg)) HC23.out EG23.out).mono ?_⟩
      rintro e_ w2_ ⟨rfl, b_⟩
      exact ⟨_, rfl, b_, rfl⟩
    refine steps_cons ?_ ?_
    · refine stepO_val rfl [(1, 6), (3, 8), (5, 10), (7, 12), (9, 14), (11, 16), (13, 18), (16, 21), (19, 24)] [] (by kernel_rfl) (.agg (nums .i64 ra).toArray) (fun a w_ hg hf => ?_) (fun w_ _ => rfl)
      obtain ⟨⟨⟨_, e6, rfl⟩, ⟨_, e8, rfl⟩, ⟨_, e10, rfl⟩, ⟨_, e12, rfl⟩, ⟨_, e14, rfl⟩, ⟨_, e16, rfl⟩, ⟨_, e18, rfl⟩, ⟨_, e21, rfl⟩, ⟨_, e24, rfl⟩, _⟩, _⟩ := hf
      replace e6 : a.tmps[6]? = some (.int .i64 g0) := e6
      replace e8 : a.tmps[8]? = some (.int .i64 g1) := e8
      replace e10 : a.tmps[10]? = some (.int .i64 g2) := e10
      replace e12 : a.tmps[12]? = some (.int .i64 g3) := e12
      replace e14 : a.tmps[14]? = some (.int .i64 g4) := e14
      replace e16 : a.tmps[16]? = some (.int .i64 g5) := e16
      replace e18 : a.tmps[18]? = some (.int .i64 g6) := e18
      replace e21 : a.tmps[21]? = some (.agg (nums .i64 ri).toArray) := e21
      replace e24 : a.tmps[24]? = some (.agg (nums .i64 rm).toArray) := e24
      unfold execOp
      simp only [PrintLast.eval_of e6, PrintLast.eval_of e8, PrintLast.eval_of e10, PrintLast.eval_of e12, PrintLast.eval_of e14, PrintLast.eval_of e16, PrintLast.eval_of e18, PrintLast.eval_of e21, PrintLast.eval_of e24, List.map_toArray, List.map_cons, List.map_nil, Sem.run_bind, Sem.run_pure, Result.andThen_ok, BU_.out]
    refine steps_cons ?_ ?_
    · refine stepO_alloc rfl [] [] (by kernel_rfl) rfl (.agg (nums .i64 (List.replicate 68 0)).toArray) (nums .i64 (List.replicate 68 0)).toArray Z127 rfl (fun _ _ h => h)
    exact steps_nil
  · skip
    refine ends_cons (fun v0_ p0_ => ?_)
    obtain rfl : v0_ = _ := p0_
    refine ends_cons (fun v1_ p1_ => ?_)
    obtain rfl : v1_ = _ := p1_
    refine ends_cons (fun v2_ p2_ => ?_)
    obtain rfl : v2_ = _ := p2_
    refine ends_cons (fun v3_ p3_ => ?_)
    obtain rfl : v3_ = _ := p3_
    refine ends_cons (fun v4_ p4_ => ?_)
    obtain rfl : v4_ = _ := p4_
    refine ends_cons (fun v5_ p5_ => ?_)
    obtain rfl : v5_ = _ := p5_
    refine ends_cons (fun v6_ p6_ => ?_)
    obtain rfl : v6_ = _ := p6_
    refine ends_cons (fun v7_ p7_ => ?_)
    obtain rfl : v7_ = _ := p7_
    refine ends_cons (fun v8_ p8_ => ?_)
    obtain rfl : v8_ = _ := p8_
    refine ends_cons (fun v9_ p9_ => ?_)
    obtain rfl : v9_ = _ := p9_
    refine ends_cons (fun v10_ p10_ => ?_)
    obtain rfl : v10_ = _ := p10_
    refine ends_cons (fun v11_ p11_ => ?_)
    obtain rfl : v11_ = _ := p11_
    refine ends_cons (fun v12_ p12_ => ?_)
    obtain rfl : v12_ = _ := p12_
    refine ends_cons (fun v13_ p13_ => ?_)
    obtain rfl : v13_ = _ := p13_
    refine ends_cons (fun v14_ p14_ => ?_)
    obtain rfl : v14_ = _ := p14_
    refine ends_cons (fun v15_ p15_ => ?_)
    obtain rfl : v15_ = _ := p15_
    refine ends_cons (fun v16_ p16_ => ?_)
    obtain rfl : v16_ = _ := p16_
    refine ends_cons (fun v17_ p17_ => ?_)
    obtain rfl : v17_ = _ := p17_
    refine ends_cons (fun v18_ p18_ => ?_)
    obtain rfl : v18_ = _ := p18_
    refine ends_cons (fun v19_ p19_ => ?_)
    obtain rfl : v19_ = _ := p19_
    refine ends_cons (fun v20_ p20_ => ?_)
    obtain rfl : v20_ = _ := p20_
    refine ends_cons (fun v21_ p21_ => ?_)
    obtain ⟨g21_, l21_, rfl, n21_⟩ := p21_
    refine ends_nil ?_
    simp only [Act.put, List.setIfInBounds_toArray, List.set_cons_succ, List.set_cons_zero]
    have HB2 := Aside0.mk (below_then HB1.out HB1.out.size hgn)
    have H2_2 := Aside0.mk (blk_below H2.out hgn)
    rw [Ss1.out] at l21_
    have N21 := Aside0.mk n21_
    clear n21_ hgn HB1 H2 Z127
    simp only [List.drop_succ_cons, List.drop_zero]
    go_wp2_with (first | ((with_reducible refine gate_store (t := 127) (p := 3) (v := .tmp 25) rfl ?_); refine hx_store rfl rfl 127 (.tmp 3) (.tmp 25) rfl g21_ 68 rfl (nums .i64 ra).toArray rfl (by kernel_rfl) (nums_size _ _ _ NA.out) (nums_one _ _) N21.out (by simp [nums]) ?_; intro w4 t_ gg_; have HG4 := Aside0.mk gg_; have H2_3 := Aside0.mk (t_.keep (show s0 ≠ g21_ by omega) H2_2.out); have HB4 := Aside0.mk (t_.below HB2.out (by omega)); clear t_ gg_ N21 HB2 H2_2))
    (try simp only [Act.put, List.setIfInBounds_toArray, List.set_cons_succ, List.set_cons_zero])
    obtain ⟨zz, hzz⟩ : ∃ z, z = List.replicate 68 (0 : Int) := ⟨_, rfl⟩
    have hz_ := H2_3.out
    rw [← hzz] at hz_
    have HZ4 := Aside0.mk hz_
    have NZZ := Aside0.mk (show zz.length = 68 by rw [hzz]; simp)
    have HRA4 := HG4.out
    rw [← HRA.out] at HRA4
    have HU4 := Aside0.mk HRA4
    clear hz_ hzz H2_3 HRA4 HG4
    go_loopw [4, 26] (fun v4 v26 wr => ∃ (j : Nat) (u4 : Value), u4 = v4 ∧ v26 = .int .i64 (j : Int) ∧ Aside0 (j ≤ 31) ∧ Aside0 (wr.heap[g21_]? = some (.cells (nums .i64 (fsUp tp ss j)).toArray 127 (0, 0))) ∧ Aside0 (wr.heap[s0]? = some (.cells (nums .i64 zz).toArray 127 (0, 0))) ∧ Aside0 (Below w.heap.size w wr)) (fun _ v26 _ => 31 - (intOf v26).toNat)
    case atStart => exact ⟨0, _, rfl, rfl, ⟨Nat.zero_le _⟩, HU4, HZ4, HB4⟩
    case round =>
      clear HU4 HZ4 HB4
      obtain ⟨j, v4, rfl, rfl, hj, HGj, HZ, HB⟩ := hrel
      by_cases c9 : j < 31
      · have c9b0 : decide ((j : Int) < 31) = true := decide_eq_true (by omega)
        have c9b1 : decide (j < 31) = true := decide_eq_true c9
        have q3 : ((j : Int) < 31) = True := eq_true (by omega)
        have q4 : (0 ≤ (j : Int)) = True := eq_true (by omega)
        have q5 : (j < 31) = True := eq_true c9
        obtain ⟨p, hp⟩ : ∃ p, p = ss.getD j 0 := ⟨_, rfl⟩
        have EGJ := Aside0.mk (show impl_number.f 20 l0 ((176 + 4 * j : Nat) : Int) 4 = some p by rw [hp, HSS.out, snapsOf_get _ _ c9, ← wrap4 (seg_byt HBY.out _ _) (by rw [seg_le _ _ (by rw [HL.out]; omega)]; decide)]; exact number_f l0 (176 + 4 * j) 4 HBY.out (by decide) (by rw [HL.out]; omega) (by rw [HL.out]; decide) 20 (by decide))
        have HLO := Aside0.mk (show wrap64 (176 + wrap64 (4 * (j : Int))) = ((176 + 4 * j : Nat) : Int) by rw [show wrap64 (4 * (j : Int)) = ((4 * j : Nat) : Int) by unfold wrap64; omega]; unfold wrap64; omega)
        obtain ⟨L, hL⟩ : ∃ L, L = fsUp tp ss j := ⟨_, rfl⟩
        have hg_ := HGj.out
        rw [← hL] at hg_
        have HG := Aside0.mk hg_
        have HUL := Aside0.mk (show L.length = 68 by rw [hL]; exact fsUp_length HTL.out HSL.out (by omega))
        have HLL := Aside0.mk hL
        have HPV := Aside0.mk hp
        have C9 := Aside0.mk c9
        clear hp hL hg_ HGj c9
        go_wp2_with (first | ((with_reducible refine gate_dst (N := 34) rfl ?_); refine goesL_ (some 34) rfl rfl Tryd.func165 (by kernel_rfl) rfl #[.slice A0 l0.length c0, .int .i64 ((176 + 4 * j : Nat) : Int), .int .i64 4] rfl (by (try simp only [List.map_toArray, List.map_cons, List.map_nil]); first | done | rfl | (rw [← HLO.out]; rfl)) ?_; refine (impl_number.calls 20 A0 c0 l0 ((176 + 4 * j : Nat) : Int) 4 p _ (Kd.C_below HR0.out HB.out) HC0.out EGJ.out).mono ?_; rintro e_ w5 ⟨rfl, d_⟩; refine ⟨_, rfl, ?_⟩; have b_ := kept_drawn d_; have HG5 := Aside0.mk (blk_below HG.out b_); have HZ5 := Aside0.mk (blk_below HZ.out b_); have HB5 := Aside0.mk (below_then HB.out HB.out.size b_); clear d_; clear b_ HG HZ HB) | ((with_reducible refine gate_store (t := 3) (p := 36) (v := .tmp 34) rfl ?_); refine hx_storef rfl rfl 3 (.tmp 36) (.tmp 34) rfl g21_ (37 + j) (by first | rfl | (simp [Act.eval]; done)) p rfl (by kernel_rfl) HG5.out (by rw [HUL.out]; have := C9.out; omega) ?_; intro w6 L6 t_ hl6 hn6 g_; have HG6 := Aside0.mk g_; have HZ6 := Aside0.mk (t_.keep (show s0 ≠ g21_ by omega) HZ5.out); have HB6 := Aside0.mk (t_.below HB5.out (by omega)); clear t_ g_ hn6 HG5 HZ5 HB5))
        go_roundw
        case rel => exact ⟨j + 1, _, rfl, by first | rw [show wrap64 ((j : Int) + 1) = ((j + 1 : Nat) : Int) by (have := C9.out; unfold wrap64; omega)] | (simp; done), ⟨by have := C9.out; omega⟩, ⟨by
          have h_ := HG6.out
          rw [hl6.out, HLL.out, HPV.out, fsUp_set HTL.out HSL.out C9.out] at h_
          exact h_⟩, HZ6, HB6⟩
        case measure =>
          (try rw [show wrap64 ((j : Int) + 1) = ((j + 1 : Nat) : Int) by (have := C9.out; unfold wrap64; omega)])
          simp only [intOf]
          have := C9.out
          omega
      · obtain rfl : j = 31 := by have := hj.out; omega
        have c9b0 : decide ((31 : Int) < 31) = false := by decide
        have hg_ := HGj.out
        rw [fsUp_all HSL.out, ← HRZ.out] at hg_
        have HG := Aside0.mk hg_
        clear c9 hg_ HGj
        go_wp2_with (first | ((with_reducible refine gate_dst (N := 38) rfl ?_); refine hx_load rfl 127 (.tmp 3) rfl g21_ 68 rfl Tryd.underlying127 rfl (by kernel_rfl) HG.out (nums_size _ _ _ NL.out) ?_) | ((with_reducible refine gate_store (t := 127) (p := 2) (v := .tmp 38) rfl ?_); refine hx_store rfl rfl 127 (.tmp 2) (.tmp 38) rfl s0 68 rfl (nums .i64 rz).toArray rfl (by kernel_rfl) (nums_size _ _ _ NL.out) (nums_one _ _) HZ.out (by simp [nums, NZZ.out]) ?_; intro we t_ gg_; have HE := Aside0.mk gg_; have HEB := Aside0.mk (t_.below HB.out (by omega)); clear t_ gg_ HZ HB ))
        exact bodyPost_ret (results_cell_row rfl _ _ s0 127 _ (0, 0) _ rfl HE.out Tryd.underlying127 rfl (by rw [nums_size _ _ 68 NL.out]; kernel_rfl)) rfl ⟨rfl, HEB.out⟩
def impl_within.f (a0 : Int) (a1 : Int) (a2 : Int) : Option (Bool) := if a0 ≥ a1 then (some (decide (a0 ≤ a2))) else (some false)
set_option maxHeartbeats 8000000 in
set_option maxRecDepth 100000 in
theorem impl_within.calls (a0 : Int) (a1 : Int) (a2 : Int) (r : Bool) (w : World) (h : impl_within.f a0 a1 a2 = some r) :
    Calls Tryd.prog 87 #[.int .i64 a0, .int .i64 a1, .int .i64 a2] w fun e w' => e = .returned (.bool r) ∧ Drawn0 w w' := by
  have H : (if a0 ≥ a1 then (some (decide (a0 ≤ a2))) else (some false)) = some r := h
  clear h
  by_cases c4 : a0 ≥ a1
  · rw [if_pos c4] at H
    have c4b0 : decide (a1 ≤ a0) = true := decide_eq_true c4
    clear c4
    obtain rfl := Option.some.inj H
    go_enter Tryd.func87, Tryd.ntmps87
    go_wp2
    go_ret
    exact ⟨by first | rfl | (simp; done) | (simp [*]; done), by repeat (first | exact Drawn0.refl _ | apply Drawn0.step)⟩
  · rw [if_neg c4] at H
    have c4b0 : decide (a1 ≤ a0) = false := decide_eq_false c4
    clear c4
    obtain rfl := Option.some.inj H
    go_enter Tryd.func87, Tryd.ntmps87
    go_wp2
    go_ret
    exact ⟨by first | rfl | (simp; done) | (simp [*]; done), by repeat (first | exact Drawn0.refl _ | apply Drawn0.step)⟩
end Go.Proofs.YtknlpjoidjgciaaDoor.PFnExactSnapshots
