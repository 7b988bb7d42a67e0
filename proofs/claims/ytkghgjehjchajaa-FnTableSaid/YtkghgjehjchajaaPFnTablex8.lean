-- Written by a program of this session (patch_print.py over the kit print)
import Derived.Test.YtkghgjehjchajaaPFnTablex0
import Derived.Test.YtkghgjehjchajaaPFnTablex7
namespace Go.Proofs.Ytkghgjehjchajaa.PFnTable
open Go.RowKit Go.Proofs.YtkghgjehjchajaaW.PrintWords Go.Proofs.YtkghgjehjchajaaW.PrintLast Go.Proofs.YtkghgjehjchajaaW.PrintMore
attribute [local go_sem] max2_int min2_int max_two min_two max_three min_three max_four min_four   -- for this text's walks alone
set_option linter.unusedVariables false
set_option linter.unusedSimpArgs false

open Go.Proofs.YtkghgjehjchajaaW Go.Proofs.YtkghgjehjchajaaW.PrintHand Go.Proofs.YtkghgjehjchajaaW.PrintHx
/-! ### impl_getRoot: function 48 -/
open Go.Proofs.YtkghgjehjchajaaW.PrintLe Go.Proofs.YtkghgjehjchajaaW.PrintGrow Go.Proofs.YtkghgjehjchajaaW.PrintDec Go.Proofs.YtkghgjehjchajaaW.PrintRaw
theorem number_l0 (x0 c : List Int) (at_ : Nat) (hb : Byt c) (h8 : c.length ≤ 8) (hat : at_ + c.length ≤ x0.length) (hc : ∀ j, j < c.length → x0.getD (at_ + j) 0 = c.getD j 0) (hx : x0.length ≤ 1048576) : ∀ (n k : Nat), n ≤ c.length → n < k → impl_number.l0 k x0 (at_ : Int) (le (c.drop n)) ((n : Int) - 1) = some (wrap64 (le c))
  | 0, k, h1, h2 => by
    obtain ⟨k, rfl⟩ := sucK h2
    simp only [impl_number.l0]
    rw [List.drop_zero, if_neg (by omega)]
  | n + 1, k, h1, h2 => by
    obtain ⟨k, rfl⟩ := sucK h2
    have hn : n < c.length := by omega
    have hd := List.drop_eq_getElem_cons hn
    have hxn := hb c[n] (List.getElem_mem hn)
    have h0 := le_nonneg (hb.drop (n + 1))
    have hlt := le_lt (hb.drop (n + 1))
    rw [List.length_drop] at hlt
    have h7 : le (c.drop (n + 1)) < 256 ^ 7 := Int.lt_of_lt_of_le hlt (p256_le (by omega))
    have e1 : wrap64 ((at_ : Int) + (((n + 1 : Nat) : Int) - 1)) = ((at_ + n : Nat) : Int) := by unfold wrap64; omega
    have hr : rd x0 ((at_ + n : Nat) : Int) = c[n] := by rw [rdN, hc n hn, List.getD_eq_getElem?_getD, List.getElem?_eq_getElem hn]; rfl
    simp only [impl_number.l0]
    rw [e1, if_pos (by omega), if_pos (by omega), if_pos (by omega), hr]
    have hv : Go.bits .or .u64 (IntKind.u64.wrap (le (c.drop (n + 1)) * 256)) (IntKind.u64.wrap c[n]) = le (c.drop n) := by
      rw [wraps_u64 _ (by omega) (by omega), wraps_u64 _ (by omega) (by omega), bits_join .u64 64 (by decide) wraps_u64 8 _ _ (by omega) (by omega) (by omega) (by omega) (by omega) (by omega), hd]
      simp only [le]
      omega
    rw [hv, show wrap64 (((n + 1 : Nat) : Int) - 1 - 1) = (n : Int) - 1 by unfold wrap64; omega]
    exact number_l0 x0 c at_ hb h8 hat hc hx n k (by omega) (by omega)
/-- number: what bytes at a place say -/
theorem number_f (x0 : List Int) (at_ size : Nat) (hb : Byt x0) (h8 : size ≤ 8) (hat : at_ + size ≤ x0.length) (hx : x0.length ≤ 1048576) (k : Nat) (hk : 8 < k) : impl_number.f k x0 (at_ : Int) (size : Int) = some (wrap64 (le ((x0.drop at_).take size))) := by
  unfold impl_number.f
  have hl : ((x0.drop at_).take size).length = size := by rw [List.length_take, List.length_drop]; omega
  have h := number_l0 x0 ((x0.drop at_).take size) at_ ((hb.drop _).take _) (by omega) (by omega) (fun j hj => by
    rw [List.getD_eq_getElem?_getD, List.getD_eq_getElem?_getD, List.getElem?_take, List.getElem?_drop, if_pos (by omega)]) hx size k (by omega) (by omega)
  rw [List.drop_eq_nil_of_le (by omega)] at h
  rw [show wrap64 ((size : Int) - 1) = (size : Int) - 1 by unfold wrap64; omega]
  exact h
theorem at8 (a j : Nat) (ha : a ≤ 1000) (hj : j < 32) : wrap64 ((a : Int) + wrap64 (4 * (j : Int))) = ((a + 4 * j : Nat) : Int) := by
  have h : wrap64 (4 * (j : Int)) = 4 * (j : Int) := by unfold wrap64; omega
  rw [h]
  unfold wrap64
  omega
def impl_getRoot.f (l0 : List Int) : Option (List Int) := if (64 ≤ l0.length ∧ l0.length ≤ 1048576) ∧ (∀ x ∈ l0, 0 ≤ x ∧ x ≤ 255) then some (rootB l0) else none
set_option maxHeartbeats 8000000 in
set_option maxRecDepth 100000 in
theorem impl_getRoot.calls (A0 : Option Addr) (c0 : Nat) (l0 : List Int) (r : List Int) (w : World) (hr0 : Kd.C (Kd.int .u8) w A0 l0.length l0) (hc0 : l0.length ≤ c0) (h : impl_getRoot.f l0 = some r) :
    Calls Try.prog 48 #[.slice A0 l0.length c0] w fun e w' => e = .returned (.agg (nums .i64 r).toArray) ∧ Below w.heap.size w w' := by
  unfold impl_getRoot.f at h
  by_cases hdom : (64 ≤ l0.length ∧ l0.length ≤ 1048576) ∧ (∀ x ∈ l0, 0 ≤ x ∧ x ≤ 255)
  case neg => rw [if_neg hdom] at h; cases h
  rw [if_pos hdom] at h
  obtain rfl := Option.some.inj h
  have HL := Aside0.mk hdom.1
  have HBY : Aside0 (Byt l0) := ⟨hdom.2⟩
  have HR0 := Aside0.mk hr0
  have HC0 := Aside0.mk hc0
  clear h hdom hr0 hc0
  have Z28 : ∀ w, (zeroValue 28).run Try.prog w = .ok (.agg (nums .i64 (List.replicate 15 0)).toArray) w := fun _ => by kernel_rfl
  obtain ⟨g0, hg0⟩ : ∃ g, g = wrap64 (le (seg l0 0 8)) := ⟨_, rfl⟩
  have Eg0 := Aside0.mk (show impl_number.f 20 l0 0 8 = some g0 by rw [hg0]; exact number_f l0 0 8 HBY.out (by decide) (by have := HL.out; omega) (by have := HL.out; omega) 20 (by decide))
  obtain ⟨g1, hg1⟩ : ∃ g, g = wrap64 (le (seg l0 56 4)) := ⟨_, rfl⟩
  have Eg1 := Aside0.mk (show impl_number.f 20 l0 56 4 = some g1 by rw [hg1]; exact number_f l0 56 4 HBY.out (by decide) (by have := HL.out; omega) (by have := HL.out; omega) 20 (by decide))
  obtain ⟨g2, hg2⟩ : ∃ g, g = wrap64 (le (seg l0 60 4)) := ⟨_, rfl⟩
  have Eg2 := Aside0.mk (show impl_number.f 20 l0 60 4 = some g2 by rw [hg2]; exact number_f l0 60 4 HBY.out (by decide) (by have := HL.out; omega) (by have := HL.out; omega) 20 (by decide))
  obtain ⟨ds, hds⟩ : ∃ d, d = rootVals l0 := ⟨_, rfl⟩
  have DL := Aside0.mk (show ds.length = 12 by rw [hds]; exact rootVals_length l0)
  have EGJ := Aside0.mk (show ∀ j : Nat, j < 12 → impl_number.f 20 l0 ((8 + 4 * j : Nat) : Int) 4 = some (ds.getD j 0) from fun j hj => by rw [hds, rootVals_get l0 j hj, ← wrap4 (seg_byt HBY.out _ _) (by rw [seg_le _ _ (by have := HL.out; omega)]; decide)]; exact number_f l0 (8 + 4 * j) 4 HBY.out (by decide) (by have := HL.out; omega) (by have := HL.out; omega) 20 (by decide))
  have hres : rootB l0 = g0 :: (ds ++ [g1, g2]) := by rw [hg0, hg1, hg2, hds, wrap4 (seg_byt HBY.out 56 4) (by rw [seg_le _ _ (by have := HL.out; omega)]; decide), wrap4 (seg_byt HBY.out 60 4) (by rw [seg_le _ _ (by have := HL.out; omega)]; decide)]; rfl
  rw [hres]
  clear hres hg0 hg1 hg2 hds
  have HB0 : Aside0 (Below w.heap.size w w) := ⟨Below.refl _ _⟩
  obtain ⟨s0, Sz0⟩ : ∃ s0, Aside0 (w.heap.size = s0) := ⟨_, ⟨rfl⟩⟩
  have hw0 : w.heap.size ≤ s0 := Nat.le_of_eq Sz0.out
  have hw1 : s0 ≤ w.heap.size := Nat.le_of_eq Sz0.out.symm
  go_enter Try.func48, Try.ntmps48
  go_wp2_with (first | ((with_reducible refine gate_dst (N := 2) rfl ?_); refine hx_alloc rfl 2 rfl 28 rfl Sz0 (.agg (nums .i64 (List.replicate 15 0)).toArray) (nums .i64 (List.replicate 15 0)).toArray Z28 rfl ?_; intro w1 s1 Ls1 Ss1 b_ g_; have H2_1 := Aside0.mk g_; have HB1 := Aside0.mk (below_then HB0.out HB0.out.size b_); clear b_ g_ HB0) | ((with_reducible refine gate_dst (N := 6) rfl ?_); refine goesL_ (some 6) rfl rfl Try.func76 (by kernel_rfl) rfl #[.slice A0 l0.length c0, .int .i64 0, .int .i64 8] rfl (by (try simp only [List.map_toArray, List.map_cons, List.map_nil]); first | done | rfl) ?_; refine (impl_number.calls 20 A0 c0 l0 0 8 g0 _ (Kd.C_below HR0.out HB1.out) HC0.out Eg0.out).mono ?_; rintro e_ w2 ⟨rfl, d_⟩; refine ⟨_, rfl, ?_⟩; have b_ := kept_drawn d_; have H2_2 := Aside0.mk (blk_below H2_1.out b_); have HB2 := Aside0.mk (below_then HB1.out HB1.out.size b_); clear b_ d_ H2_1 HB1) | ((with_reducible refine gate_dst (N := 8) rfl ?_); refine goesL_ (some 8) rfl rfl Try.func76 (by kernel_rfl) rfl #[.slice A0 l0.length c0, .int .i64 56, .int .i64 4] rfl (by (try simp only [List.map_toArray, List.map_cons, List.map_nil]); first | done | rfl) ?_; refine (impl_number.calls 20 A0 c0 l0 56 4 g1 _ (Kd.C_below HR0.out HB2.out) HC0.out Eg1.out).mono ?_; rintro e_ w3 ⟨rfl, d_⟩; refine ⟨_, rfl, ?_⟩; have b_ := kept_drawn d_; have H2_3 := Aside0.mk (blk_below H2_2.out b_); have HB3 := Aside0.mk (below_then HB2.out HB2.out.size b_); clear b_ d_ H2_2 HB2) | ((with_reducible refine gate_dst (N := 10) rfl ?_); refine goesL_ (some 10) rfl rfl Try.func76 (by kernel_rfl) rfl #[.slice A0 l0.length c0, .int .i64 60, .int .i64 4] rfl (by (try simp only [List.map_toArray, List.map_cons, List.map_nil]); first | done | rfl) ?_; refine (impl_number.calls 20 A0 c0 l0 60 4 g2 _ (Kd.C_below HR0.out HB3.out) HC0.out Eg2.out).mono ?_; rintro e_ w4 ⟨rfl, d_⟩; refine ⟨_, rfl, ?_⟩; have b_ := kept_drawn d_; have H2_4 := Aside0.mk (blk_below H2_3.out b_); have HB4 := Aside0.mk (below_then HB3.out HB3.out.size b_); have hz_ := (blk_lt H2_4.out); obtain ⟨s4, Ss4⟩ : ∃ s, Aside0 (w4.heap.size = s) := ⟨_, ⟨rfl⟩⟩; rw [Ss4.out] at hz_; clear b_ d_ H2_3 HB3) | ((with_reducible refine gate_dst (N := 3) rfl ?_); refine hx_alloc rfl 3 rfl 28 rfl Ss4 (.agg (nums .i64 (List.replicate 15 0)).toArray) (nums .i64 (List.replicate 15 0)).toArray Z28 rfl ?_; intro w5 s5 Ls5 Ss5 b_ g_; have HG5 := Aside0.mk g_; have HB5 := Aside0.mk (below_then HB4.out HB4.out.size b_); have H2_5 := Aside0.mk (blk_below H2_4.out b_); clear b_ g_ HB4 H2_4) | ((with_reducible refine gate_store (t := 28) (p := 3) (v := .tmp 11) rfl ?_); refine hx_store rfl rfl 28 (.tmp 3) (.tmp 11) rfl s4 15 rfl (nums .i64 (g0 :: (filled ds 0 ++ [g1, g2]))).toArray rfl (by kernel_rfl) (nums_size _ _ _ (filled_length DL.out 0 (by decide) _ _ _)) (nums_one _ _) HG5.out (by simp [nums]) ?_; intro w6 t_ gg_; have HG6 := Aside0.mk gg_; have H2_6 := Aside0.mk (t_.keep (show s0 ≠ s4 by omega) H2_5.out); have HB6 := Aside0.mk (t_.below HB5.out (by omega)); clear t_ gg_ HG5 HB5 H2_5))
  (try simp only [Act.put, List.setIfInBounds_toArray, List.set_cons_succ, List.set_cons_zero])
  go_loopw [4, 12] (fun v4 v15 wr => ∃ (j : Nat) (u : Value), u = v4 ∧ v15 = .int .i64 (j : Int) ∧ Aside0 (j ≤ 12) ∧ Aside0 (wr.heap[s4]? = some (.cells (nums .i64 (g0 :: (filled ds j ++ [g1, g2]))).toArray 28 (0, 0))) ∧ Aside0 (wr.heap[s0]? = some (.cells (nums .i64 (List.replicate 15 0)).toArray 28 (0, 0))) ∧ Aside0 (Below w.heap.size w wr)) (fun _ v15 _ => 12 - (intOf v15).toNat)
  case atStart => exact ⟨0, _, rfl, rfl, ⟨by omega⟩, HG6, H2_6, HB6⟩
  case round =>
    clear HG6 H2_6 HB6
    obtain ⟨j, v4, rfl, rfl, hj, HG, H2, HB⟩ := hrel
    by_cases c9 : j < 12
    · have c9b0 : decide ((j : Int) < 12) = true := decide_eq_true (by omega)
      have c9b1 : decide (j < 12) = true := decide_eq_true c9
      have e8 : wrap64 (8 + wrap64 (4 * (j : Int))) = ((8 + 4 * j : Nat) : Int) := at8 8 j (by decide) (by omega)
      obtain ⟨dv, hdv⟩ : ∃ d, d = ds.getD j 0 := ⟨_, rfl⟩
      have EGz := Aside0.mk (show impl_number.f 20 l0 (wrap64 (8 + wrap64 (4 * (j : Int)))) 4 = some dv by rw [e8, hdv]; exact EGJ.out j c9)
      have HDV := Aside0.mk hdv
      have C9 := Aside0.mk c9
      have q9 : (0 ≤ (j : Int)) = True := eq_true (by omega)
      have q10 : ((j : Int) < 12) = True := eq_true (by omega)
      have q11 : (j < 12) = True := eq_true c9
      clear hdv c9 e8
      go_wp2_with (first | ((with_reducible refine gate_dst (N := 20) rfl ?_); refine goesL_ (some 20) rfl rfl Try.func76 (by kernel_rfl) rfl #[.slice A0 l0.length c0, .int .i64 (wrap64 (8 + wrap64 (4 * (j : Int)))), .int .i64 4] rfl (by (try simp only [List.map_toArray, List.map_cons, List.map_nil]); first | done | rfl) ?_; refine (impl_number.calls 20 A0 c0 l0 _ _ dv _ (Kd.C_below HR0.out HB.out) HC0.out EGz.out).mono ?_; rintro e_ w7 ⟨rfl, d_⟩; refine ⟨_, rfl, ?_⟩; have b_ := kept_drawn d_; have HG5 := Aside0.mk (blk_below HG.out b_); have H25 := Aside0.mk (blk_below H2.out b_); have HB5 := Aside0.mk (below_then HB.out HB.out.size b_); clear b_ d_ HG H2 HB) | ((with_reducible refine gate_store (t := 3) (p := 22) (v := .tmp 20) rfl ?_); refine st_num rfl rfl 3 (.tmp 22) (.tmp 20) rfl s4 (1 + j) .i64 dv rfl rfl (by kernel_rfl) HG5.out (by rw [filled_length DL.out j (by have := C9.out; omega)]; have := C9.out; omega) ?_; intro w8 t_ gg_; have HG6 := Aside0.mk gg_; have H26 := Aside0.mk (t_.keep (show s0 ≠ s4 by omega) H25.out); have HB6 := Aside0.mk (t_.below HB5.out (by omega)); clear t_ gg_ HG5 H25 HB5))
      go_roundw
      case rel =>
        refine ⟨j + 1, _, rfl, by rw [show wrap64 ((j : Int) + 1) = ((j + 1 : Nat) : Int) by (have := C9.out; unfold wrap64; omega)], ⟨by have := C9.out; omega⟩, ⟨?_⟩, H26, HB6⟩
        have h_ := HG6.out
        rw [HDV.out, filled_next DL.out j C9.out] at h_
        exact h_
      case measure =>
        rw [show wrap64 ((j : Int) + 1) = ((j + 1 : Nat) : Int) by (have := C9.out; unfold wrap64; omega)]
        simp only [intOf, Int.toNat_natCast]
        have := C9.out
        omega
    · obtain rfl : j = 12 := by have := hj.out; omega
      have c9b0 : decide ((12 : Int) < 12) = false := by decide
      have hf := HG.out
      rw [filled_all DL.out] at hf
      have HF := Aside0.mk hf
      clear c9 hf HG
      go_wp2_with (first | ((with_reducible refine gate_dst (N := 24) rfl ?_); refine hx_load rfl 28 (.tmp 3) rfl s4 15 rfl Try.underlying28 rfl (by kernel_rfl) HF.out (by simp [nums, DL.out]) ?_) | ((with_reducible refine gate_store (t := 28) (p := 2) (v := .tmp 24) rfl ?_); refine hx_store rfl rfl 28 (.tmp 2) (.tmp 24) rfl s0 15 rfl (nums .i64 (g0 :: (ds ++ [g1, g2]))).toArray rfl (by kernel_rfl) (by simp [nums, DL.out]) (nums_one _ _) H2.out (by simp [nums]) ?_; intro w7 t_ gg_; have HR7 := Aside0.mk gg_; have HB7 := Aside0.mk (t_.below HB.out (by omega)); clear t_ gg_))
      exact bodyPost_ret (results_cell_row rfl _ _ s0 28 _ (0, 0) _ rfl HR7.out Try.underlying28 rfl (by rw [nums_size _ _ 15 (by simp [DL.out])]; kernel_rfl)) rfl ⟨rfl, HB7.out⟩

open Go.Proofs.YtkghgjehjchajaaW Go.Proofs.YtkghgjehjchajaaW.PrintHand Go.Proofs.YtkghgjehjchajaaW.PrintHx
/-! ### impl_getInode: function 56 -/
open Go.Proofs.YtkghgjehjchajaaW.PrintLe Go.Proofs.YtkghgjehjchajaaW.PrintGrow Go.Proofs.YtkghgjehjchajaaW.PrintDec Go.Proofs.YtkghgjehjchajaaW.PrintIno
def impl_getInode.f (l0 : List Int) : Option (List Int) := if l0.length = 128 ∧ (∀ x ∈ l0, 0 ≤ x ∧ x ≤ 255) then some (inodeB l0) else none
set_option maxHeartbeats 8000000 in
set_option maxRecDepth 100000 in
theorem impl_getInode.calls (A0 : Option Addr) (c0 : Nat) (l0 : List Int) (r : List Int) (w : World) (hr0 : Kd.C (Kd.int .u8) w A0 l0.length l0) (hc0 : l0.length ≤ c0) (h : impl_getInode.f l0 = some r) :
    Calls Try.prog 56 #[.slice A0 l0.length c0] w fun e w' => e = .returned (.agg (nums .i64 r).toArray) ∧ Below w.heap.size w w' := by
  unfold impl_getInode.f at h
  by_cases hdom : l0.length = 128 ∧ (∀ x ∈ l0, 0 ≤ x ∧ x ≤ 255)
  case neg => rw [if_neg hdom] at h; cases h
  rw [if_pos hdom] at h
  obtain rfl := Option.some.inj h
  have HL := Aside0.mk hdom.1
  have HBY : Aside0 (Byt l0) := ⟨hdom.2⟩
  have HR0 := Aside0.mk hr0
  have HC0 := Aside0.mk hc0
  clear h hdom hr0 hc0
  have Z42 : ∀ w, (zeroValue 42).run Try.prog w = .ok (.agg (nums .i64 (List.replicate 24 0)).toArray) w := fun _ => by kernel_rfl
  obtain ⟨g0, hg0⟩ : ∃ g, g = wrap64 (le (seg l0 0 1)) := ⟨_, rfl⟩
  have EG0 := Aside0.mk (show impl_number.f 20 l0 0 1 = some g0 by rw [hg0]; exact number_f l0 0 1 HBY.out (by decide) (by rw [HL.out]; decide) (by rw [HL.out]; decide) 20 (by decide))
  obtain ⟨g1, hg1⟩ : ∃ g, g = wrap64 (le (seg l0 2 2)) := ⟨_, rfl⟩
  have EG1 := Aside0.mk (show impl_number.f 20 l0 2 2 = some g1 by rw [hg1]; exact number_f l0 2 2 HBY.out (by decide) (by rw [HL.out]; decide) (by rw [HL.out]; decide) 20 (by decide))
  obtain ⟨g2, hg2⟩ : ∃ g, g = wrap64 (le (seg l0 4 2)) := ⟨_, rfl⟩
  have EG2 := Aside0.mk (show impl_number.f 20 l0 4 2 = some g2 by rw [hg2]; exact number_f l0 4 2 HBY.out (by decide) (by rw [HL.out]; decide) (by rw [HL.out]; decide) 20 (by decide))
  obtain ⟨g3, hg3⟩ : ∃ g, g = wrap64 (le (seg l0 6 2)) := ⟨_, rfl⟩
  have EG3 := Aside0.mk (show impl_number.f 20 l0 6 2 = some g3 by rw [hg3]; exact number_f l0 6 2 HBY.out (by decide) (by rw [HL.out]; decide) (by rw [HL.out]; decide) 20 (by decide))
  obtain ⟨g4, hg4⟩ : ∃ g, g = wrap64 (le (seg l0 8 2)) := ⟨_, rfl⟩
  have EG4 := Aside0.mk (show impl_number.f 20 l0 8 2 = some g4 by rw [hg4]; exact number_f l0 8 2 HBY.out (by decide) (by rw [HL.out]; decide) (by rw [HL.out]; decide) 20 (by decide))
  obtain ⟨g5, hg5⟩ : ∃ g, g = wrap64 (le (seg l0 12 4)) := ⟨_, rfl⟩
  have EG5 := Aside0.mk (show impl_number.f 20 l0 12 4 = some g5 by rw [hg5]; exact number_f l0 12 4 HBY.out (by decide) (by rw [HL.out]; decide) (by rw [HL.out]; decide) 20 (by decide))
  obtain ⟨g6, hg6⟩ : ∃ g, g = wrap64 (le (seg l0 16 8)) := ⟨_, rfl⟩
  have EG6 := Aside0.mk (show impl_number.f 20 l0 16 8 = some g6 by rw [hg6]; exact number_f l0 16 8 HBY.out (by decide) (by rw [HL.out]; decide) (by rw [HL.out]; decide) 20 (by decide))
  obtain ⟨g7, hg7⟩ : ∃ g, g = wrap64 (le (seg l0 24 8)) := ⟨_, rfl⟩
  have EG7 := Aside0.mk (show impl_number.f 20 l0 24 8 = some g7 by rw [hg7]; exact number_f l0 24 8 HBY.out (by decide) (by rw [HL.out]; decide) (by rw [HL.out]; decide) 20 (by decide))
  obtain ⟨g8, hg8⟩ : ∃ g, g = wrap64 (le (seg l0 32 8)) := ⟨_, rfl⟩
  have EG8 := Aside0.mk (show impl_number.f 20 l0 32 8 = some g8 by rw [hg8]; exact number_f l0 32 8 HBY.out (by decide) (by rw [HL.out]; decide) (by rw [HL.out]; decide) 20 (by decide))
  have info5_ : (Try.prog.info? 5).map (fun i => (i.zero, i.size, i.bytes)) = some (some (.int .u8 0), 1, 1) := by kernel_rfl
  obtain ⟨i0_, hi0_, _, hsz_, _⟩ := info_parts info5_
  obtain ⟨A22, hcut22, hA22, hC22⟩ := print_drop_of (P := Try.prog) (Value.int .u8) 0 25 5 .i64 Try.underlying25 hi0_ hsz_ A0 c0 l0 (40 : Int) (by decide) (by rw [HL.out]; decide) HC0.out
  obtain ⟨q22, hq22⟩ : ∃ q, q = l0.drop (40 : Int).toNat := ⟨_, rfl⟩
  rw [← hq22] at hcut22 hA22 hC22
  obtain ⟨k22, hk22⟩ : ∃ k, k = c0 - (40 : Int).toNat := ⟨_, rfl⟩
  rw [← hk22] at hcut22 hC22
  clear hk22
  have hs22 : q22 = l0.drop 40 := hq22
  have HR22 := Aside0.mk (Kd.C_of_reads (h1 := fun _ => rfl) (hA22 _ (Kd.reads_of_C HR0.out)))
  have HC22 := Aside0.mk hC22
  obtain ⟨rr, hrr⟩ : ∃ g, g = rootB (seg l0 40 64) := ⟨_, rfl⟩
  have NR := Aside0.mk (show rr.length = 15 by rw [hrr]; exact rootOf_length _ _)
  have EG22 := Aside0.mk (show impl_getRoot.f q22 = some rr by rw [hrr, hs22, rootB_part l0 (by rw [HL.out]; decide)]; exact if_pos ⟨⟨by rw [List.length_drop, HL.out]; decide, by rw [List.length_drop, HL.out]; decide⟩, HBY.out.drop 40⟩)
  clear hs22 hq22 hA22 hC22
  have hres : inodeB l0 = g0 :: g1 :: g2 :: g3 :: g4 :: g5 :: g6 :: g7 :: g8 :: rr := by rw [hg0, hg1, hg2, hg3, hg4, hg5, hg6, hg7, hg8, hrr, wrap4 (seg_byt HBY.out 0 1) (by rw [seg_le _ _ (by rw [HL.out]; decide)]; decide), wrap4 (seg_byt HBY.out 2 2) (by rw [seg_le _ _ (by rw [HL.out]; decide)]; decide), wrap4 (seg_byt HBY.out 4 2) (by rw [seg_le _ _ (by rw [HL.out]; decide)]; decide), wrap4 (seg_byt HBY.out 6 2) (by rw [seg_le _ _ (by rw [HL.out]; decide)]; decide), wrap4 (seg_byt HBY.out 8 2) (by rw [seg_le _ _ (by rw [HL.out]; decide)]; decide), wrap4 (seg_byt HBY.out 12 4) (by rw [seg_le _ _ (by rw [HL.out]; decide)]; decide)]; rfl
  clear hg0 hg1 hg2 hg3 hg4 hg5 hg6 hg7 hg8 hrr
  have BU : ∀ z : List Int, z.length = 15 → ∀ w, (Instr.build 42 #[(0, .int .i64 g0), (1, .int .i64 g1), (2, .int .i64 g2), (3, .int .i64 g3), (4, .int .i64 g4), (5, .int .i64 g5), (6, .int .i64 g6), (7, .int .i64 g7), (8, .int .i64 g8), (9, .agg (nums .i64 z).toArray)]).run Try.prog w = .ok (.agg (nums .i64 (g0 :: g1 :: g2 :: g3 :: g4 :: g5 :: g6 :: g7 :: g8 :: z)).toArray) w := by
    intro z h w_
    obtain ⟨x0, b0, rfl, h0⟩ := cons_of_len h
    obtain ⟨x1, b1, rfl, h1⟩ := cons_of_len h0
    obtain ⟨x2, b2, rfl, h2⟩ := cons_of_len h1
    obtain ⟨x3, b3, rfl, h3⟩ := cons_of_len h2
    obtain ⟨x4, b4, rfl, h4⟩ := cons_of_len h3
    obtain ⟨x5, b5, rfl, h5⟩ := cons_of_len h4
    obtain ⟨x6, b6, rfl, h6⟩ := cons_of_len h5
    obtain ⟨x7, b7, rfl, h7⟩ := cons_of_len h6
    obtain ⟨x8, b8, rfl, h8⟩ := cons_of_len h7
    obtain ⟨x9, b9, rfl, h9⟩ := cons_of_len h8
    obtain ⟨x10, b10, rfl, h10⟩ := cons_of_len h9
    obtain ⟨x11, b11, rfl, h11⟩ := cons_of_len h10
    obtain ⟨x12, b12, rfl, h12⟩ := cons_of_len h11
    obtain ⟨x13, b13, rfl, h13⟩ := cons_of_len h12
    obtain ⟨x14, b14, rfl, h14⟩ := cons_of_len h13
    obtain rfl := List.length_eq_zero_iff.mp h14
    exact run_build w_ 42 _ _ (by kernel_rfl)
  replace BU := BU rr NR.out
  have BU_ := Aside0.mk BU
  clear BU
  obtain ⟨ra, hra⟩ : ∃ a, a = g0 :: g1 :: g2 :: g3 :: g4 :: g5 :: g6 :: g7 :: g8 :: rr := ⟨_, rfl⟩
  rw [← hra] at BU_ hres
  rw [hres]
  have NL := Aside0.mk (show ra.length = 24 by rw [hra]; simp [NR.out])
  clear hra hres
  have HB0 : Aside0 (Below w.heap.size w w) := ⟨Below.refl _ _⟩
  obtain ⟨s0, Sz0⟩ : ∃ s0, Aside0 (w.heap.size = s0) := ⟨_, ⟨rfl⟩⟩
  have hw0 : w.heap.size ≤ s0 := Nat.le_of_eq Sz0.out
  have hw1 : s0 ≤ w.heap.size := Nat.le_of_eq Sz0.out.symm
  go_enter Try.func56, Try.ntmps56
  go_wp2_with (first | ((with_reducible refine gate_dst (N := 2) rfl ?_); refine hx_alloc rfl 2 rfl 42 rfl Sz0 (.agg (nums .i64 (List.replicate 24 0)).toArray) (nums .i64 (List.replicate 24 0)).toArray Z42 rfl ?_; intro w1 s1 Ls1 Ss1 b_ g_; have H2 := Aside0.mk g_; have HB1 := Aside0.mk (below_then HB0.out HB0.out.size b_); clear b_ g_ HB0))
  refine wp_region_grow_last 22 [Is (.slice A0 l0.length c0), Is (.int .i64 g0), Is (.slice A0 l0.length c0), Is (.int .i64 g1), Is (.slice A0 l0.length c0), Is (.int .i64 g2), Is (.slice A0 l0.length c0), Is (.int .i64 g3), Is (.slice A0 l0.length c0), Is (.int .i64 g4), Is (.slice A0 l0.length c0), Is (.int .i64 g5), Is (.slice A0 l0.length c0), Is (.int .i64 g6), Is (.slice A0 l0.length c0), Is (.int .i64 g7), Is (.slice A0 l0.length c0), Is (.int .i64 g8), Is (.slice A0 l0.length c0), Is (.slice A22 q22.length k22), Is (.agg (nums .i64 rr).toArray), Is (.agg (nums .i64 ra).toArray)] (by kernel_rfl) (by kernel_rfl) (by kernel_rfl) (by kernel_rfl) (allst_cons st_is (allst_cons st_is (allst_cons st_is (allst_cons st_is (allst_cons st_is (allst_cons st_is (allst_cons st_is (allst_cons st_is (allst_cons st_is (allst_cons st_is (allst_cons st_is (allst_cons st_is (allst_cons st_is (allst_cons st_is (allst_cons st_is (allst_cons st_is (allst_cons st_is (allst_cons st_is (allst_cons st_is (allst_cons st_is (allst_cons st_is (allst_cons st_is allst_nil)))))))))))))))))))))) ?_ (fun w2 hgn => ?_)
  · refine steps_cons ?_ ?_
    · refine stepO_val rfl [] [0] (by kernel_rfl) (.slice A0 l0.length c0) (fun a w_ hg hf => ?_) (fun w_ _ => rfl)
      obtain ⟨_, ⟨o0, _⟩⟩ := hf
      have e0 : a.tmps[0]? = some (.slice A0 l0.length c0) := o0.trans rfl
      unfold execOp
      simp only [PrintLast.eval_of e0]
      rfl
    refine steps_cons ?_ ?_
    · refine stepO_call rfl [(0, 3)] [] (by kernel_rfl) Try.func76 (by kernel_rfl) rfl rfl (fun a w_ hg hf => ?_)
      obtain ⟨⟨⟨_, e3, rfl⟩, _⟩, _⟩ := hf
      replace e3 : a.tmps[3]? = some (.slice A0 l0.length c0) := e3
      refine ⟨#[.slice A0 l0.length c0, .int .i64 0, .int .i64 1], (by simp only [List.map_toArray, List.map_cons, List.map_nil, PrintLast.eval_of e3]; first | done | rfl), (impl_number.calls 20 A0 c0 l0 0 1 g0 w_ (Kd.C_below HR0.out (below_then HB1.out HB1.out.size hg)) HC0.out EG0.out).mono ?_⟩
      rintro e_ w2_ ⟨rfl, d_⟩
      have b_ := kept_drawn d_
      exact ⟨_, rfl, b_, rfl⟩
    refine steps_cons ?_ ?_
    · refine stepO_val rfl [] [0] (by kernel_rfl) (.slice A0 l0.length c0) (fun a w_ hg hf => ?_) (fun w_ _ => rfl)
      obtain ⟨_, ⟨o0, _⟩⟩ := hf
      have e0 : a.tmps[0]? = some (.slice A0 l0.length c0) := o0.trans rfl
      unfold execOp
      simp only [PrintLast.eval_of e0]
      rfl
    refine steps_cons ?_ ?_
    · refine stepO_call rfl [(2, 5)] [] (by kernel_rfl) Try.func76 (by kernel_rfl) rfl rfl (fun a w_ hg hf => ?_)
      obtain ⟨⟨⟨_, e5, rfl⟩, _⟩, _⟩ := hf
      replace e5 : a.tmps[5]? = some (.slice A0 l0.length c0) := e5
      refine ⟨#[.slice A0 l0.length c0, .int .i64 2, .int .i64 2], (by simp only [List.map_toArray, List.map_cons, List.map_nil, PrintLast.eval_of e5]; first | done | rfl), (impl_number.calls 20 A0 c0 l0 2 2 g1 w_ (Kd.C_below HR0.out (below_then HB1.out HB1.out.size hg)) HC0.out EG1.out).mono ?_⟩
      rintro e_ w2_ ⟨rfl, d_⟩
      have b_ := kept_drawn d_
      exact ⟨_, rfl, b_, rfl⟩
    refine steps_cons ?_ ?_
    · refine stepO_val rfl [] [0] (by kernel_rfl) (.slice A0 l0.length c0) (fun a w_ hg hf => ?_) (fun w_ _ => rfl)
      obtain ⟨_, ⟨o0, _⟩⟩ := hf
      have e0 : a.tmps[0]? = some (.slice A0 l0.length c0) := o0.trans rfl
      unfold execOp
      simp only [PrintLast.eval_of e0]
      rfl
    refine steps_cons ?_ ?_
    · refine stepO_call rfl [(4, 7)] [] (by kernel_rfl) Try.func76 (by kernel_rfl) rfl rfl (fun a w_ hg hf => ?_)
      obtain ⟨⟨⟨_, e7, rfl⟩, _⟩, _⟩ := hf
      replace e7 : a.tmps[7]? = some (.slice A0 l0.length c0) := e7
      refine ⟨#[.slice A0 l0.length c0, .int .i64 4, .int .i64 2], (by simp only [List.map_toArray, List.map_cons, List.map_nil, PrintLast.eval_of e7]; first | done | rfl), (impl_number.calls 20 A0 c0 l0 4 2 g2 w_ (Kd.C_below HR0.out (below_then HB1.out HB1.out.size hg)) HC0.out EG2.out).mono ?_⟩
      rintro e_ w2_ ⟨rfl, d_⟩
      have b_ := kept_drawn d_
      exact ⟨_, rfl, b_, rfl⟩
    refine steps_cons ?_ ?_
    · refine stepO_val rfl [] [0] (by kernel_rfl) (.slice A0 l0.length c0) (fun a w_ hg hf => ?_) (fun w_ _ => rfl)
      obtain ⟨_, ⟨o0, _⟩⟩ := hf
      have e0 : a.tmps[0]? = some (.slice A0 l0.length c0) := o0.trans rfl
      unfold execOp
      simp only [PrintLast.eval_of e0]
      rfl
    refine steps_cons ?_ ?_
    · refine stepO_call rfl [(6, 9)] [] (by kernel_rfl) Try.func76 (by kernel_rfl) rfl rfl (fun a w_ hg hf => ?_)
      obtain ⟨⟨⟨_, e9, rfl⟩, _⟩, _⟩ := hf
      replace e9 : a.tmps[9]? = some (.slice A0 l0.length c0) := e9
      refine ⟨#[.slice A0 l0.length c0, .int .i64 6, .int .i64 2], (by simp only [List.map_toArray, List.map_cons, List.map_nil, PrintLast.eval_of e9]; first | done | rfl), (impl_number.calls 20 A0 c0 l0 6 2 g3 w_ (Kd.C_below HR0.out (below_then HB1.out HB1.out.size hg)) HC0.out EG3.out).mono ?_⟩
      rintro e_ w2_ ⟨rfl, d_⟩
      have b_ := kept_drawn d_
      exact ⟨_, rfl, b_, rfl⟩
    refine steps_cons ?_ ?_
    · refine stepO_val rfl [] [0] (by kernel_rfl) (.slice A0 l0.length c0) (fun a w_ hg hf => ?_) (fun w_ _ => rfl)
      obtain ⟨_, ⟨o0, _⟩⟩ := hf
      have e0 : a.tmps[0]? = some (.slice A0 l0.length c0) := o0.trans rfl
      unfold execOp
      simp only [PrintLast.eval_of e0]
      rfl
    refine steps_cons ?_ ?_
    · refine stepO_call rfl [(8, 11)] [] (by kernel_rfl) Try.func76 (by kernel_rfl) rfl rfl (fun a w_ hg hf => ?_)
      obtain ⟨⟨⟨_, e11, rfl⟩, _⟩, _⟩ := hf
      replace e11 : a.tmps[11]? = some (.slice A0 l0.length c0) := e11
      refine ⟨#[.slice A0 l0.length c0, .int .i64 8, .int .i64 2], (by simp only [List.map_toArray, List.map_cons, List.map_nil, PrintLast.eval_of e11]; first | done | rfl), (impl_number.calls 20 A0 c0 l0 8 2 g4 w_ (Kd.C_below HR0.out (below_then HB1.out HB1.out.size hg)) HC0.out EG4.out).mono ?_⟩
      rintro e_ w2_ ⟨rfl, d_⟩
      have b_ := kept_drawn d_
      exact ⟨_, rfl, b_, rfl⟩
    refine steps_cons ?_ ?_
    · refine stepO_val rfl [] [0] (by kernel_rfl) (.slice A0 l0.length c0) (fun a w_ hg hf => ?_) (fun w_ _ => rfl)
      obtain ⟨_, ⟨o0, _⟩⟩ := hf
      have e0 : a.tmps[0]? = some (.slice A0 l0.length c0) := o0.trans rfl
      unfold execOp
      simp only [PrintLast.eval_of e0]
      rfl
    refine steps_cons ?_ ?_
    · refine stepO_call rfl [(10, 13)] [] (by kernel_rfl) Try.func76 (by kernel_rfl) rfl rfl (fun a w_ hg hf => ?_)
      obtain ⟨⟨⟨_, e13, rfl⟩, _⟩, _⟩ := hf
      replace e13 : a.tmps[13]? = some (.slice A0 l0.length c0) := e13
      refine ⟨#[.slice A0 l0.length c0, .int .i64 12, .int .i64 4], (by simp only [List.map_toArray, List.map_cons, List.map_nil, PrintLast.eval_of e13]; first | done | rfl), (impl_number.calls 20 A0 c0 l0 12 4 g5 w_ (Kd.C_below HR0.out (below_then HB1.out HB1.out.size hg)) HC0.out EG5.out).mono ?_⟩
      rintro e_ w2_ ⟨rfl, d_⟩
      have b_ := kept_drawn d_
      exact ⟨_, rfl, b_, rfl⟩
    refine steps_cons ?_ ?_
    · refine stepO_val rfl [] [0] (by kernel_rfl) (.slice A0 l0.length c0) (fun a w_ hg hf => ?_) (fun w_ _ => rfl)
      obtain ⟨_, ⟨o0, _⟩⟩ := hf
      have e0 : a.tmps[0]? = some (.slice A0 l0.length c0) := o0.trans rfl
      unfold execOp
      simp only [PrintLast.eval_of e0]
      rfl
    refine steps_cons ?_ ?_
    · refine stepO_call rfl [(12, 15)] [] (by kernel_rfl) Try.func76 (by kernel_rfl) rfl rfl (fun a w_ hg hf => ?_)
      obtain ⟨⟨⟨_, e15, rfl⟩, _⟩, _⟩ := hf
      replace e15 : a.tmps[15]? = some (.slice A0 l0.length c0) := e15
      refine ⟨#[.slice A0 l0.length c0, .int .i64 16, .int .i64 8], (by simp only [List.map_toArray, List.map_cons, List.map_nil, PrintLast.eval_of e15]; first | done | rfl), (impl_number.calls 20 A0 c0 l0 16 8 g6 w_ (Kd.C_below HR0.out (below_then HB1.out HB1.out.size hg)) HC0.out EG6.out).mono ?_⟩
      rintro e_ w2_ ⟨rfl, d_⟩
      have b_ := kept_drawn d_
      exact ⟨_, rfl, b_, rfl⟩
    refine steps_cons ?_ ?_
    · refine stepO_val rfl [] [0] (by kernel_rfl) (.slice A0 l0.length c0) (fun a w_ hg hf => ?_) (fun w_ _ => rfl)
      obtain ⟨_, ⟨o0, _⟩⟩ := hf
      have e0 : a.tmps[0]? = some (.slice A0 l0.length c0) := o0.trans rfl
      unfold execOp
      simp only [PrintLast.eval_of e0]
      rfl
    refine steps_cons ?_ ?_
    · refine stepO_call rfl [(14, 17)] [] (by kernel_rfl) Try.func76 (by kernel_rfl) rfl rfl (fun a w_ hg hf => ?_)
      obtain ⟨⟨⟨_, e17, rfl⟩, _⟩, _⟩ := hf
      replace e17 : a.tmps[17]? = some (.slice A0 l0.length c0) := e17
      refine ⟨#[.slice A0 l0.length c0, .int .i64 24, .int .i64 8], (by simp only [List.map_toArray, List.map_cons, List.map_nil, PrintLast.eval_of e17]; first | done | rfl), (impl_number.calls 20 A0 c0 l0 24 8 g7 w_ (Kd.C_below HR0.out (below_then HB1.out HB1.out.size hg)) HC0.out EG7.out).mono ?_⟩
      rintro e_ w2_ ⟨rfl, d_⟩
      have b_ := kept_drawn d_
      exact ⟨_, rfl, b_, rfl⟩
    refine steps_cons ?_ ?_
    · refine stepO_val rfl [] [0] (by kernel_rfl) (.slice A0 l0.length c0) (fun a w_ hg hf => ?_) (fun w_ _ => rfl)
      obtain ⟨_, ⟨o0, _⟩⟩ := hf
      have e0 : a.tmps[0]? = some (.slice A0 l0.length c0) := o0.trans rfl
      unfold execOp
      simp only [PrintLast.eval_of e0]
      rfl
    refine steps_cons ?_ ?_
    · refine stepO_call rfl [(16, 19)] [] (by kernel_rfl) Try.func76 (by kernel_rfl) rfl rfl (fun a w_ hg hf => ?_)
      obtain ⟨⟨⟨_, e19, rfl⟩, _⟩, _⟩ := hf
      replace e19 : a.tmps[19]? = some (.slice A0 l0.length c0) := e19
      refine ⟨#[.slice A0 l0.length c0, .int .i64 32, .int .i64 8], (by simp only [List.map_toArray, List.map_cons, List.map_nil, PrintLast.eval_of e19]; first | done | rfl), (impl_number.calls 20 A0 c0 l0 32 8 g8 w_ (Kd.C_below HR0.out (below_then HB1.out HB1.out.size hg)) HC0.out EG8.out).mono ?_⟩
      rintro e_ w2_ ⟨rfl, d_⟩
      have b_ := kept_drawn d_
      exact ⟨_, rfl, b_, rfl⟩
    refine steps_cons ?_ ?_
    · refine stepO_val rfl [] [0] (by kernel_rfl) (.slice A0 l0.length c0) (fun a w_ hg hf => ?_) (fun w_ _ => rfl)
      obtain ⟨_, ⟨o0, _⟩⟩ := hf
      have e0 : a.tmps[0]? = some (.slice A0 l0.length c0) := o0.trans rfl
      unfold execOp
      simp only [PrintLast.eval_of e0]
      rfl
    refine steps_cons ?_ ?_
    · refine stepO_val rfl [(18, 21)] [] (by kernel_rfl) (.slice A22 q22.length k22) (fun a w_ hg hf => ?_) (fun w_ _ => rfl)
      obtain ⟨⟨⟨_, e21, rfl⟩, _⟩, _⟩ := hf
      replace e21 : a.tmps[21]? = some (.slice A0 l0.length c0) := e21
      unfold execOp
      simp only [PrintLast.eval_of e21, Act.eval]
      go_simp
      (try rfl)
    refine steps_cons ?_ ?_
    · refine stepO_call rfl [(19, 22)] [] (by kernel_rfl) Try.func48 (by kernel_rfl) rfl rfl (fun a w_ hg hf => ?_)
      obtain ⟨⟨⟨_, e22, rfl⟩, _⟩, _⟩ := hf
      replace e22 : a.tmps[22]? = some (.slice A22 q22.length k22) := e22
      refine ⟨#[.slice A22 q22.length k22], (by simp only [List.map_toArray, List.map_cons, List.map_nil, PrintLast.eval_of e22]; first | done | rfl), (impl_getRoot.calls A22 k22 q22 rr w_ (Kd.C_below HR22.out (below_then HB1.out HB1.out.size hg)) HC22.out EG22.out).mono ?_⟩
      rintro e_ w2_ ⟨rfl, b_⟩
      exact ⟨_, rfl, b_, rfl⟩
    refine steps_cons ?_ ?_
    · refine stepO_val rfl [(1, 4), (3, 6), (5, 8), (7, 10), (9, 12), (11, 14), (13, 16), (15, 18), (17, 20), (20, 23)] [] (by kernel_rfl) (.agg (nums .i64 ra).toArray) (fun a w_ hg hf => ?_) (fun w_ _ => rfl)
      obtain ⟨⟨⟨_, e4, rfl⟩, ⟨_, e6, rfl⟩, ⟨_, e8, rfl⟩, ⟨_, e10, rfl⟩, ⟨_, e12, rfl⟩, ⟨_, e14, rfl⟩, ⟨_, e16, rfl⟩, ⟨_, e18, rfl⟩, ⟨_, e20, rfl⟩, ⟨_, e23, rfl⟩, _⟩, _⟩ := hf
      replace e4 : a.tmps[4]? = some (.int .i64 g0) := e4
      replace e6 : a.tmps[6]? = some (.int .i64 g1) := e6
      replace e8 : a.tmps[8]? = some (.int .i64 g2) := e8
      replace e10 : a.tmps[10]? = some (.int .i64 g3) := e10
      replace e12 : a.tmps[12]? = some (.int .i64 g4) := e12
      replace e14 : a.tmps[14]? = some (.int .i64 g5) := e14
      replace e16 : a.tmps[16]? = some (.int .i64 g6) := e16
      replace e18 : a.tmps[18]? = some (.int .i64 g7) := e18
      replace e20 : a.tmps[20]? = some (.int .i64 g8) := e20
      replace e23 : a.tmps[23]? = some (.agg (nums .i64 rr).toArray) := e23
      unfold execOp
      simp only [PrintLast.eval_of e4, PrintLast.eval_of e6, PrintLast.eval_of e8, PrintLast.eval_of e10, PrintLast.eval_of e12, PrintLast.eval_of e14, PrintLast.eval_of e16, PrintLast.eval_of e18, PrintLast.eval_of e20, PrintLast.eval_of e23, List.map_toArray, List.map_cons, List.map_nil, Sem.run_bind, Sem.run_pure, Result.andThen_ok, BU_.out]
    exact steps_nil
  · skip
    refine ends_cons (fun v0_ p0_ => ?_)
    obtain rfl : v0_ = _ := p0_
    refine ends_cons (fun v1_ p1_ => ?_)
    obtain rfl : v1_ = _ := p1_
    refine ends_cons (fun v2_ p2_ => ?_)
    obtain rfl : v2_ = _ := p2_
    refine ends_cons (fun v3_ p3_ => ?_)
    obtain rfl : v3_ = _ := p3_
    refine ends_cons (fun v4_ p4_ => ?_)
    obtain rfl : v4_ = _ := p4_
    refine ends_cons (fun v5_ p5_ => ?_)
    obtain rfl : v5_ = _ := p5_
    refine ends_cons (fun v6_ p6_ => ?_)
    obtain rfl : v6_ = _ := p6_
    refine ends_cons (fun v7_ p7_ => ?_)
    obtain rfl : v7_ = _ := p7_
    refine ends_cons (fun v8_ p8_ => ?_)
    obtain rfl : v8_ = _ := p8_
    refine ends_cons (fun v9_ p9_ => ?_)
    obtain rfl : v9_ = _ := p9_
    refine ends_cons (fun v10_ p10_ => ?_)
    obtain rfl : v10_ = _ := p10_
    refine ends_cons (fun v11_ p11_ => ?_)
    obtain rfl : v11_ = _ := p11_
    refine ends_cons (fun v12_ p12_ => ?_)
    obtain rfl : v12_ = _ := p12_
    refine ends_cons (fun v13_ p13_ => ?_)
    obtain rfl : v13_ = _ := p13_
    refine ends_cons (fun v14_ p14_ => ?_)
    obtain rfl : v14_ = _ := p14_
    refine ends_cons (fun v15_ p15_ => ?_)
    obtain rfl : v15_ = _ := p15_
    refine ends_cons (fun v16_ p16_ => ?_)
    obtain rfl : v16_ = _ := p16_
    refine ends_cons (fun v17_ p17_ => ?_)
    obtain rfl : v17_ = _ := p17_
    refine ends_cons (fun v18_ p18_ => ?_)
    obtain rfl : v18_ = _ := p18_
    refine ends_cons (fun v19_ p19_ => ?_)
    obtain rfl : v19_ = _ := p19_
    refine ends_cons (fun v20_ p20_ => ?_)
    obtain rfl : v20_ = _ := p20_
    refine ends_cons (fun v21_ p21_ => ?_)
    obtain rfl : v21_ = _ := p21_
    refine ends_nil ?_
    simp only [Act.put, List.setIfInBounds_toArray, List.set_cons_succ, List.set_cons_zero]
    have HB2 := Aside0.mk (below_then HB1.out HB1.out.size hgn)
    have H2_2 := Aside0.mk (blk_below H2.out hgn)
    clear hgn HB1 H2
    simp only [List.drop_succ_cons, List.drop_zero]
    go_wp2_with (first | ((with_reducible refine gate_store (t := 42) (p := 2) (v := .tmp 24) rfl ?_); refine hx_store rfl rfl 42 (.tmp 2) (.tmp 24) rfl s0 24 rfl (nums .i64 ra).toArray rfl (by kernel_rfl) (nums_size _ _ _ NL.out) (nums_one _ _) H2_2.out (by simp [nums]) ?_; intro w3 t_ gg_; have HE := Aside0.mk gg_; have HEB := Aside0.mk (t_.below HB2.out (by omega)); clear t_ gg_ H2_2 HB2))
    exact bodyPost_ret (results_cell_row rfl _ _ s0 42 _ (0, 0) _ rfl HE.out Try.underlying42 rfl (by rw [nums_size _ _ 24 NL.out]; kernel_rfl)) rfl ⟨rfl, HEB.out⟩

/-! ### bytes_Equal: function 75 -/
def bytes_Equal.f (l0 : List Int) (l1 : List Int) : Option (Bool) := some ((strOfNums l0).toList == (strOfNums l1).toList)
set_option maxHeartbeats 8000000 in
set_option maxRecDepth 100000 in
theorem bytes_Equal.calls (A0 : Option Addr) (c0 : Nat) (l0 : List Int) (A1 : Option Addr) (c1 : Nat) (l1 : List Int) (r : Bool) (w : World) (hr0 : Kd.C (Kd.int .u8) w A0 l0.length l0) (hc0 : l0.length ≤ c0) (hr1 : Kd.C (Kd.int .u8) w A1 l1.length l1) (hc1 : l1.length ≤ c1) (h : bytes_Equal.f l0 l1 = some r) :
    Calls Try.prog 75 #[.slice A0 l0.length c0, .slice A1 l1.length c1] w fun e w' => e = .returned (.bool r) ∧ Drawn0 w w' := by
  have HR0 := Aside0.mk hr0
  have HC0 := Aside0.mk hc0
  clear hr0 hc0
  have HR1 := Aside0.mk hr1
  have HC1 := Aside0.mk hc1
  clear hr1 hc1
  have H : (some ((strOfNums l0).toList == (strOfNums l1).toList)) = some r := h
  clear h
  obtain rfl := Option.some.inj H
  have hcv3 := Kd.C_string (P := Try.prog) (A := A0) (c := c0) Try.underlying25 Try.underlying5 Try.underlying9 HR0.out
  have hcv4 := Kd.C_string (P := Try.prog) (A := A1) (c := c1) Try.underlying25 Try.underlying5 Try.underlying9 HR1.out
  go_enter Try.func75, Try.ntmps75
  go_wp2
  go_ret
  exact ⟨by first | rfl | (simp; done) | (simp [*]; done), by repeat (first | exact Drawn0.refl _ | apply Drawn0.step)⟩

open Go.Proofs.YtkghgjehjchajaaW Go.Proofs.YtkghgjehjchajaaW.PrintHand Go.Proofs.YtkghgjehjchajaaW.PrintHx
/-! ### impl_Inode: function 55 -/
open Go.Proofs.YtkghgjehjchajaaW.PrintLe Go.Proofs.YtkghgjehjchajaaW.PrintGrow Go.Proofs.YtkghgjehjchajaaW.PrintDec Go.Proofs.YtkghgjehjchajaaW.PrintIno
def impl_Inode.f (l0 : List Int) : Option (List Int × Int) := if (∀ x ∈ l0, 0 ≤ x ∧ x ≤ 255) then some (decI (inodeB l0) l0) else none
set_option maxHeartbeats 8000000 in
set_option maxRecDepth 100000 in
theorem impl_Inode.calls (A0 : Option Addr) (c0 : Nat) (l0 : List Int) (r1 : List Int) (r2 : Int) (w : World) (hr0 : Kd.C (Kd.int .u8) w A0 l0.length l0) (hc0 : l0.length ≤ c0) (h : impl_Inode.f l0 = some (r1, r2)) :
    Calls Try.prog 55 #[.slice A0 l0.length c0, .int .i64 128, .func (.func 56) #[] #[], .func (.func 23) #[] #[]] w fun e w' => e = .returned (.tuple #[.agg (nums .i64 r1).toArray, .int .i64 r2]) ∧ Below w.heap.size w w' := by
  unfold impl_Inode.f at h
  by_cases hdom : ∀ x ∈ l0, 0 ≤ x ∧ x ≤ 255
  case neg => rw [if_neg hdom] at h; cases h
  rw [if_pos hdom] at h
  replace h := Option.some.inj h
  have HBY : Aside0 (Byt l0) := ⟨hdom⟩
  have HR0 := Aside0.mk hr0
  have HC0 := Aside0.mk hc0
  clear hdom hr0 hc0
  have Z42 : ∀ w, (zeroValue 42).run Try.prog w = .ok (.agg (nums .i64 (List.replicate 24 0)).toArray) w := fun _ => by kernel_rfl
  have NZ := Aside0.mk (show (List.replicate 24 (0 : Int)).length = 24 by simp)
  have HB0 : Aside0 (Below w.heap.size w w) := ⟨Below.refl _ _⟩
  obtain ⟨s0, Sz0⟩ : ∃ s0, Aside0 (w.heap.size = s0) := ⟨_, ⟨rfl⟩⟩
  have hw0 : w.heap.size ≤ s0 := Nat.le_of_eq Sz0.out
  have hw1 : s0 ≤ w.heap.size := Nat.le_of_eq Sz0.out.symm
  by_cases hl : l0.length = 128
  case neg =>
    have hd : decI (inodeB l0) l0 = ((List.replicate 24 0), 21) := by unfold decI; rw [if_neg (fun h_ => hl h_.1)]
    rw [hd] at h
    simp only [Prod.mk.injEq] at h
    obtain ⟨rfl, rfl⟩ := h
    clear hd
    have k0 : ((l0.length : Int) != 128) = true := bne_iff_ne.2 (by omega)
    clear hl
    go_enter Try.func55, Try.ntmps55
    go_wp2_with (first | ((with_reducible refine gate_dst (N := 8) rfl ?_); refine hx_alloc rfl 8 rfl 42 rfl Sz0 (.agg (nums .i64 (List.replicate 24 0)).toArray) (nums .i64 (List.replicate 24 0)).toArray Z42 rfl ?_; intro w1 s1 Ls1 Ss1 b_ g_; have H8 := Aside0.mk g_; have HB1 := Aside0.mk (below_then HB0.out HB0.out.size b_); clear b_ g_ HB0) | ((with_reducible refine gate_dst (N := 10) rfl ?_); refine hx_alloc rfl 10 rfl 42 rfl Ss1 (.agg (nums .i64 (List.replicate 24 0)).toArray) (nums .i64 (List.replicate 24 0)).toArray Z42 rfl ?_; intro w2 s2 Ls2 Ss2 b_ g_; have H10 := Aside0.mk g_; have HB2 := Aside0.mk (below_then HB1.out HB1.out.size b_); have H8_2 := Aside0.mk (blk_below H8.out b_); clear b_ g_ HB1 H8) | ((with_reducible refine gate_dst (N := 18) rfl ?_); refine hx_load rfl 42 (.tmp 10) rfl s1 24 rfl Try.underlying42 rfl (by kernel_rfl) H10.out (nums_size _ _ _ NZ.out) ?_) | ((with_reducible refine gate_store (t := 42) (p := 8) (v := .tmp 18) rfl ?_); refine hx_store rfl rfl 42 (.tmp 8) (.tmp 18) rfl s0 24 rfl (nums .i64 (List.replicate 24 0)).toArray rfl (by kernel_rfl) (nums_size _ _ _ NZ.out) (nums_one _ _) H8_2.out (by simp [nums]) ?_; intro we t_ gg_; have HE := Aside0.mk gg_; have HEB := Aside0.mk (t_.below HB2.out (by omega)); clear t_ gg_ H8_2 HB2 ))
    exact bodyPost_ret (results_ct rfl _ _ s0 42 (nums .i64 (List.replicate 24 0)).toArray (0, 0) _ rfl HE.out Try.underlying42 rfl (by rw [nums_size _ _ _ NZ.out]; kernel_rfl)) rfl ⟨rfl, HEB.out⟩
  have k0 : ((l0.length : Int) != 128) = false := by rw [hl]; rfl
  have EF := Aside0.mk (show impl_getInode.f l0 = some (inodeB l0) from if_pos ⟨hl, HBY.out⟩)
  obtain ⟨ra, hra⟩ : ∃ a, a = inodeB l0 := ⟨_, rfl⟩
  have NL := Aside0.mk (show ra.length = 24 by rw [hra]; exact inodeB_length l0)
  rw [← hra] at EF h
  have HL := Aside0.mk hl
  clear hra hl
  by_cases hg : inodeGood ra = true
  case neg =>
    have hd : decI ra l0 = ((List.replicate 24 0), 21) := by unfold decI; rw [if_neg (fun h_ => hg h_.2.1)]
    rw [hd] at h
    simp only [Prod.mk.injEq] at h
    obtain ⟨rfl, rfl⟩ := h
    clear hd
    have ER := Aside0.mk (show impl_EncodeInode.f ra = some ([], 7) by unfold impl_EncodeInode.f; rw [if_neg hg])
    clear hg
    go_enter Try.func55, Try.ntmps55
    go_wp2_with (first | ((with_reducible refine gate_dst (N := 8) rfl ?_); refine hx_alloc rfl 8 rfl 42 rfl Sz0 (.agg (nums .i64 (List.replicate 24 0)).toArray) (nums .i64 (List.replicate 24 0)).toArray Z42 rfl ?_; intro w1 s1 Ls1 Ss1 b_ g_; have H8 := Aside0.mk g_; have HB1 := Aside0.mk (below_then HB0.out HB0.out.size b_); clear b_ g_ HB0) | ((with_reducible refine gate_dst (N := 10) rfl ?_); refine hx_alloc rfl 10 rfl 42 rfl Ss1 (.agg (nums .i64 (List.replicate 24 0)).toArray) (nums .i64 (List.replicate 24 0)).toArray Z42 rfl ?_; intro w2 s2 Ls2 Ss2 b_ g_; have H10 := Aside0.mk g_; have HB2 := Aside0.mk (below_then HB1.out HB1.out.size b_); have H8_2 := Aside0.mk (blk_below H8.out b_); clear b_ g_ HB1 H8) | ((with_reducible refine gate_dst (N := 21) rfl ?_); refine goesV_ (some 21) rfl rfl Try.func56 (by kernel_rfl) rfl #[.slice A0 l0.length c0] rfl rfl (by (try simp only [List.map_toArray, List.map_cons, List.map_nil]); first | done | rfl) ?_; refine (impl_getInode.calls A0 c0 l0 ra _ (Kd.C_below HR0.out HB2.out) HC0.out EF.out).mono ?_; rintro e_ w3 ⟨rfl, b_⟩; refine ⟨_, rfl, ?_⟩; have HB3 := Aside0.mk (below_then HB2.out HB2.out.size b_); have H8_3 := Aside0.mk (blk_below H8_2.out b_); have H10_3 := Aside0.mk (blk_below H10.out b_); have hz_ := blk_lt H10_3.out; have hy_ := blk_lt H8_3.out; obtain ⟨s3, Ss3⟩ : ∃ s, Aside0 (w3.heap.size = s) := ⟨_, ⟨rfl⟩⟩; rw [Ss3.out] at hz_ hy_; clear b_ H8_2 H10 HB2) | ((with_reducible refine gate_dst (N := 11) rfl ?_); refine hx_alloc rfl 11 rfl 42 rfl Ss3 (.agg (nums .i64 (List.replicate 24 0)).toArray) (nums .i64 (List.replicate 24 0)).toArray Z42 rfl ?_; intro w4 s4 Ls4 Ss4 b_ g_; have HG4 := Aside0.mk g_; have HB4 := Aside0.mk (below_then HB3.out HB3.out.size b_); have H8_4 := Aside0.mk (blk_below H8_3.out b_); have H10_4 := Aside0.mk (blk_below H10_3.out b_); clear b_ g_ HB3 H8_3 H10_3) | ((with_reducible refine gate_store (t := 42) (p := 11) (v := .tmp 21) rfl ?_); refine hx_store rfl rfl 42 (.tmp 11) (.tmp 21) rfl s3 24 rfl (nums .i64 ra).toArray rfl (by kernel_rfl) (nums_size _ _ _ NL.out) (nums_one _ _) HG4.out (by simp [nums]) ?_; intro w5 t_ gg_; have HG5 := Aside0.mk gg_; have H8_5 := Aside0.mk (t_.keep (show s0 ≠ s3 by omega) H8_4.out); have H10_5 := Aside0.mk (t_.keep (show s1 ≠ s3 by omega) H10_4.out); have HB5 := Aside0.mk (t_.below HB4.out (by omega)); clear t_ gg_ HG4 HB4 H8_4 H10_4) | ((with_reducible refine gate_dst (N := 24) rfl ?_); refine hx_load rfl 42 (.tmp 11) rfl s3 24 rfl Try.underlying42 rfl (by kernel_rfl) HG5.out (nums_size _ _ _ NL.out) ?_) | ((with_reducible refine gate_dst (N := 25) rfl ?_); refine goesV_ (some 25) rfl rfl Try.func23 (by kernel_rfl) rfl #[.agg (nums .i64 ra).toArray] rfl rfl (by (try simp only [List.map_toArray, List.map_cons, List.map_nil]); first | done | rfl) ?_; refine (impl_EncodeInode.calls ra NL.out [] 7 _ ER.out).mono ?_; rintro e_ w6 ⟨v0_, rfl, R_, b_⟩; refine ⟨_, rfl, ?_⟩; have HG6 := Aside0.mk (blk_below HG5.out b_); have H8_6 := Aside0.mk (blk_below H8_5.out b_); have H10_6 := Aside0.mk (blk_below H10_5.out b_); have HB6 := Aside0.mk (below_then HB5.out HB5.out.size b_); clear b_ R_ HG5 H8_5 H10_5 HB5) | ((with_reducible refine gate_dst (N := 36) rfl ?_); refine hx_load rfl 42 (.tmp 10) rfl s1 24 rfl Try.underlying42 rfl (by kernel_rfl) H10_6.out (nums_size _ _ _ NZ.out) ?_) | ((with_reducible refine gate_store (t := 42) (p := 8) (v := .tmp 36) rfl ?_); refine hx_store rfl rfl 42 (.tmp 8) (.tmp 36) rfl s0 24 rfl (nums .i64 (List.replicate 24 0)).toArray rfl (by kernel_rfl) (nums_size _ _ _ NZ.out) (nums_one _ _) H8_6.out (by simp [nums]) ?_; intro we t_ gg_; have HE := Aside0.mk gg_; have HEB := Aside0.mk (t_.below HB6.out (by omega)); clear t_ gg_ H8_6 HB6 ))
    exact bodyPost_ret (results_ct rfl _ _ s0 42 (nums .i64 (List.replicate 24 0)).toArray (0, 0) _ rfl HE.out Try.underlying42 rfl (by rw [nums_size _ _ _ NZ.out]; kernel_rfl)) rfl ⟨rfl, HEB.out⟩
  have ER := Aside0.mk (show impl_EncodeInode.f ra = some (inodeBytes ra, 0) by unfold impl_EncodeInode.f; rw [if_pos hg])
  have hs0 : ((strOfNums (inodeBytes ra)).toList == (strOfNums l0).toList) = decide (inodeBytes ra = l0) := strOf_eq (inodeBytes_byt ra) HBY.out
  by_cases he : inodeBytes ra = l0
  case neg =>
    have hd : decI ra l0 = ((List.replicate 24 0), 21) := by unfold decI; rw [if_neg (fun h_ => he h_.2.2)]
    rw [hd] at h
    simp only [Prod.mk.injEq] at h
    obtain ⟨rfl, rfl⟩ := h
    clear hd
    rw [decide_eq_false he] at hs0
    clear hg he
    obtain ⟨rb, hrb⟩ : ∃ b, b = inodeBytes ra := ⟨_, rfl⟩
    rw [← hrb] at ER hs0
    clear hrb
    have EQ := Aside0.mk (show bytes_Equal.f rb l0 = some false by unfold bytes_Equal.f; rw [hs0])
    clear hs0
    go_enter Try.func55, Try.ntmps55
    go_wp2_with (first | ((with_reducible refine gate_dst (N := 8) rfl ?_); refine hx_alloc rfl 8 rfl 42 rfl Sz0 (.agg (nums .i64 (List.replicate 24 0)).toArray) (nums .i64 (List.replicate 24 0)).toArray Z42 rfl ?_; intro w1 s1 Ls1 Ss1 b_ g_; have H8 := Aside0.mk g_; have HB1 := Aside0.mk (below_then HB0.out HB0.out.size b_); clear b_ g_ HB0) | ((with_reducible refine gate_dst (N := 10) rfl ?_); refine hx_alloc rfl 10 rfl 42 rfl Ss1 (.agg (nums .i64 (List.replicate 24 0)).toArray) (nums .i64 (List.replicate 24 0)).toArray Z42 rfl ?_; intro w2 s2 Ls2 Ss2 b_ g_; have H10 := Aside0.mk g_; have HB2 := Aside0.mk (below_then HB1.out HB1.out.size b_); have H8_2 := Aside0.mk (blk_below H8.out b_); clear b_ g_ HB1 H8) | ((with_reducible refine gate_dst (N := 21) rfl ?_); refine goesV_ (some 21) rfl rfl Try.func56 (by kernel_rfl) rfl #[.slice A0 l0.length c0] rfl rfl (by (try simp only [List.map_toArray, List.map_cons, List.map_nil]); first | done | rfl) ?_; refine (impl_getInode.calls A0 c0 l0 ra _ (Kd.C_below HR0.out HB2.out) HC0.out EF.out).mono ?_; rintro e_ w3 ⟨rfl, b_⟩; refine ⟨_, rfl, ?_⟩; have HB3 := Aside0.mk (below_then HB2.out HB2.out.size b_); have H8_3 := Aside0.mk (blk_below H8_2.out b_); have H10_3 := Aside0.mk (blk_below H10.out b_); have hz_ := blk_lt H10_3.out; have hy_ := blk_lt H8_3.out; obtain ⟨s3, Ss3⟩ : ∃ s, Aside0 (w3.heap.size = s) := ⟨_, ⟨rfl⟩⟩; rw [Ss3.out] at hz_ hy_; clear b_ H8_2 H10 HB2) | ((with_reducible refine gate_dst (N := 11) rfl ?_); refine hx_alloc rfl 11 rfl 42 rfl Ss3 (.agg (nums .i64 (List.replicate 24 0)).toArray) (nums .i64 (List.replicate 24 0)).toArray Z42 rfl ?_; intro w4 s4 Ls4 Ss4 b_ g_; have HG4 := Aside0.mk g_; have HB4 := Aside0.mk (below_then HB3.out HB3.out.size b_); have H8_4 := Aside0.mk (blk_below H8_3.out b_); have H10_4 := Aside0.mk (blk_below H10_3.out b_); clear b_ g_ HB3 H8_3 H10_3) | ((with_reducible refine gate_store (t := 42) (p := 11) (v := .tmp 21) rfl ?_); refine hx_store rfl rfl 42 (.tmp 11) (.tmp 21) rfl s3 24 rfl (nums .i64 ra).toArray rfl (by kernel_rfl) (nums_size _ _ _ NL.out) (nums_one _ _) HG4.out (by simp [nums]) ?_; intro w5 t_ gg_; have HG5 := Aside0.mk gg_; have H8_5 := Aside0.mk (t_.keep (show s0 ≠ s3 by omega) H8_4.out); have H10_5 := Aside0.mk (t_.keep (show s1 ≠ s3 by omega) H10_4.out); have HB5 := Aside0.mk (t_.below HB4.out (by omega)); clear t_ gg_ HG4 HB4 H8_4 H10_4) | ((with_reducible refine gate_dst (N := 24) rfl ?_); refine hx_load rfl 42 (.tmp 11) rfl s3 24 rfl Try.underlying42 rfl (by kernel_rfl) HG5.out (nums_size _ _ _ NL.out) ?_) | ((with_reducible refine gate_dst (N := 25) rfl ?_); refine goesV_ (some 25) rfl rfl Try.func23 (by kernel_rfl) rfl #[.agg (nums .i64 ra).toArray] rfl rfl (by (try simp only [List.map_toArray, List.map_cons, List.map_nil]); first | done | rfl) ?_; refine (impl_EncodeInode.calls ra NL.out rb 0 _ ER.out).mono ?_; rintro e_ w6 ⟨v0_, rfl, R_, b_⟩; obtain ⟨Ab, cb, rfl⟩ := Kd.R_slice R_; refine ⟨_, rfl, ?_⟩; have HG6 := Aside0.mk (blk_below HG5.out b_); have H8_6 := Aside0.mk (blk_below H8_5.out b_); have H10_6 := Aside0.mk (blk_below H10_5.out b_); have HB6 := Aside0.mk (below_then HB5.out HB5.out.size b_); have RR := Aside0.mk (Kd.R_reads' R_); clear b_ R_ HG5 H8_5 H10_5 HB5) | (go_at_call 75; (with_reducible refine (bytes_Equal.calls Ab cb rb A0 c0 l0 false _ RR.out.2.2 RR.out.2.1 (Kd.C_below HR0.out HB6.out) HC0.out EQ.out).mono ?_); rintro e_ w7 ⟨rfl, d_⟩; have b_ := kept_drawn d_; have HG7 := Aside0.mk (blk_below HG6.out b_); have H8_7 := Aside0.mk (blk_below H8_6.out b_); have H10_7 := Aside0.mk (blk_below H10_6.out b_); have HB7 := Aside0.mk (below_then HB6.out HB6.out.size b_); clear b_ d_ HG6 H8_6 H10_6 HB6) | ((with_reducible refine gate_dst (N := 36) rfl ?_); refine hx_load rfl 42 (.tmp 10) rfl s1 24 rfl Try.underlying42 rfl (by kernel_rfl) H10_7.out (nums_size _ _ _ NZ.out) ?_) | ((with_reducible refine gate_store (t := 42) (p := 8) (v := .tmp 36) rfl ?_); refine hx_store rfl rfl 42 (.tmp 8) (.tmp 36) rfl s0 24 rfl (nums .i64 (List.replicate 24 0)).toArray rfl (by kernel_rfl) (nums_size _ _ _ NZ.out) (nums_one _ _) H8_7.out (by simp [nums]) ?_; intro we t_ gg_; have HE := Aside0.mk gg_; have HEB := Aside0.mk (t_.below HB7.out (by omega)); clear t_ gg_ H8_7 HB7 ))
    exact bodyPost_ret (results_ct rfl _ _ s0 42 (nums .i64 (List.replicate 24 0)).toArray (0, 0) _ rfl HE.out Try.underlying42 rfl (by rw [nums_size _ _ _ NZ.out]; kernel_rfl)) rfl ⟨rfl, HEB.out⟩
  have hd : decI ra l0 = (ra, 0) := by unfold decI; rw [if_pos ⟨HL.out, hg, he⟩]
  rw [hd] at h
  simp only [Prod.mk.injEq] at h
  obtain ⟨rfl, rfl⟩ := h
  rw [decide_eq_true he] at hs0
  clear hd
  clear hg he
  obtain ⟨rb, hrb⟩ : ∃ b, b = inodeBytes ra := ⟨_, rfl⟩
  rw [← hrb] at ER hs0
  clear hrb
  have EQ := Aside0.mk (show bytes_Equal.f rb l0 = some true by unfold bytes_Equal.f; rw [hs0])
  clear hs0
  go_enter Try.func55, Try.ntmps55
  go_wp2_with (first | ((with_reducible refine gate_dst (N := 8) rfl ?_); refine hx_alloc rfl 8 rfl 42 rfl Sz0 (.agg (nums .i64 (List.replicate 24 0)).toArray) (nums .i64 (List.replicate 24 0)).toArray Z42 rfl ?_; intro w1 s1 Ls1 Ss1 b_ g_; have H8 := Aside0.mk g_; have HB1 := Aside0.mk (below_then HB0.out HB0.out.size b_); clear b_ g_ HB0) | ((with_reducible refine gate_dst (N := 10) rfl ?_); refine hx_alloc rfl 10 rfl 42 rfl Ss1 (.agg (nums .i64 (List.replicate 24 0)).toArray) (nums .i64 (List.replicate 24 0)).toArray Z42 rfl ?_; intro w2 s2 Ls2 Ss2 b_ g_; have H10 := Aside0.mk g_; have HB2 := Aside0.mk (below_then HB1.out HB1.out.size b_); have H8_2 := Aside0.mk (blk_below H8.out b_); clear b_ g_ HB1 H8) | ((with_reducible refine gate_dst (N := 21) rfl ?_); refine goesV_ (some 21) rfl rfl Try.func56 (by kernel_rfl) rfl #[.slice A0 l0.length c0] rfl rfl (by (try simp only [List.map_toArray, List.map_cons, List.map_nil]); first | done | rfl) ?_; refine (impl_getInode.calls A0 c0 l0 ra _ (Kd.C_below HR0.out HB2.out) HC0.out EF.out).mono ?_; rintro e_ w3 ⟨rfl, b_⟩; refine ⟨_, rfl, ?_⟩; have HB3 := Aside0.mk (below_then HB2.out HB2.out.size b_); have H8_3 := Aside0.mk (blk_below H8_2.out b_); have H10_3 := Aside0.mk (blk_below H10.out b_); have hz_ := blk_lt H10_3.out; have hy_ := blk_lt H8_3.out; obtain ⟨s3, Ss3⟩ : ∃ s, Aside0 (w3.heap.size = s) := ⟨_, ⟨rfl⟩⟩; rw [Ss3.out] at hz_ hy_; clear b_ H8_2 H10 HB2) | ((with_reducible refine gate_dst (N := 11) rfl ?_); refine hx_alloc rfl 11 rfl 42 rfl Ss3 (.agg (nums .i64 (List.replicate 24 0)).toArray) (nums .i64 (List.replicate 24 0)).toArray Z42 rfl ?_; intro w4 s4 Ls4 Ss4 b_ g_; have HG4 := Aside0.mk g_; have HB4 := Aside0.mk (below_then HB3.out HB3.out.size b_); have H8_4 := Aside0.mk (blk_below H8_3.out b_); have H10_4 := Aside0.mk (blk_below H10_3.out b_); clear b_ g_ HB3 H8_3 H10_3) | ((with_reducible refine gate_store (t := 42) (p := 11) (v := .tmp 21) rfl ?_); refine hx_store rfl rfl 42 (.tmp 11) (.tmp 21) rfl s3 24 rfl (nums .i64 ra).toArray rfl (by kernel_rfl) (nums_size _ _ _ NL.out) (nums_one _ _) HG4.out (by simp [nums]) ?_; intro w5 t_ gg_; have HG5 := Aside0.mk gg_; have H8_5 := Aside0.mk (t_.keep (show s0 ≠ s3 by omega) H8_4.out); have H10_5 := Aside0.mk (t_.keep (show s1 ≠ s3 by omega) H10_4.out); have HB5 := Aside0.mk (t_.below HB4.out (by omega)); clear t_ gg_ HG4 HB4 H8_4 H10_4) | ((with_reducible refine gate_dst (N := 24) rfl ?_); refine hx_load rfl 42 (.tmp 11) rfl s3 24 rfl Try.underlying42 rfl (by kernel_rfl) HG5.out (nums_size _ _ _ NL.out) ?_) | ((with_reducible refine gate_dst (N := 25) rfl ?_); refine goesV_ (some 25) rfl rfl Try.func23 (by kernel_rfl) rfl #[.agg (nums .i64 ra).toArray] rfl rfl (by (try simp only [List.map_toArray, List.map_cons, List.map_nil]); first | done | rfl) ?_; refine (impl_EncodeInode.calls ra NL.out rb 0 _ ER.out).mono ?_; rintro e_ w6 ⟨v0_, rfl, R_, b_⟩; obtain ⟨Ab, cb, rfl⟩ := Kd.R_slice R_; refine ⟨_, rfl, ?_⟩; have HG6 := Aside0.mk (blk_below HG5.out b_); have H8_6 := Aside0.mk (blk_below H8_5.out b_); have H10_6 := Aside0.mk (blk_below H10_5.out b_); have HB6 := Aside0.mk (below_then HB5.out HB5.out.size b_); have RR := Aside0.mk (Kd.R_reads' R_); clear b_ R_ HG5 H8_5 H10_5 HB5) | (go_at_call 75; (with_reducible refine (bytes_Equal.calls Ab cb rb A0 c0 l0 true _ RR.out.2.2 RR.out.2.1 (Kd.C_below HR0.out HB6.out) HC0.out EQ.out).mono ?_); rintro e_ w7 ⟨rfl, d_⟩; have b_ := kept_drawn d_; have HG7 := Aside0.mk (blk_below HG6.out b_); have H8_7 := Aside0.mk (blk_below H8_6.out b_); have H10_7 := Aside0.mk (blk_below H10_6.out b_); have HB7 := Aside0.mk (below_then HB6.out HB6.out.size b_); clear b_ d_ HG6 H8_6 H10_6 HB6) | ((with_reducible refine gate_dst (N := 37) rfl ?_); refine hx_load rfl 42 (.tmp 11) rfl s3 24 rfl Try.underlying42 rfl (by kernel_rfl) HG7.out (nums_size _ _ _ NL.out) ?_) | ((with_reducible refine gate_store (t := 42) (p := 8) (v := .tmp 37) rfl ?_); refine hx_store rfl rfl 42 (.tmp 8) (.tmp 37) rfl s0 24 rfl (nums .i64 ra).toArray rfl (by kernel_rfl) (nums_size _ _ _ NL.out) (nums_one _ _) H8_7.out (by simp [nums]) ?_; intro we t_ gg_; have HE := Aside0.mk gg_; have HEB := Aside0.mk (t_.below HB7.out (by omega)); clear t_ gg_ H8_7 HB7 ))
  exact bodyPost_ret (results_ct rfl _ _ s0 42 (nums .i64 ra).toArray (0, 0) _ rfl HE.out Try.underlying42 rfl (by rw [nums_size _ _ _ NL.out]; kernel_rfl)) rfl ⟨rfl, HEB.out⟩

open Go.Proofs.YtkghgjehjchajaaW Go.Proofs.YtkghgjehjchajaaW.PrintHand Go.Proofs.YtkghgjehjchajaaW.PrintHx
/-! ### impl_DecodeInode: function 25 -/
open Go.Proofs.YtkghgjehjchajaaW.PrintLe Go.Proofs.YtkghgjehjchajaaW.PrintDec Go.Proofs.YtkghgjehjchajaaW.PrintIno
def impl_DecodeInode.f (l0 : List Int) : Option (List Int × Int) := if (∀ x ∈ l0, 0 ≤ x ∧ x ≤ 255) then some (decI (inodeB l0) l0) else none
set_option maxHeartbeats 8000000 in
set_option maxRecDepth 100000 in
theorem impl_DecodeInode.calls (A0 : Option Addr) (c0 : Nat) (l0 : List Int) (r1 : List Int) (r2 : Int) (w : World) (hr0 : Kd.C (Kd.int .u8) w A0 l0.length l0) (hc0 : l0.length ≤ c0) (h : impl_DecodeInode.f l0 = some (r1, r2)) :
    Calls Try.prog 25 #[.slice A0 l0.length c0] w fun e w' => e = .returned (.tuple #[.agg (nums .i64 r1).toArray, .int .i64 r2]) ∧ Below w.heap.size w w' := by
  have hw_ : r1.length = 24 := by
    unfold impl_DecodeInode.f at h
    split at h
    · obtain rfl := congrArg Prod.fst (Option.some.inj h)
      unfold decI
      split
      · exact (show (inodeB l0).length = 24 from inodeB_length l0)
      · simp
    · cases h
  have HD := Aside0.mk (show impl_Inode.f l0 = some (r1, r2) from h)
  have NL := Aside0.mk hw_
  have HR0 := Aside0.mk hr0
  have HC0 := Aside0.mk hc0
  clear h hw_ hr0 hc0
  have Z42 : ∀ w, (zeroValue 42).run Try.prog w = .ok (.agg (nums .i64 (List.replicate 24 0)).toArray) w := fun _ => by kernel_rfl
  have HB0 : Aside0 (Below w.heap.size w w) := ⟨Below.refl _ _⟩
  obtain ⟨s0, Sz0⟩ : ∃ s0, Aside0 (w.heap.size = s0) := ⟨_, ⟨rfl⟩⟩
  have hw0 : w.heap.size ≤ s0 := Nat.le_of_eq Sz0.out
  have hw1 : s0 ≤ w.heap.size := Nat.le_of_eq Sz0.out.symm
  go_enter Try.func25, Try.ntmps25
  go_wp2_with (first | ((with_reducible refine gate_dst (N := 2) rfl ?_); refine hx_alloc rfl 2 rfl 42 rfl Sz0 (.agg (nums .i64 (List.replicate 24 0)).toArray) (nums .i64 (List.replicate 24 0)).toArray Z42 rfl ?_; intro w1 s1 Ls1 Ss1 b_ g_; have H2 := Aside0.mk g_; have HB1 := Aside0.mk (below_then HB0.out HB0.out.size b_); clear b_ g_ HB0) | ((with_reducible refine gate_dst (N := 5) rfl ?_); refine goesL_ (some 5) rfl rfl Try.func55 (by kernel_rfl) rfl #[.slice A0 l0.length c0, .int .i64 128, .func (.func 56) #[] #[], .func (.func 23) #[] #[]] rfl (by (try simp only [List.map_toArray, List.map_cons, List.map_nil]); first | done | rfl) ?_; refine (impl_Inode.calls A0 c0 l0 r1 r2 _ (Kd.C_below HR0.out HB1.out) HC0.out HD.out).mono ?_; rintro e_ w2 ⟨rfl, b_⟩; refine ⟨_, rfl, ?_⟩; have HB2 := Aside0.mk (below_then HB1.out HB1.out.size b_); have H2_2 := Aside0.mk (blk_below H2.out b_); clear b_ H2 HB1) | ((with_reducible refine gate_store (t := 42) (p := 2) (v := .tmp 6) rfl ?_); refine hx_store rfl rfl 42 (.tmp 2) (.tmp 6) rfl s0 24 rfl (nums .i64 r1).toArray rfl (by kernel_rfl) (nums_size _ _ _ NL.out) (nums_one _ _) H2_2.out (by simp [nums]) ?_; intro we t_ gg_; have HE := Aside0.mk gg_; have HEB := Aside0.mk (t_.below HB2.out (by omega)); clear t_ gg_ H2_2 HB2 ))
  exact bodyPost_ret (results_ct rfl _ _ s0 42 (nums .i64 r1).toArray (0, 0) _ rfl HE.out Try.underlying42 rfl (by rw [nums_size _ _ _ NL.out]; kernel_rfl)) rfl ⟨rfl, HEB.out⟩

/-! ### impl_tableSize: function 60 -/
def impl_tableSize.f (a0 : Int) : Option (Bool) := if a0 ≥ 256 then (if (Int.tmod a0 128) = 0 then (some (decide (a0 ≤ 128128))) else (some false)) else (some false)
set_option maxHeartbeats 8000000 in
set_option maxRecDepth 100000 in
theorem impl_tableSize.calls (a0 : Int) (r : Bool) (w : World) (h : impl_tableSize.f a0 = some r) :
    Calls Try.prog 60 #[.int .i64 a0] w fun e w' => e = .returned (.bool r) ∧ Drawn0 w w' := by
  have H : (if a0 ≥ 256 then (if (Int.tmod a0 128) = 0 then (some (decide (a0 ≤ 128128))) else (some false)) else (some false)) = some r := h
  clear h
  by_cases c2 : a0 ≥ 256
  · rw [if_pos c2] at H
    have c2b0 : decide (256 ≤ a0) = true := decide_eq_true c2
    clear c2
    by_cases c3 : (Int.tmod a0 128) = 0
    · rw [if_pos c3] at H
      have c3b0 : ((Int.tmod a0 128) == 0) = true := beq_iff_eq.mpr c3
      have c3b1 : ((Int.tmod a0 128) != 0) = false := bne_eq_false_iff_eq.mpr c3
      clear c3
      obtain rfl := Option.some.inj H
      go_enter Try.func60, Try.ntmps60
      go_wp2
      go_ret
      exact ⟨by first | rfl | (simp; done) | (simp [*]; done), by repeat (first | exact Drawn0.refl _ | apply Drawn0.step)⟩
    · rw [if_neg c3] at H
      have c3b0 : ((Int.tmod a0 128) == 0) = false := beq_eq_false_iff_ne.mpr c3
      have c3b1 : ((Int.tmod a0 128) != 0) = true := bne_iff_ne.mpr c3
      obtain rfl := Option.some.inj H
      go_enter Try.func60, Try.ntmps60
      go_wp2
      go_ret
      exact ⟨by first | rfl | (simp; done) | (simp [*]; done), by repeat (first | exact Drawn0.refl _ | apply Drawn0.step)⟩
  · rw [if_neg c2] at H
    have c2b0 : decide (256 ≤ a0) = false := decide_eq_false c2
    clear c2
    obtain rfl := Option.some.inj H
    go_enter Try.func60, Try.ntmps60
    go_wp2
    go_ret
    exact ⟨by first | rfl | (simp; done) | (simp [*]; done), by repeat (first | exact Drawn0.refl _ | apply Drawn0.step)⟩

end Go.Proofs.Ytkghgjehjchajaa.PFnTable
