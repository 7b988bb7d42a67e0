-- Written by a program of this session (patch_print.py over the kit print)
import Derived.Test.YtkghgjehjchajaaPFnExactDecodeRootx0
import Derived.Test.YtkghgjehjchajaaPFnExactDecodeRootx5
import Derived.Test.YtkghgjehjchajaaPFnExactDecodeRootx6
namespace Go.Proofs.Ytkghgjehjchajaa.PFnExactDecodeRoot
open Go.RowKit Go.Proofs.YtkghgjehjchajaaW.PrintWords Go.Proofs.YtkghgjehjchajaaW.PrintLast Go.Proofs.YtkghgjehjchajaaW.PrintMore
attribute [local go_sem] max2_int min2_int max_two min_two max_three min_three max_four min_four   -- for this text's walks alone
set_option linter.unusedVariables false
set_option linter.unusedSimpArgs false

open Go.Proofs.YtkghgjehjchajaaW Go.Proofs.YtkghgjehjchajaaW.PrintHand Go.Proofs.YtkghgjehjchajaaW.PrintHx
/-! ### spec_DecodeRoot: function 17 -/
open Go.Proofs.YtkghgjehjchajaaW.PrintLe Go.Proofs.YtkghgjehjchajaaW.PrintGrow Go.Proofs.YtkghgjehjchajaaW.PrintDec
def spec_DecodeRoot.f (l0 : List Int) : Option (List Int × Int) := if (∀ x ∈ l0, 0 ≤ x ∧ x ≤ 255) then some (decR (rootA l0) l0) else none
set_option maxHeartbeats 8000000 in
set_option maxRecDepth 100000 in
theorem spec_DecodeRoot.calls (A0 : Option Addr) (c0 : Nat) (l0 : List Int) (r1 : List Int) (r2 : Int) (w : World) (hr0 : Kd.C (Kd.int .u8) w A0 l0.length l0) (hc0 : l0.length ≤ c0) (h : spec_DecodeRoot.f l0 = some (r1, r2)) :
    Calls Try.prog 17 #[.slice A0 l0.length c0] w fun e w' => e = .returned (.tuple #[.agg (nums .i64 r1).toArray, .int .i64 r2]) ∧ Below w.heap.size w w' := by
  unfold spec_DecodeRoot.f at h
  by_cases hdom : ∀ x ∈ l0, 0 ≤ x ∧ x ≤ 255
  case neg => rw [if_neg hdom] at h; cases h
  rw [if_pos hdom] at h
  replace h := Option.some.inj h
  have HBY : Aside0 (Byt l0) := ⟨hdom⟩
  have HR0 := Aside0.mk hr0
  have HC0 := Aside0.mk hc0
  clear hdom hr0 hc0
  have Z28 : ∀ w, (zeroValue 28).run Try.prog w = .ok (.agg (nums .i64 (List.replicate 15 0)).toArray) w := fun _ => by kernel_rfl
  have HB0 : Aside0 (Below w.heap.size w w) := ⟨Below.refl _ _⟩
  obtain ⟨s0, Sz0⟩ : ∃ s0, Aside0 (w.heap.size = s0) := ⟨_, ⟨rfl⟩⟩
  have hw0 : w.heap.size ≤ s0 := Nat.le_of_eq Sz0.out
  have hw1 : s0 ≤ w.heap.size := Nat.le_of_eq Sz0.out.symm
  by_cases hl : l0.length = 64
  case neg =>
    have hd : decR (rootA l0) l0 = (List.replicate 15 0, 21) := by unfold decR; rw [if_neg (fun h_ => hl h_.1)]
    rw [hd] at h
    simp only [Prod.mk.injEq] at h
    obtain ⟨rfl, rfl⟩ := h
    have k0 : ((l0.length : Int) != 64) = true := bne_iff_ne.2 (by omega)
    clear hd hl
    go_enter Try.func17, Try.ntmps17
    go_wp2_with (first | ((with_reducible refine gate_dst (N := 2) rfl ?_); refine hx_alloc rfl 2 rfl 28 rfl Sz0 (.agg (nums .i64 (List.replicate 15 0)).toArray) (nums .i64 (List.replicate 15 0)).toArray Z28 rfl ?_; intro w1 s1 Ls1 Ss1 b_ g_; have H2 := Aside0.mk g_; have HB1 := Aside0.mk (below_then HB0.out HB0.out.size b_); clear b_ g_ HB0) | ((with_reducible refine gate_store (t := 28) (p := 2) (v := .tmp 10) rfl ?_); refine hx_store rfl rfl 28 (.tmp 2) (.tmp 10) rfl s0 15 rfl (nums .i64 (List.replicate 15 0)).toArray rfl (by kernel_rfl) (by kernel_rfl) (nums_one _ _) H2.out (by simp [nums]) ?_; intro we t_ gg_; have HE := Aside0.mk gg_; have HEB := Aside0.mk (t_.below HB1.out (by omega)); clear t_ gg_ H2 HB1 ))
    exact bodyPost_ret (results_ct rfl _ _ s0 28 (nums .i64 (List.replicate 15 0)).toArray (0, 0) _ rfl HE.out Try.underlying28 rfl (by kernel_rfl)) rfl ⟨rfl, HEB.out⟩
  have k0 : ((l0.length : Int) != 64) = false := by rw [hl]; rfl
  have EF := Aside0.mk (show spec_l02RootOf.f l0 = some (rootA l0) from if_pos ⟨hl, HBY.out⟩)
  obtain ⟨ra, hra⟩ : ∃ a, a = rootA l0 := ⟨_, rfl⟩
  have NL := Aside0.mk (show ra.length = 15 by rw [hra]; exact rootOf_length _ l0)
  rw [← hra] at EF h
  have HL := Aside0.mk hl
  clear hra hl
  by_cases hg : rootGood ra = true
  case neg =>
    have hd : decR ra l0 = (List.replicate 15 0, 21) := by unfold decR; rw [if_neg (fun h_ => hg h_.2.1)]
    rw [hd] at h
    simp only [Prod.mk.injEq] at h
    obtain ⟨rfl, rfl⟩ := h
    have ER := Aside0.mk (show spec_EncodeRoot.f ra = some ([], 7) by unfold spec_EncodeRoot.f; rw [if_neg hg])
    clear hd hg
    go_enter Try.func17, Try.ntmps17
    go_wp2_with (first | ((with_reducible refine gate_dst (N := 2) rfl ?_); refine hx_alloc rfl 2 rfl 28 rfl Sz0 (.agg (nums .i64 (List.replicate 15 0)).toArray) (nums .i64 (List.replicate 15 0)).toArray Z28 rfl ?_; intro w1 s1 Ls1 Ss1 b_ g_; have H2 := Aside0.mk g_; have HB1 := Aside0.mk (below_then HB0.out HB0.out.size b_); clear b_ g_ HB0) | ((with_reducible refine gate_dst (N := 12) rfl ?_); refine goesL_ (some 12) rfl rfl Try.func46 (by kernel_rfl) rfl #[.slice A0 l0.length c0] rfl (by (try simp only [List.map_toArray, List.map_cons, List.map_nil]); first | done | rfl) ?_; refine (spec_l02RootOf.calls A0 c0 l0 ra _ (Kd.C_below HR0.out HB1.out) HC0.out EF.out).mono ?_; rintro e_ w2 ⟨rfl, b_⟩; refine ⟨_, rfl, ?_⟩; have HB2 := Aside0.mk (below_then HB1.out HB1.out.size b_); have H2_2 := Aside0.mk (blk_below H2.out b_); have hz2 := b_.size; rw [Ss1.out] at hz2; obtain ⟨s2, Ss2⟩ : ∃ s, Aside0 (w2.heap.size = s) := ⟨_, ⟨rfl⟩⟩; rw [Ss2.out] at hz2; clear b_ H2 HB1) | ((with_reducible refine gate_dst (N := 4) rfl ?_); refine hx_alloc rfl 4 rfl 28 rfl Ss2 (.agg (nums .i64 (List.replicate 15 0)).toArray) (nums .i64 (List.replicate 15 0)).toArray Z28 rfl ?_; intro w3 s3 Ls3 Ss3 b_ g_; have HG3 := Aside0.mk g_; have HB3 := Aside0.mk (below_then HB2.out HB2.out.size b_); have H2_3 := Aside0.mk (blk_below H2_2.out b_); clear b_ g_ HB2 H2_2) | ((with_reducible refine gate_store (t := 28) (p := 4) (v := .tmp 12) rfl ?_); refine hx_store rfl rfl 28 (.tmp 4) (.tmp 12) rfl s2 15 rfl (nums .i64 ra).toArray rfl (by kernel_rfl) (nums_size _ _ _ NL.out) (nums_one _ _) HG3.out (by simp [nums]) ?_; intro w4 t_ gg_; have HG4 := Aside0.mk gg_; have H2_4 := Aside0.mk (t_.keep (show s0 ≠ s2 by omega) H2_3.out); have HB4 := Aside0.mk (t_.below HB3.out (by omega)); clear t_ gg_ HG3 HB3 H2_3) | ((with_reducible refine gate_dst (N := 14) rfl ?_); refine hx_load rfl 28 (.tmp 4) rfl s2 15 rfl Try.underlying28 rfl (by kernel_rfl) HG4.out (nums_size _ _ _ NL.out) ?_) | ((with_reducible refine gate_dst (N := 15) rfl ?_); refine goesL_ (some 15) rfl rfl Try.func11 (by kernel_rfl) rfl #[.agg (nums .i64 ra).toArray] rfl (by (try simp only [List.map_toArray, List.map_cons, List.map_nil]); first | done | rfl) ?_; refine (spec_EncodeRoot.calls ra NL.out [] 7 _ ER.out).mono ?_; rintro e_ w5 ⟨v0_, rfl, R_, b_⟩; refine ⟨_, rfl, ?_⟩; have HG5 := Aside0.mk (blk_below HG4.out b_); have H25 := Aside0.mk (blk_below H2_4.out b_); have HB5 := Aside0.mk (below_then HB4.out HB4.out.size b_); clear b_ R_ HG4 H2_4 HB4) | ((with_reducible refine gate_store (t := 28) (p := 2) (v := .tmp 27) rfl ?_); refine hx_store rfl rfl 28 (.tmp 2) (.tmp 27) rfl s0 15 rfl (nums .i64 (List.replicate 15 0)).toArray rfl (by kernel_rfl) (by kernel_rfl) (nums_one _ _) H25.out (by simp [nums]) ?_; intro we t_ gg_; have HE := Aside0.mk gg_; have HEB := Aside0.mk (t_.below HB5.out (by omega)); clear t_ gg_ H25 HB5 ))
    exact bodyPost_ret (results_ct rfl _ _ s0 28 (nums .i64 (List.replicate 15 0)).toArray (0, 0) _ rfl HE.out Try.underlying28 rfl (by kernel_rfl)) rfl ⟨rfl, HEB.out⟩
  have ER := Aside0.mk (show spec_EncodeRoot.f ra = some (rootBytes ra, 0) by unfold spec_EncodeRoot.f; rw [if_pos hg])
  have hs0 : ((strOfNums (rootBytes ra)).toList == (strOfNums l0).toList) = decide (rootBytes ra = l0) := strOf_eq (rootBytes_byt ra) HBY.out
  by_cases he : rootBytes ra = l0
  case neg =>
    have hd : decR ra l0 = (List.replicate 15 0, 21) := by unfold decR; rw [if_neg (fun h_ => he h_.2.2)]
    rw [hd] at h
    simp only [Prod.mk.injEq] at h
    obtain ⟨rfl, rfl⟩ := h
    rw [decide_eq_false he] at hs0
    clear hd hg he
    obtain ⟨rb, hrb⟩ : ∃ b, b = rootBytes ra := ⟨_, rfl⟩
    rw [← hrb] at ER hs0
    clear hrb
    have hs1 : ((strOfNums rb).toList == (strOfNums l0).toList) = false := hs0
    clear hs0
    go_enter Try.func17, Try.ntmps17
    go_wp2_with (first | ((with_reducible refine gate_dst (N := 2) rfl ?_); refine hx_alloc rfl 2 rfl 28 rfl Sz0 (.agg (nums .i64 (List.replicate 15 0)).toArray) (nums .i64 (List.replicate 15 0)).toArray Z28 rfl ?_; intro w1 s1 Ls1 Ss1 b_ g_; have H2 := Aside0.mk g_; have HB1 := Aside0.mk (below_then HB0.out HB0.out.size b_); clear b_ g_ HB0) | ((with_reducible refine gate_dst (N := 12) rfl ?_); refine goesL_ (some 12) rfl rfl Try.func46 (by kernel_rfl) rfl #[.slice A0 l0.length c0] rfl (by (try simp only [List.map_toArray, List.map_cons, List.map_nil]); first | done | rfl) ?_; refine (spec_l02RootOf.calls A0 c0 l0 ra _ (Kd.C_below HR0.out HB1.out) HC0.out EF.out).mono ?_; rintro e_ w2 ⟨rfl, b_⟩; refine ⟨_, rfl, ?_⟩; have HB2 := Aside0.mk (below_then HB1.out HB1.out.size b_); have H2_2 := Aside0.mk (blk_below H2.out b_); have hz2 := b_.size; rw [Ss1.out] at hz2; obtain ⟨s2, Ss2⟩ : ∃ s, Aside0 (w2.heap.size = s) := ⟨_, ⟨rfl⟩⟩; rw [Ss2.out] at hz2; clear b_ H2 HB1) | ((with_reducible refine gate_dst (N := 4) rfl ?_); refine hx_alloc rfl 4 rfl 28 rfl Ss2 (.agg (nums .i64 (List.replicate 15 0)).toArray) (nums .i64 (List.replicate 15 0)).toArray Z28 rfl ?_; intro w3 s3 Ls3 Ss3 b_ g_; have HG3 := Aside0.mk g_; have HB3 := Aside0.mk (below_then HB2.out HB2.out.size b_); have H2_3 := Aside0.mk (blk_below H2_2.out b_); clear b_ g_ HB2 H2_2) | ((with_reducible refine gate_store (t := 28) (p := 4) (v := .tmp 12) rfl ?_); refine hx_store rfl rfl 28 (.tmp 4) (.tmp 12) rfl s2 15 rfl (nums .i64 ra).toArray rfl (by kernel_rfl) (nums_size _ _ _ NL.out) (nums_one _ _) HG3.out (by simp [nums]) ?_; intro w4 t_ gg_; have HG4 := Aside0.mk gg_; have H2_4 := Aside0.mk (t_.keep (show s0 ≠ s2 by omega) H2_3.out); have HB4 := Aside0.mk (t_.below HB3.out (by omega)); clear t_ gg_ HG3 HB3 H2_3) | ((with_reducible refine gate_dst (N := 14) rfl ?_); refine hx_load rfl 28 (.tmp 4) rfl s2 15 rfl Try.underlying28 rfl (by kernel_rfl) HG4.out (nums_size _ _ _ NL.out) ?_) | ((with_reducible refine gate_dst (N := 15) rfl ?_); refine goesL_ (some 15) rfl rfl Try.func11 (by kernel_rfl) rfl #[.agg (nums .i64 ra).toArray] rfl (by (try simp only [List.map_toArray, List.map_cons, List.map_nil]); first | done | rfl) ?_; refine (spec_EncodeRoot.calls ra NL.out rb 0 _ ER.out).mono ?_; rintro e_ w5 ⟨v0_, rfl, R_, b_⟩; obtain ⟨Ab, cb, rfl⟩ := Kd.R_slice R_; refine ⟨_, rfl, ?_⟩; have HG5 := Aside0.mk (blk_below HG4.out b_); have H25 := Aside0.mk (blk_below H2_4.out b_); have HB5 := Aside0.mk (below_then HB4.out HB4.out.size b_); have hcv1 := Kd.C_string (P := Try.prog) (A := Ab) (c := cb) Try.underlying25 Try.underlying5 Try.underlying9 (Kd.R_reads' R_).2.2; have hcv2 := Kd.C_string (P := Try.prog) (A := A0) (c := c0) Try.underlying25 Try.underlying5 Try.underlying9 (Kd.C_below HR0.out HB5.out); clear b_ R_ HG4 H2_4 HB4) | ((with_reducible refine gate_store (t := 28) (p := 2) (v := .tmp 27) rfl ?_); refine hx_store rfl rfl 28 (.tmp 2) (.tmp 27) rfl s0 15 rfl (nums .i64 (List.replicate 15 0)).toArray rfl (by kernel_rfl) (by kernel_rfl) (nums_one _ _) H25.out (by simp [nums]) ?_; intro we t_ gg_; have HE := Aside0.mk gg_; have HEB := Aside0.mk (t_.below HB5.out (by omega)); clear t_ gg_ H25 HB5 ))
    exact bodyPost_ret (results_ct rfl _ _ s0 28 (nums .i64 (List.replicate 15 0)).toArray (0, 0) _ rfl HE.out Try.underlying28 rfl (by kernel_rfl)) rfl ⟨rfl, HEB.out⟩
  have hd : decR ra l0 = (ra, 0) := by unfold decR; rw [if_pos ⟨HL.out, hg, he⟩]
  rw [hd] at h
  simp only [Prod.mk.injEq] at h
  obtain ⟨rfl, rfl⟩ := h
  rw [decide_eq_true he] at hs0
  clear hd hg he
  obtain ⟨rb, hrb⟩ : ∃ b, b = rootBytes ra := ⟨_, rfl⟩
  rw [← hrb] at ER hs0
  clear hrb
  have hs1 : ((strOfNums rb).toList == (strOfNums l0).toList) = true := hs0
  clear hs0
  go_enter Try.func17, Try.ntmps17
  go_wp2_with (first | ((with_reducible refine gate_dst (N := 2) rfl ?_); refine hx_alloc rfl 2 rfl 28 rfl Sz0 (.agg (nums .i64 (List.replicate 15 0)).toArray) (nums .i64 (List.replicate 15 0)).toArray Z28 rfl ?_; intro w1 s1 Ls1 Ss1 b_ g_; have H2 := Aside0.mk g_; have HB1 := Aside0.mk (below_then HB0.out HB0.out.size b_); clear b_ g_ HB0) | ((with_reducible refine gate_dst (N := 12) rfl ?_); refine goesL_ (some 12) rfl rfl Try.func46 (by kernel_rfl) rfl #[.slice A0 l0.length c0] rfl (by (try simp only [List.map_toArray, List.map_cons, List.map_nil]); first | done | rfl) ?_; refine (spec_l02RootOf.calls A0 c0 l0 ra _ (Kd.C_below HR0.out HB1.out) HC0.out EF.out).mono ?_; rintro e_ w2 ⟨rfl, b_⟩; refine ⟨_, rfl, ?_⟩; have HB2 := Aside0.mk (below_then HB1.out HB1.out.size b_); have H2_2 := Aside0.mk (blk_below H2.out b_); have hz2 := b_.size; rw [Ss1.out] at hz2; obtain ⟨s2, Ss2⟩ : ∃ s, Aside0 (w2.heap.size = s) := ⟨_, ⟨rfl⟩⟩; rw [Ss2.out] at hz2; clear b_ H2 HB1) | ((with_reducible refine gate_dst (N := 4) rfl ?_); refine hx_alloc rfl 4 rfl 28 rfl Ss2 (.agg (nums .i64 (List.replicate 15 0)).toArray) (nums .i64 (List.replicate 15 0)).toArray Z28 rfl ?_; intro w3 s3 Ls3 Ss3 b_ g_; have HG3 := Aside0.mk g_; have HB3 := Aside0.mk (below_then HB2.out HB2.out.size b_); have H2_3 := Aside0.mk (blk_below H2_2.out b_); clear b_ g_ HB2 H2_2) | ((with_reducible refine gate_store (t := 28) (p := 4) (v := .tmp 12) rfl ?_); refine hx_store rfl rfl 28 (.tmp 4) (.tmp 12) rfl s2 15 rfl (nums .i64 ra).toArray rfl (by kernel_rfl) (nums_size _ _ _ NL.out) (nums_one _ _) HG3.out (by simp [nums]) ?_; intro w4 t_ gg_; have HG4 := Aside0.mk gg_; have H2_4 := Aside0.mk (t_.keep (show s0 ≠ s2 by omega) H2_3.out); have HB4 := Aside0.mk (t_.below HB3.out (by omega)); clear t_ gg_ HG3 HB3 H2_3) | ((with_reducible refine gate_dst (N := 14) rfl ?_); refine hx_load rfl 28 (.tmp 4) rfl s2 15 rfl Try.underlying28 rfl (by kernel_rfl) HG4.out (nums_size _ _ _ NL.out) ?_) | ((with_reducible refine gate_dst (N := 15) rfl ?_); refine goesL_ (some 15) rfl rfl Try.func11 (by kernel_rfl) rfl #[.agg (nums .i64 ra).toArray] rfl (by (try simp only [List.map_toArray, List.map_cons, List.map_nil]); first | done | rfl) ?_; refine (spec_EncodeRoot.calls ra NL.out rb 0 _ ER.out).mono ?_; rintro e_ w5 ⟨v0_, rfl, R_, b_⟩; obtain ⟨Ab, cb, rfl⟩ := Kd.R_slice R_; refine ⟨_, rfl, ?_⟩; have HG5 := Aside0.mk (blk_below HG4.out b_); have H25 := Aside0.mk (blk_below H2_4.out b_); have HB5 := Aside0.mk (below_then HB4.out HB4.out.size b_); have hcv1 := Kd.C_string (P := Try.prog) (A := Ab) (c := cb) Try.underlying25 Try.underlying5 Try.underlying9 (Kd.R_reads' R_).2.2; have hcv2 := Kd.C_string (P := Try.prog) (A := A0) (c := c0) Try.underlying25 Try.underlying5 Try.underlying9 (Kd.C_below HR0.out HB5.out); clear b_ R_ HG4 H2_4 HB4) | ((with_reducible refine gate_dst (N := 28) rfl ?_); refine hx_load rfl 28 (.tmp 4) rfl s2 15 rfl Try.underlying28 rfl (by kernel_rfl) HG5.out (nums_size _ _ _ NL.out) ?_) | ((with_reducible refine gate_store (t := 28) (p := 2) (v := .tmp 28) rfl ?_); refine hx_store rfl rfl 28 (.tmp 2) (.tmp 28) rfl s0 15 rfl (nums .i64 ra).toArray rfl (by kernel_rfl) (nums_size _ _ _ NL.out) (nums_one _ _) H25.out (by simp [nums]) ?_; intro we t_ gg_; have HE := Aside0.mk gg_; have HEB := Aside0.mk (t_.below HB5.out (by omega)); clear t_ gg_ H25 HB5 ))
  exact bodyPost_ret (results_ct rfl _ _ s0 28 (nums .i64 ra).toArray (0, 0) _ rfl HE.out Try.underlying28 rfl (by rw [nums_size _ _ _ NL.out]; kernel_rfl)) rfl ⟨rfl, HEB.out⟩

end Go.Proofs.Ytkghgjehjchajaa.PFnExactDecodeRoot
