-- Written by a program of this session (patch_print.py over the kit print)
import Derived.Test.YtkghgjehjchajaaPFnExactDecodeRootx0
import Derived.Test.YtkghgjehjchajaaPFnExactDecodeRootx13
import Derived.Test.YtkghgjehjchajaaPFnExactDecodeRootx15
namespace Go.Proofs.Ytkghgjehjchajaa.PFnExactDecodeRoot
open Go.RowKit Go.Proofs.YtkghgjehjchajaaW.PrintWords Go.Proofs.YtkghgjehjchajaaW.PrintLast Go.Proofs.YtkghgjehjchajaaW.PrintMore
attribute [local go_sem] max2_int min2_int max_two min_two max_three min_three max_four min_four   -- for this text's walks alone
set_option linter.unusedVariables false
set_option linter.unusedSimpArgs false

open Go.Proofs.YtkghgjehjchajaaW Go.Proofs.YtkghgjehjchajaaW.PrintHand Go.Proofs.YtkghgjehjchajaaW.PrintHx
/-! ### impl_Root: function 47 -/
open Go.Proofs.YtkghgjehjchajaaW.PrintLe Go.Proofs.YtkghgjehjchajaaW.PrintGrow Go.Proofs.YtkghgjehjchajaaW.PrintDec
def impl_Root.f (l0 : List Int) : Option (List Int × Int) := if (∀ x ∈ l0, 0 ≤ x ∧ x ≤ 255) then some (decR (rootB l0) l0) else none
set_option maxHeartbeats 8000000 in
set_option maxRecDepth 100000 in
theorem impl_Root.calls (A0 : Option Addr) (c0 : Nat) (l0 : List Int) (r1 : List Int) (r2 : Int) (w : World) (hr0 : Kd.C (Kd.int .u8) w A0 l0.length l0) (hc0 : l0.length ≤ c0) (h : impl_Root.f l0 = some (r1, r2)) :
    Calls Try.prog 47 #[.slice A0 l0.length c0, .int .i64 64, .func (.func 48) #[] #[], .func (.func 13) #[] #[]] w fun e w' => e = .returned (.tuple #[.agg (nums .i64 r1).toArray, .int .i64 r2]) ∧ Below w.heap.size w w' := by
  unfold impl_Root.f at h
  by_cases hdom : ∀ x ∈ l0, 0 ≤ x ∧ x ≤ 255
  case neg => rw [if_neg hdom] at h; cases h
  rw [if_pos hdom] at h
  replace h := Option.some.inj h
  have HBY : Aside0 (Byt l0) := ⟨hdom⟩
  have HR0 := Aside0.mk hr0
  have HC0 := Aside0.mk hc0
  clear hdom hr0 hc0
  have Z28 : ∀ w, (zeroValue 28).run Try.prog w = .ok (.agg (nums .i64 (List.replicate 15 0)).toArray) w := fun _ => by kernel_rfl
  have NZ := Aside0.mk (show (List.replicate 15 (0 : Int)).length = 15 by simp)
  have HB0 : Aside0 (Below w.heap.size w w) := ⟨Below.refl _ _⟩
  obtain ⟨s0, Sz0⟩ : ∃ s0, Aside0 (w.heap.size = s0) := ⟨_, ⟨rfl⟩⟩
  have hw0 : w.heap.size ≤ s0 := Nat.le_of_eq Sz0.out
  have hw1 : s0 ≤ w.heap.size := Nat.le_of_eq Sz0.out.symm
  by_cases hl : l0.length = 64
  case neg =>
    have hd : decR (rootB l0) l0 = ((List.replicate 15 0), 21) := by unfold decR; rw [if_neg (fun h_ => hl h_.1)]
    rw [hd] at h
    simp only [Prod.mk.injEq] at h
    obtain ⟨rfl, rfl⟩ := h
    clear hd
    have k0 : ((l0.length : Int) != 64) = true := bne_iff_ne.2 (by omega)
    clear hl
    go_enter Try.func47, Try.ntmps47
    go_wp2_with (first | ((with_reducible refine gate_dst (N := 8) rfl ?_); refine hx_alloc rfl 8 rfl 28 rfl Sz0 (.agg (nums .i64 (List.replicate 15 0)).toArray) (nums .i64 (List.replicate 15 0)).toArray Z28 rfl ?_; intro w1 s1 Ls1 Ss1 b_ g_; have H8 := Aside0.mk g_; have HB1 := Aside0.mk (below_then HB0.out HB0.out.size b_); clear b_ g_ HB0) | ((with_reducible refine gate_dst (N := 10) rfl ?_); refine hx_alloc rfl 10 rfl 28 rfl Ss1 (.agg (nums .i64 (List.replicate 15 0)).toArray) (nums .i64 (List.replicate 15 0)).toArray Z28 rfl ?_; intro w2 s2 Ls2 Ss2 b_ g_; have H10 := Aside0.mk g_; have HB2 := Aside0.mk (below_then HB1.out HB1.out.size b_); have H8_2 := Aside0.mk (blk_below H8.out b_); clear b_ g_ HB1 H8) | ((with_reducible refine gate_dst (N := 18) rfl ?_); refine hx_load rfl 28 (.tmp 10) rfl s1 15 rfl Try.underlying28 rfl (by kernel_rfl) H10.out (nums_size _ _ _ NZ.out) ?_) | ((with_reducible refine gate_store (t := 28) (p := 8) (v := .tmp 18) rfl ?_); refine hx_store rfl rfl 28 (.tmp 8) (.tmp 18) rfl s0 15 rfl (nums .i64 (List.replicate 15 0)).toArray rfl (by kernel_rfl) (nums_size _ _ _ NZ.out) (nums_one _ _) H8_2.out (by simp [nums]) ?_; intro we t_ gg_; have HE := Aside0.mk gg_; have HEB := Aside0.mk (t_.below HB2.out (by omega)); clear t_ gg_ H8_2 HB2 ))
    exact bodyPost_ret (results_ct rfl _ _ s0 28 (nums .i64 (List.replicate 15 0)).toArray (0, 0) _ rfl HE.out Try.underlying28 rfl (by rw [nums_size _ _ _ NZ.out]; kernel_rfl)) rfl ⟨rfl, HEB.out⟩
  have k0 : ((l0.length : Int) != 64) = false := by rw [hl]; rfl
  have EF := Aside0.mk (show impl_getRoot.f l0 = some (rootB l0) from if_pos ⟨hl, HBY.out⟩)
  obtain ⟨ra, hra⟩ : ∃ a, a = rootB l0 := ⟨_, rfl⟩
  have NL := Aside0.mk (show ra.length = 15 by rw [hra]; exact rootOf_length _ l0)
  rw [← hra] at EF h
  have HL := Aside0.mk hl
  clear hra hl
  by_cases hg : rootGood ra = true
  case neg =>
    have hd : decR ra l0 = ((List.replicate 15 0), 21) := by unfold decR; rw [if_neg (fun h_ => hg h_.2.1)]
    rw [hd] at h
    simp only [Prod.mk.injEq] at h
    obtain ⟨rfl, rfl⟩ := h
    clear hd
    have ER := Aside0.mk (show impl_EncodeRoot.f ra = some ([], 7) by unfold impl_EncodeRoot.f; rw [if_neg hg])
    clear hg
    go_enter Try.func47, Try.ntmps47
    go_wp2_with (first | ((with_reducible refine gate_dst (N := 8) rfl ?_); refine hx_alloc rfl 8 rfl 28 rfl Sz0 (.agg (nums .i64 (List.replicate 15 0)).toArray) (nums .i64 (List.replicate 15 0)).toArray Z28 rfl ?_; intro w1 s1 Ls1 Ss1 b_ g_; have H8 := Aside0.mk g_; have HB1 := Aside0.mk (below_then HB0.out HB0.out.size b_); clear b_ g_ HB0) | ((with_reducible refine gate_dst (N := 10) rfl ?_); refine hx_alloc rfl 10 rfl 28 rfl Ss1 (.agg (nums .i64 (List.replicate 15 0)).toArray) (nums .i64 (List.replicate 15 0)).toArray Z28 rfl ?_; intro w2 s2 Ls2 Ss2 b_ g_; have H10 := Aside0.mk g_; have HB2 := Aside0.mk (below_then HB1.out HB1.out.size b_); have H8_2 := Aside0.mk (blk_below H8.out b_); clear b_ g_ HB1 H8) | ((with_reducible refine gate_dst (N := 21) rfl ?_); refine goesV_ (some 21) rfl rfl Try.func48 (by kernel_rfl) rfl #[.slice A0 l0.length c0] rfl rfl (by (try simp only [List.map_toArray, List.map_cons, List.map_nil]); first | done | rfl) ?_; refine (impl_getRoot.calls A0 c0 l0 ra _ (Kd.C_below HR0.out HB2.out) HC0.out EF.out).mono ?_; rintro e_ w3 ⟨rfl, b_⟩; refine ⟨_, rfl, ?_⟩; have HB3 := Aside0.mk (below_then HB2.out HB2.out.size b_); have H8_3 := Aside0.mk (blk_below H8_2.out b_); have H10_3 := Aside0.mk (blk_below H10.out b_); have hz_ := blk_lt H10_3.out; have hy_ := blk_lt H8_3.out; obtain ⟨s3, Ss3⟩ : ∃ s, Aside0 (w3.heap.size = s) := ⟨_, ⟨rfl⟩⟩; rw [Ss3.out] at hz_ hy_; clear b_ H8_2 H10 HB2) | ((with_reducible refine gate_dst (N := 11) rfl ?_); refine hx_alloc rfl 11 rfl 28 rfl Ss3 (.agg (nums .i64 (List.replicate 15 0)).toArray) (nums .i64 (List.replicate 15 0)).toArray Z28 rfl ?_; intro w4 s4 Ls4 Ss4 b_ g_; have HG4 := Aside0.mk g_; have HB4 := Aside0.mk (below_then HB3.out HB3.out.size b_); have H8_4 := Aside0.mk (blk_below H8_3.out b_); have H10_4 := Aside0.mk (blk_below H10_3.out b_); clear b_ g_ HB3 H8_3 H10_3) | ((with_reducible refine gate_store (t := 28) (p := 11) (v := .tmp 21) rfl ?_); refine hx_store rfl rfl 28 (.tmp 11) (.tmp 21) rfl s3 15 rfl (nums .i64 ra).toArray rfl (by kernel_rfl) (nums_size _ _ _ NL.out) (nums_one _ _) HG4.out (by simp [nums]) ?_; intro w5 t_ gg_; have HG5 := Aside0.mk gg_; have H8_5 := Aside0.mk (t_.keep (show s0 ≠ s3 by omega) H8_4.out); have H10_5 := Aside0.mk (t_.keep (show s1 ≠ s3 by omega) H10_4.out); have HB5 := Aside0.mk (t_.below HB4.out (by omega)); clear t_ gg_ HG4 HB4 H8_4 H10_4) | ((with_reducible refine gate_dst (N := 24) rfl ?_); refine hx_load rfl 28 (.tmp 11) rfl s3 15 rfl Try.underlying28 rfl (by kernel_rfl) HG5.out (nums_size _ _ _ NL.out) ?_) | ((with_reducible refine gate_dst (N := 25) rfl ?_); refine goesV_ (some 25) rfl rfl Try.func13 (by kernel_rfl) rfl #[.agg (nums .i64 ra).toArray] rfl rfl (by (try simp only [List.map_toArray, List.map_cons, List.map_nil]); first | done | rfl) ?_; refine (impl_EncodeRoot.calls ra NL.out [] 7 _ ER.out).mono ?_; rintro e_ w6 ⟨v0_, rfl, R_, b_⟩; refine ⟨_, rfl, ?_⟩; have HG6 := Aside0.mk (blk_below HG5.out b_); have H8_6 := Aside0.mk (blk_below H8_5.out b_); have H10_6 := Aside0.mk (blk_below H10_5.out b_); have HB6 := Aside0.mk (below_then HB5.out HB5.out.size b_); clear b_ R_ HG5 H8_5 H10_5 HB5) | ((with_reducible refine gate_dst (N := 36) rfl ?_); refine hx_load rfl 28 (.tmp 10) rfl s1 15 rfl Try.underlying28 rfl (by kernel_rfl) H10_6.out (nums_size _ _ _ NZ.out) ?_) | ((with_reducible refine gate_store (t := 28) (p := 8) (v := .tmp 36) rfl ?_); refine hx_store rfl rfl 28 (.tmp 8) (.tmp 36) rfl s0 15 rfl (nums .i64 (List.replicate 15 0)).toArray rfl (by kernel_rfl) (nums_size _ _ _ NZ.out) (nums_one _ _) H8_6.out (by simp [nums]) ?_; intro we t_ gg_; have HE := Aside0.mk gg_; have HEB := Aside0.mk (t_.below HB6.out (by omega)); clear t_ gg_ H8_6 HB6 ))
    exact bodyPost_ret (results_ct rfl _ _ s0 28 (nums .i64 (List.replicate 15 0)).toArray (0, 0) _ rfl HE.out Try.underlying28 rfl (by rw [nums_size _ _ _ NZ.out]; kernel_rfl)) rfl ⟨rfl, HEB.out⟩
  have ER := Aside0.mk (show impl_EncodeRoot.f ra = some (rootBytes ra, 0) by unfold impl_EncodeRoot.f; rw [if_pos hg])
  have hs0 : ((strOfNums (rootBytes ra)).toList == (strOfNums l0).toList) = decide (rootBytes ra = l0) := strOf_eq (rootBytes_byt ra) HBY.out
  by_cases he : rootBytes ra = l0
  case neg =>
    have hd : decR ra l0 = ((List.replicate 15 0), 21) := by unfold decR; rw [if_neg (fun h_ => he h_.2.2)]
    rw [hd] at h
    simp only [Prod.mk.injEq] at h
    obtain ⟨rfl, rfl⟩ := h
    clear hd
    rw [decide_eq_false he] at hs0
    clear hg he
    obtain ⟨rb, hrb⟩ : ∃ b, b = rootBytes ra := ⟨_, rfl⟩
    rw [← hrb] at ER hs0
    clear hrb
    have EQ := Aside0.mk (show bytes_Equal.f rb l0 = some false by unfold bytes_Equal.f; rw [hs0])
    clear hs0
    go_enter Try.func47, Try.ntmps47
    go_wp2_with (first | ((with_reducible refine gate_dst (N := 8) rfl ?_); refine hx_alloc rfl 8 rfl 28 rfl Sz0 (.agg (nums .i64 (List.replicate 15 0)).toArray) (nums .i64 (List.replicate 15 0)).toArray Z28 rfl ?_; intro w1 s1 Ls1 Ss1 b_ g_; have H8 := Aside0.mk g_; have HB1 := Aside0.mk (below_then HB0.out HB0.out.size b_); clear b_ g_ HB0) | ((with_reducible refine gate_dst (N := 10) rfl ?_); refine hx_alloc rfl 10 rfl 28 rfl Ss1 (.agg (nums .i64 (List.replicate 15 0)).toArray) (nums .i64 (List.replicate 15 0)).toArray Z28 rfl ?_; intro w2 s2 Ls2 Ss2 b_ g_; have H10 := Aside0.mk g_; have HB2 := Aside0.mk (below_then HB1.out HB1.out.size b_); have H8_2 := Aside0.mk (blk_below H8.out b_); clear b_ g_ HB1 H8) | ((with_reducible refine gate_dst (N := 21) rfl ?_); refine goesV_ (some 21) rfl rfl Try.func48 (by kernel_rfl) rfl #[.slice A0 l0.length c0] rfl rfl (by (try simp only [List.map_toArray, List.map_cons, List.map_nil]); first | done | rfl) ?_; refine (impl_getRoot.calls A0 c0 l0 ra _ (Kd.C_below HR0.out HB2.out) HC0.out EF.out).mono ?_; rintro e_ w3 ⟨rfl, b_⟩; refine ⟨_, rfl, ?_⟩; have HB3 := Aside0.mk (below_then HB2.out HB2.out.size b_); have H8_3 := Aside0.mk (blk_below H8_2.out b_); have H10_3 := Aside0.mk (blk_below H10.out b_); have hz_ := blk_lt H10_3.out; have hy_ := blk_lt H8_3.out; obtain ⟨s3, Ss3⟩ : ∃ s, Aside0 (w3.heap.size = s) := ⟨_, ⟨rfl⟩⟩; rw [Ss3.out] at hz_ hy_; clear b_ H8_2 H10 HB2) | ((with_reducible refine gate_dst (N := 11) rfl ?_); refine hx_alloc rfl 11 rfl 28 rfl Ss3 (.agg (nums .i64 (List.replicate 15 0)).toArray) (nums .i64 (List.replicate 15 0)).toArray Z28 rfl ?_; intro w4 s4 Ls4 Ss4 b_ g_; have HG4 := Aside0.mk g_; have HB4 := Aside0.mk (below_then HB3.out HB3.out.size b_); have H8_4 := Aside0.mk (blk_below H8_3.out b_); have H10_4 := Aside0.mk (blk_below H10_3.out b_); clear b_ g_ HB3 H8_3 H10_3) | ((with_reducible refine gate_store (t := 28) (p := 11) (v := .tmp 21) rfl ?_); refine hx_store rfl rfl 28 (.tmp 11) (.tmp 21) rfl s3 15 rfl (nums .i64 ra).toArray rfl (by kernel_rfl) (nums_size _ _ _ NL.out) (nums_one _ _) HG4.out (by simp [nums]) ?_; intro w5 t_ gg_; have HG5 := Aside0.mk gg_; have H8_5 := Aside0.mk (t_.keep (show s0 ≠ s3 by omega) H8_4.out); have H10_5 := Aside0.mk (t_.keep (show s1 ≠ s3 by omega) H10_4.out); have HB5 := Aside0.mk (t_.below HB4.out (by omega)); clear t_ gg_ HG4 HB4 H8_4 H10_4) | ((with_reducible refine gate_dst (N := 24) rfl ?_); refine hx_load rfl 28 (.tmp 11) rfl s3 15 rfl Try.underlying28 rfl (by kernel_rfl) HG5.out (nums_size _ _ _ NL.out) ?_) | ((with_reducible refine gate_dst (N := 25) rfl ?_); refine goesV_ (some 25) rfl rfl Try.func13 (by kernel_rfl) rfl #[.agg (nums .i64 ra).toArray] rfl rfl (by (try simp only [List.map_toArray, List.map_cons, List.map_nil]); first | done | rfl) ?_; refine (impl_EncodeRoot.calls ra NL.out rb 0 _ ER.out).mono ?_; rintro e_ w6 ⟨v0_, rfl, R_, b_⟩; obtain ⟨Ab, cb, rfl⟩ := Kd.R_slice R_; refine ⟨_, rfl, ?_⟩; have HG6 := Aside0.mk (blk_below HG5.out b_); have H8_6 := Aside0.mk (blk_below H8_5.out b_); have H10_6 := Aside0.mk (blk_below H10_5.out b_); have HB6 := Aside0.mk (below_then HB5.out HB5.out.size b_); have RR := Aside0.mk (Kd.R_reads' R_); clear b_ R_ HG5 H8_5 H10_5 HB5) | (go_at_call 75; (with_reducible refine (bytes_Equal.calls Ab cb rb A0 c0 l0 false _ RR.out.2.2 RR.out.2.1 (Kd.C_below HR0.out HB6.out) HC0.out EQ.out).mono ?_); rintro e_ w7 ⟨rfl, d_⟩; have b_ := kept_drawn d_; have HG7 := Aside0.mk (blk_below HG6.out b_); have H8_7 := Aside0.mk (blk_below H8_6.out b_); have H10_7 := Aside0.mk (blk_below H10_6.out b_); have HB7 := Aside0.mk (below_then HB6.out HB6.out.size b_); clear b_ d_ HG6 H8_6 H10_6 HB6) | ((with_reducible refine gate_dst (N := 36) rfl ?_); refine hx_load rfl 28 (.tmp 10) rfl s1 15 rfl Try.underlying28 rfl (by kernel_rfl) H10_7.out (nums_size _ _ _ NZ.out) ?_) | ((with_reducible refine gate_store (t := 28) (p := 8) (v := .tmp 36) rfl ?_); refine hx_store rfl rfl 28 (.tmp 8) (.tmp 36) rfl s0 15 rfl (nums .i64 (List.replicate 15 0)).toArray rfl (by kernel_rfl) (nums_size _ _ _ NZ.out) (nums_one _ _) H8_7.out (by simp [nums]) ?_; intro we t_ gg_; have HE := Aside0.mk gg_; have HEB := Aside0.mk (t_.below HB7.out (by omega)); clear t_ gg_ H8_7 HB7 ))
    exact bodyPost_ret (results_ct rfl _ _ s0 28 (nums .i64 (List.replicate 15 0)).toArray (0, 0) _ rfl HE.out Try.underlying28 rfl (by rw [nums_size _ _ _ NZ.out]; kernel_rfl)) rfl ⟨rfl, HEB.out⟩
  have hd : decR ra l0 = (ra, 0) := by unfold decR; rw [if_pos ⟨HL.out, hg, he⟩]
  rw [hd] at h
  simp only [Prod.mk.injEq] at h
  obtain ⟨rfl, rfl⟩ := h
  rw [decide_eq_true he] at hs0
  clear hd
  clear hg he
  obtain ⟨rb, hrb⟩ : ∃ b, b = rootBytes ra := ⟨_, rfl⟩
  rw [← hrb] at ER hs0
  clear hrb
  have EQ := Aside0.mk (show bytes_Equal.f rb l0 = some true by unfold bytes_Equal.f; rw [hs0])
  clear hs0
  go_enter Try.func47, Try.ntmps47
  go_wp2_with (first | ((with_reducible refine gate_dst (N := 8) rfl ?_); refine hx_alloc rfl 8 rfl 28 rfl Sz0 (.agg (nums .i64 (List.replicate 15 0)).toArray) (nums .i64 (List.replicate 15 0)).toArray Z28 rfl ?_; intro w1 s1 Ls1 Ss1 b_ g_; have H8 := Aside0.mk g_; have HB1 := Aside0.mk (below_then HB0.out HB0.out.size b_); clear b_ g_ HB0) | ((with_reducible refine gate_dst (N := 10) rfl ?_); refine hx_alloc rfl 10 rfl 28 rfl Ss1 (.agg (nums .i64 (List.replicate 15 0)).toArray) (nums .i64 (List.replicate 15 0)).toArray Z28 rfl ?_; intro w2 s2 Ls2 Ss2 b_ g_; have H10 := Aside0.mk g_; have HB2 := Aside0.mk (below_then HB1.out HB1.out.size b_); have H8_2 := Aside0.mk (blk_below H8.out b_); clear b_ g_ HB1 H8) | ((with_reducible refine gate_dst (N := 21) rfl ?_); refine goesV_ (some 21) rfl rfl Try.func48 (by kernel_rfl) rfl #[.slice A0 l0.length c0] rfl rfl (by (try simp only [List.map_toArray, List.map_cons, List.map_nil]); first | done | rfl) ?_; refine (impl_getRoot.calls A0 c0 l0 ra _ (Kd.C_below HR0.out HB2.out) HC0.out EF.out).mono ?_; rintro e_ w3 ⟨rfl, b_⟩; refine ⟨_, rfl, ?_⟩; have HB3 := Aside0.mk (below_then HB2.out HB2.out.size b_); have H8_3 := Aside0.mk (blk_below H8_2.out b_); have H10_3 := Aside0.mk (blk_below H10.out b_); have hz_ := blk_lt H10_3.out; have hy_ := blk_lt H8_3.out; obtain ⟨s3, Ss3⟩ : ∃ s, Aside0 (w3.heap.size = s) := ⟨_, ⟨rfl⟩⟩; rw [Ss3.out] at hz_ hy_; clear b_ H8_2 H10 HB2) | ((with_reducible refine gate_dst (N := 11) rfl ?_); refine hx_alloc rfl 11 rfl 28 rfl Ss3 (.agg (nums .i64 (List.replicate 15 0)).toArray) (nums .i64 (List.replicate 15 0)).toArray Z28 rfl ?_; intro w4 s4 Ls4 Ss4 b_ g_; have HG4 := Aside0.mk g_; have HB4 := Aside0.mk (below_then HB3.out HB3.out.size b_); have H8_4 := Aside0.mk (blk_below H8_3.out b_); have H10_4 := Aside0.mk (blk_below H10_3.out b_); clear b_ g_ HB3 H8_3 H10_3) | ((with_reducible refine gate_store (t := 28) (p := 11) (v := .tmp 21) rfl ?_); refine hx_store rfl rfl 28 (.tmp 11) (.tmp 21) rfl s3 15 rfl (nums .i64 ra).toArray rfl (by kernel_rfl) (nums_size _ _ _ NL.out) (nums_one _ _) HG4.out (by simp [nums]) ?_; intro w5 t_ gg_; have HG5 := Aside0.mk gg_; have H8_5 := Aside0.mk (t_.keep (show s0 ≠ s3 by omega) H8_4.out); have H10_5 := Aside0.mk (t_.keep (show s1 ≠ s3 by omega) H10_4.out); have HB5 := Aside0.mk (t_.below HB4.out (by omega)); clear t_ gg_ HG4 HB4 H8_4 H10_4) | ((with_reducible refine gate_dst (N := 24) rfl ?_); refine hx_load rfl 28 (.tmp 11) rfl s3 15 rfl Try.underlying28 rfl (by kernel_rfl) HG5.out (nums_size _ _ _ NL.out) ?_) | ((with_reducible refine gate_dst (N := 25) rfl ?_); refine goesV_ (some 25) rfl rfl Try.func13 (by kernel_rfl) rfl #[.agg (nums .i64 ra).toArray] rfl rfl (by (try simp only [List.map_toArray, List.map_cons, List.map_nil]); first | done | rfl) ?_; refine (impl_EncodeRoot.calls ra NL.out rb 0 _ ER.out).mono ?_; rintro e_ w6 ⟨v0_, rfl, R_, b_⟩; obtain ⟨Ab, cb, rfl⟩ := Kd.R_slice R_; refine ⟨_, rfl, ?_⟩; have HG6 := Aside0.mk (blk_below HG5.out b_); have H8_6 := Aside0.mk (blk_below H8_5.out b_); have H10_6 := Aside0.mk (blk_below H10_5.out b_); have HB6 := Aside0.mk (below_then HB5.out HB5.out.size b_); have RR := Aside0.mk (Kd.R_reads' R_); clear b_ R_ HG5 H8_5 H10_5 HB5) | (go_at_call 75; (with_reducible refine (bytes_Equal.calls Ab cb rb A0 c0 l0 true _ RR.out.2.2 RR.out.2.1 (Kd.C_below HR0.out HB6.out) HC0.out EQ.out).mono ?_); rintro e_ w7 ⟨rfl, d_⟩; have b_ := kept_drawn d_; have HG7 := Aside0.mk (blk_below HG6.out b_); have H8_7 := Aside0.mk (blk_below H8_6.out b_); have H10_7 := Aside0.mk (blk_below H10_6.out b_); have HB7 := Aside0.mk (below_then HB6.out HB6.out.size b_); clear b_ d_ HG6 H8_6 H10_6 HB6) | ((with_reducible refine gate_dst (N := 37) rfl ?_); refine hx_load rfl 28 (.tmp 11) rfl s3 15 rfl Try.underlying28 rfl (by kernel_rfl) HG7.out (nums_size _ _ _ NL.out) ?_) | ((with_reducible refine gate_store (t := 28) (p := 8) (v := .tmp 37) rfl ?_); refine hx_store rfl rfl 28 (.tmp 8) (.tmp 37) rfl s0 15 rfl (nums .i64 ra).toArray rfl (by kernel_rfl) (nums_size _ _ _ NL.out) (nums_one _ _) H8_7.out (by simp [nums]) ?_; intro we t_ gg_; have HE := Aside0.mk gg_; have HEB := Aside0.mk (t_.below HB7.out (by omega)); clear t_ gg_ H8_7 HB7 ))
  exact bodyPost_ret (results_ct rfl _ _ s0 28 (nums .i64 ra).toArray (0, 0) _ rfl HE.out Try.underlying28 rfl (by rw [nums_size _ _ _ NL.out]; kernel_rfl)) rfl ⟨rfl, HEB.out⟩

open Go.Proofs.YtkghgjehjchajaaW Go.Proofs.YtkghgjehjchajaaW.PrintHand Go.Proofs.YtkghgjehjchajaaW.PrintHx
/-! ### impl_DecodeRoot: function 19 -/
open Go.Proofs.YtkghgjehjchajaaW.PrintLe Go.Proofs.YtkghgjehjchajaaW.PrintDec
def impl_DecodeRoot.f (l0 : List Int) : Option (List Int × Int) := if (∀ x ∈ l0, 0 ≤ x ∧ x ≤ 255) then some (decR (rootB l0) l0) else none
set_option maxHeartbeats 8000000 in
set_option maxRecDepth 100000 in
theorem impl_DecodeRoot.calls (A0 : Option Addr) (c0 : Nat) (l0 : List Int) (r1 : List Int) (r2 : Int) (w : World) (hr0 : Kd.C (Kd.int .u8) w A0 l0.length l0) (hc0 : l0.length ≤ c0) (h : impl_DecodeRoot.f l0 = some (r1, r2)) :
    Calls Try.prog 19 #[.slice A0 l0.length c0] w fun e w' => e = .returned (.tuple #[.agg (nums .i64 r1).toArray, .int .i64 r2]) ∧ Below w.heap.size w w' := by
  have hw_ : r1.length = 15 := by
    unfold impl_DecodeRoot.f at h
    split at h
    · obtain rfl := congrArg Prod.fst (Option.some.inj h)
      unfold decR
      split
      · exact (show (rootB l0).length = 15 from rootOf_length _ l0)
      · simp
    · cases h
  have HD := Aside0.mk (show impl_Root.f l0 = some (r1, r2) from h)
  have NL := Aside0.mk hw_
  have HR0 := Aside0.mk hr0
  have HC0 := Aside0.mk hc0
  clear h hw_ hr0 hc0
  have Z28 : ∀ w, (zeroValue 28).run Try.prog w = .ok (.agg (nums .i64 (List.replicate 15 0)).toArray) w := fun _ => by kernel_rfl
  have HB0 : Aside0 (Below w.heap.size w w) := ⟨Below.refl _ _⟩
  obtain ⟨s0, Sz0⟩ : ∃ s0, Aside0 (w.heap.size = s0) := ⟨_, ⟨rfl⟩⟩
  have hw0 : w.heap.size ≤ s0 := Nat.le_of_eq Sz0.out
  have hw1 : s0 ≤ w.heap.size := Nat.le_of_eq Sz0.out.symm
  go_enter Try.func19, Try.ntmps19
  go_wp2_with (first | ((with_reducible refine gate_dst (N := 2) rfl ?_); refine hx_alloc rfl 2 rfl 28 rfl Sz0 (.agg (nums .i64 (List.replicate 15 0)).toArray) (nums .i64 (List.replicate 15 0)).toArray Z28 rfl ?_; intro w1 s1 Ls1 Ss1 b_ g_; have H2 := Aside0.mk g_; have HB1 := Aside0.mk (below_then HB0.out HB0.out.size b_); clear b_ g_ HB0) | ((with_reducible refine gate_dst (N := 5) rfl ?_); refine goesL_ (some 5) rfl rfl Try.func47 (by kernel_rfl) rfl #[.slice A0 l0.length c0, .int .i64 64, .func (.func 48) #[] #[], .func (.func 13) #[] #[]] rfl (by (try simp only [List.map_toArray, List.map_cons, List.map_nil]); first | done | rfl) ?_; refine (impl_Root.calls A0 c0 l0 r1 r2 _ (Kd.C_below HR0.out HB1.out) HC0.out HD.out).mono ?_; rintro e_ w2 ⟨rfl, b_⟩; refine ⟨_, rfl, ?_⟩; have HB2 := Aside0.mk (below_then HB1.out HB1.out.size b_); have H2_2 := Aside0.mk (blk_below H2.out b_); clear b_ H2 HB1) | ((with_reducible refine gate_store (t := 28) (p := 2) (v := .tmp 6) rfl ?_); refine hx_store rfl rfl 28 (.tmp 2) (.tmp 6) rfl s0 15 rfl (nums .i64 r1).toArray rfl (by kernel_rfl) (nums_size _ _ _ NL.out) (nums_one _ _) H2_2.out (by simp [nums]) ?_; intro we t_ gg_; have HE := Aside0.mk gg_; have HEB := Aside0.mk (t_.below HB2.out (by omega)); clear t_ gg_ H2_2 HB2 ))
  exact bodyPost_ret (results_ct rfl _ _ s0 28 (nums .i64 r1).toArray (0, 0) _ rfl HE.out Try.underlying28 rfl (by rw [nums_size _ _ _ NL.out]; kernel_rfl)) rfl ⟨rfl, HEB.out⟩

open Go.Proofs.YtkghgjehjchajaaW Go.Proofs.YtkghgjehjchajaaW.PrintHand Go.Proofs.YtkghgjehjchajaaW.PrintHx
/-! ### laws_eqIntA12: function 49 -/
def laws_eqIntA12.f (a0 a1 : List Int) : Option Bool := if a0 = a1 then some true else none
set_option maxHeartbeats 4000000 in
theorem laws_eqIntA12.calls (a0 : List Int) (n0 : a0.length = 12) (a1 : List Int) (n1 : a1.length = 12) (r : Bool) (w : World) (h : laws_eqIntA12.f a0 a1 = some r) :
    Calls Try.prog 49 #[.agg (nums .i64 a0).toArray, .agg (nums .i64 a1).toArray] w fun e w' => e = .returned (.bool r) ∧ Below w.heap.size w w' := by
  unfold laws_eqIntA12.f at h
  by_cases he : a0 = a1
  case neg => rw [if_neg he] at h; cases h
  rw [if_pos he] at h
  obtain rfl := Option.some.inj h
  subst he
  have N_ := Aside0.mk n0
  clear n0 n1 h
  have HB0 : Aside0 (Below w.heap.size w w) := ⟨Below.refl _ _⟩
  obtain ⟨s0, Sz0⟩ : ∃ s0, Aside0 (w.heap.size = s0) := ⟨_, ⟨rfl⟩⟩
  go_enter Try.func49, Try.ntmps49
  go_wp2_with (first | ((with_reducible refine gate_dst (N := 2) rfl ?_); refine hx_box rfl 2 rfl 22 (.tmp 0) rfl Sz0 (.agg (nums .i64 a0).toArray) (nums .i64 a0).toArray rfl rfl ?_; intro w1 s1 L1 Sz1 b1 g_; have H0 := Aside0.mk g_; have HB1 := Aside0.mk (below_then HB0.out HB0.out.size b1); clear g_ HB0 b1) | ((with_reducible refine gate_dst (N := 3) rfl ?_); refine hx_box rfl 3 rfl 22 (.tmp 1) rfl Sz1 (.agg (nums .i64 a0).toArray) (nums .i64 a0).toArray rfl rfl ?_; intro w2 s2 L2 Sz2 b2 g_; have H1 := Aside0.mk g_; have H0 := Aside0.mk (blk_below H0.out b2); have HB2 := Aside0.mk (below_then HB1.out HB1.out.size b2); clear g_ HB1 b2))
  (try simp only [Act.put, List.setIfInBounds_toArray, List.set_cons_succ, List.set_cons_zero])
  go_loopw [5] (fun i wr => ∃ k : Nat, k ≤ 12 ∧ i = .int .i64 (k : Int) ∧ Aside0 (Below w.heap.size w wr) ∧ Aside0 (wr.heap[s0]? = some (.cells (nums .i64 a0).toArray 22 (0, 0))) ∧ Aside0 (wr.heap[s1]? = some (.cells (nums .i64 a0).toArray 22 (0, 0)))) (fun i _ => 12 - (intOf i).toNat)
  case atStart => exact ⟨0, by omega, rfl, HB2, H0, H1⟩
  case round =>
    obtain ⟨k, hk, rfl, hB, h0, h1⟩ := hrel
    by_cases hlt : k < 12
    · have c0 := row_cell h0.out k (by rw [N_.out]; exact hlt)
      have c1 := row_cell h1.out k (by rw [N_.out]; exact hlt)
      have hn : (a0.getD k 0 != a0.getD k 0) = false := by simp
      go_wp2
      go_quiet (fail)
      go_wp2
      go_roundw
      case rel => exact ⟨k + 1, by omega, by go_num, ⟨pw_below_drewN hB.out _⟩, ⟨blk_drewN h0.out _⟩, ⟨blk_drewN h1.out _⟩⟩
      case measure => simp [intOf]; omega
    · obtain rfl : k = 12 := by omega
      go_wp2
      go_ret
      exact ⟨rfl, hB.out⟩

open Go.Proofs.YtkghgjehjchajaaW Go.Proofs.YtkghgjehjchajaaW.PrintHand Go.Proofs.YtkghgjehjchajaaW.PrintHx
/-! ### laws_eqRoot: function 20 -/
def laws_eqRoot.f (a0 a1 : List Int) : Option Bool := if a0 = a1 then some true else none
set_option maxHeartbeats 8000000 in
set_option maxRecDepth 100000 in
theorem laws_eqRoot.calls (a0 : List Int) (n0 : a0.length = 15) (a1 : List Int) (n1 : a1.length = 15) (r : Bool) (w : World) (h : laws_eqRoot.f a0 a1 = some r) :
    Calls Try.prog 20 #[.agg (nums .i64 a0).toArray, .agg (nums .i64 a1).toArray] w fun e w' => e = .returned (.bool r) ∧ Below w.heap.size w w' := by
  unfold laws_eqRoot.f at h
  by_cases he : a0 = a1
  case neg => rw [if_neg he] at h; cases h
  rw [if_pos he] at h
  obtain rfl := Option.some.inj h
  subst he
  have N_ := Aside0.mk n0
  clear n0 n1 h
  have HB0 : Aside0 (Below w.heap.size w w) := ⟨Below.refl _ _⟩
  obtain ⟨s0, Sz0⟩ : ∃ s0, Aside0 (w.heap.size = s0) := ⟨_, ⟨rfl⟩⟩
  have hw0 : w.heap.size ≤ s0 := Nat.le_of_eq Sz0.out
  have hw1 : s0 ≤ w.heap.size := Nat.le_of_eq Sz0.out.symm
  go_enter Try.func20, Try.ntmps20
  go_wp2_with (first | ((with_reducible refine gate_dst (N := 2) rfl ?_); refine hx_box rfl 2 rfl 28 (.tmp 0) rfl Sz0 (.agg (nums .i64 a0).toArray) (nums .i64 a0).toArray rfl rfl ?_; intro w1 s1 L1 Sz1 b1 g_; have H2_1 := Aside0.mk g_; clear g_; have K0 := kept_below b1; have HB1 := Aside0.mk (below_then HB0.out HB0.out.size b1); clear b1; clear K0 HB0) | ((with_reducible refine gate_dst (N := 3) rfl ?_); refine hx_box rfl 3 rfl 28 (.tmp 1) rfl Sz1 (.agg (nums .i64 a0).toArray) (nums .i64 a0).toArray rfl rfl ?_; intro w2 s2 L2 Sz2 b2 g_; have H3_2 := Aside0.mk g_; clear g_; have K1 := kept_below b2; have HB2 := Aside0.mk (below_then HB1.out HB1.out.size b2); have H2_2 := Aside0.mk (blk_kept H2_1.out K1 (fun h_ => h_)); clear b2; clear K1 HB1 H2_1) | ((with_reducible refine gate_dst (N := 6) rfl ?_); refine hx_loadf rfl 3 (.tmp 5) rfl s0 0 rfl Try.underlying3 rfl H2_2.out (lt_len (n := 15) N_.out (by decide)) ?_) | ((with_reducible refine gate_dst (N := 8) rfl ?_); refine hx_loadf rfl 3 (.tmp 7) rfl s1 0 rfl Try.underlying3 rfl H3_2.out (lt_len (n := 15) N_.out (by decide)) ?_) | ((with_reducible refine gate_dst (N := 11) rfl ?_); refine hx_loadp rfl 22 (.tmp 10) rfl s0 1 12 rfl Try.underlying22 rfl (by kernel_rfl) H2_2.out (le_len (n := 15) N_.out (by decide)) ?_) | ((with_reducible refine gate_dst (N := 13) rfl ?_); refine hx_loadp rfl 22 (.tmp 12) rfl s1 1 12 rfl Try.underlying22 rfl (by kernel_rfl) H3_2.out (le_len (n := 15) N_.out (by decide)) ?_) | ((with_reducible refine gate_dst (N := 14) rfl ?_); refine goesL_ (some 14) rfl rfl Try.func49 (by kernel_rfl) rfl #[.agg (nums .i64 (seg a0 1 12)).toArray, .agg (nums .i64 (seg a0 1 12)).toArray] rfl (by (try simp only [List.map_toArray, List.map_cons, List.map_nil]); first | done | rfl) ?_; refine (laws_eqIntA12.calls _ (part_len (n := 15) N_.out (by decide)) _ (part_len (n := 15) N_.out (by decide)) _ _ (if_pos rfl)).mono ?_; rintro e_ w3 ⟨rfl, b3⟩; refine ⟨_, rfl, ?_⟩; obtain ⟨s3, L3, Sz3⟩ := size_letter Sz2 (kept_below b3); have K2 := kept_below b3; have HB3 := Aside0.mk (below_then HB2.out HB2.out.size b3); have H2_3 := Aside0.mk (blk_kept H2_2.out K2 (fun h_ => h_)); have H3_3 := Aside0.mk (blk_kept H3_2.out K2 (fun h_ => h_)); clear b3; clear K2 HB2 H2_2 H3_2) | ((with_reducible refine gate_dst (N := 17) rfl ?_); refine hx_loadf rfl 3 (.tmp 16) rfl s0 13 rfl Try.underlying3 rfl H2_3.out (lt_len (n := 15) N_.out (by decide)) ?_) | ((with_reducible refine gate_dst (N := 19) rfl ?_); refine hx_loadf rfl 3 (.tmp 18) rfl s1 13 rfl Try.underlying3 rfl H3_3.out (lt_len (n := 15) N_.out (by decide)) ?_) | ((with_reducible refine gate_dst (N := 22) rfl ?_); refine hx_loadf rfl 3 (.tmp 21) rfl s0 14 rfl Try.underlying3 rfl H2_3.out (lt_len (n := 15) N_.out (by decide)) ?_) | ((with_reducible refine gate_dst (N := 24) rfl ?_); refine hx_loadf rfl 3 (.tmp 23) rfl s1 14 rfl Try.underlying3 rfl H3_3.out (lt_len (n := 15) N_.out (by decide)) ?_))
  go_ret
  exact ⟨rfl, HB3.out⟩

end Go.Proofs.Ytkghgjehjchajaa.PFnExactDecodeRoot
