-- Written by a program of this session (patch_print.py over the kit print)
import Derived.Test.YtkghgjehjchajaaPFnExactDecodeInodex0
import Derived.Test.YtkghgjehjchajaaPFnExactDecodeInodex1
import Derived.Test.YtkghgjehjchajaaPFnExactDecodeInodex7
import Derived.Test.YtkghgjehjchajaaPFnExactDecodeInodex12
import Derived.Test.YtkghgjehjchajaaPFnExactDecodeInodex13
namespace Go.Proofs.Ytkghgjehjchajaa.PFnExactDecodeInode
open Go.RowKit Go.Proofs.YtkghgjehjchajaaW.PrintWords Go.Proofs.YtkghgjehjchajaaW.PrintLast Go.Proofs.YtkghgjehjchajaaW.PrintMore
attribute [local go_sem] max2_int min2_int max_two min_two max_three min_three max_four min_four   -- for this text's walks alone
set_option linter.unusedVariables false
set_option linter.unusedSimpArgs false

open Go.Proofs.YtkghgjehjchajaaW Go.Proofs.YtkghgjehjchajaaW.PrintHand Go.Proofs.YtkghgjehjchajaaW.PrintHx
/-! ### impl_Inode: function 55 -/
open Go.Proofs.YtkghgjehjchajaaW.PrintLe Go.Proofs.YtkghgjehjchajaaW.PrintGrow Go.Proofs.YtkghgjehjchajaaW.PrintDec Go.Proofs.YtkghgjehjchajaaW.PrintIno
def impl_Inode.f (l0 : List Int) : Option (List Int × Int) := if (∀ x ∈ l0, 0 ≤ x ∧ x ≤ 255) then some (decI (inodeB l0) l0) else none
set_option maxHeartbeats 8000000 in
set_option maxRecDepth 100000 in
theorem impl_Inode.calls (A0 : Option Addr) (c0 : Nat) (l0 : List Int) (r1 : List Int) (r2 : Int) (w : World) (hr0 : Kd.C (Kd.int .u8) w A0 l0.length l0) (hc0 : l0.length ≤ c0) (h : impl_Inode.f l0 = some (r1, r2)) :
    Calls Try.prog 55 #[.slice A0 l0.length c0, .int .i64 128, .func (.func 56) #[] #[], .func (.func 23) #[] #[]] w fun e w' => e = .returned (.tuple #[.agg (nums .i64 r1).toArray, .int .i64 r2]) ∧ Below w.heap.size w w' := by
  unfold impl_Inode.f at h
  by_cases hdom : ∀ x ∈ l0, 0 ≤ x ∧ x ≤ 255
  case neg => rw [if_neg hdom] at h; cases h
  rw [if_pos hdom] at h
  replace h := Option.some.inj h
  have HBY : Aside0 (Byt l0) := ⟨hdom⟩
  have HR0 := Aside0.mk hr0
  have HC0 := Aside0.mk hc0
  clear hdom hr0 hc0
  have Z42 : ∀ w, (zeroValue 42).run Try.prog w = .ok (.agg (nums .i64 (List.replicate 24 0)).toArray) w := fun _ => by kernel_rfl
  have NZ := Aside0.mk (show (List.replicate 24 (0 : Int)).length = 24 by simp)
  have HB0 : Aside0 (Below w.heap.size w w) := ⟨Below.refl _ _⟩
  obtain ⟨s0, Sz0⟩ : ∃ s0, Aside0 (w.heap.size = s0) := ⟨_, ⟨rfl⟩⟩
  have hw0 : w.heap.size ≤ s0 := Nat.le_of_eq Sz0.out
  have hw1 : s0 ≤ w.heap.size := Nat.le_of_eq Sz0.out.symm
  by_cases hl : l0.length = 128
  case neg =>
    have hd : decI (inodeB l0) l0 = ((List.replicate 24 0), 21) := by unfold decI; rw [if_neg (fun h_ => hl h_.1)]
    rw [hd] at h
    simp only [Prod.mk.injEq] at h
    obtain ⟨rfl, rfl⟩ := h
    clear hd
    have k0 : ((l0.length : Int) != 128) = true := bne_iff_ne.2 (by omega)
    clear hl
    go_enter Try.func55, Try.ntmps55
    go_wp2_with (first | ((with_reducible refine gate_dst (N := 8) rfl ?_); refine hx_alloc rfl 8 rfl 42 rfl Sz0 (.agg (nums .i64 (List.replicate 24 0)).toArray) (nums .i64 (List.replicate 24 0)).toArray Z42 rfl ?_; intro w1 s1 Ls1 Ss1 b_ g_; have H8 := Aside0.mk g_; have HB1 := Aside0.mk (below_then HB0.out HB0.out.size b_); clear b_ g_ HB0) | ((with_reducible refine gate_dst (N := 10) rfl ?_); refine hx_alloc rfl 10 rfl 42 rfl Ss1 (.agg (nums .i64 (List.replicate 24 0)).toArray) (nums .i64 (List.replicate 24 0)).toArray Z42 rfl ?_; intro w2 s2 Ls2 Ss2 b_ g_; have H10 := Aside0.mk g_; have HB2 := Aside0.mk (below_then HB1.out HB1.out.size b_); have H8_2 := Aside0.mk (blk_below H8.out b_); clear b_ g_ HB1 H8) | ((with_reducible refine gate_dst (N := 18) rfl ?_); refine hx_load rfl 42 (.tmp 10) rfl s1 24 rfl Try.underlying42 rfl (by kernel_rfl) H10.out (nums_size _ _ _ NZ.out) ?_) | ((with_reducible refine gate_store (t := 42) (p := 8) (v := .tmp 18) rfl ?_); refine hx_store rfl rfl 42 (.tmp 8) (.tmp 18) rfl s0 24 rfl (nums .i64 (List.replicate 24 0)).toArray rfl (by kernel_rfl) (nums_size _ _ _ NZ.out) (nums_one _ _) H8_2.out (by simp [nums]) ?_; intro we t_ gg_; have HE := Aside0.mk gg_; have HEB := Aside0.mk (t_.below HB2.out (by omega)); clear t_ gg_ H8_2 HB2 ))
    exact bodyPost_ret (results_ct rfl _ _ s0 42 (nums .i64 (List.replicate 24 0)).toArray (0, 0) _ rfl HE.out Try.underlying42 rfl (by rw [nums_size _ _ _ NZ.out]; kernel_rfl)) rfl ⟨rfl, HEB.out⟩
  have k0 : ((l0.length : Int) != 128) = false := by rw [hl]; rfl
  have EF := Aside0.mk (show impl_getInode.f l0 = some (inodeB l0) from if_pos ⟨hl, HBY.out⟩)
  obtain ⟨ra, hra⟩ : ∃ a, a = inodeB l0 := ⟨_, rfl⟩
  have NL := Aside0.mk (show ra.length = 24 by rw [hra]; exact inodeB_length l0)
  rw [← hra] at EF h
  have HL := Aside0.mk hl
  clear hra hl
  by_cases hg : inodeGood ra = true
  case neg =>
    have hd : decI ra l0 = ((List.replicate 24 0), 21) := by unfold decI; rw [if_neg (fun h_ => hg h_.2.1)]
    rw [hd] at h
    simp only [Prod.mk.injEq] at h
    obtain ⟨rfl, rfl⟩ := h
    clear hd
    have ER := Aside0.mk (show impl_EncodeInode.f ra = some ([], 7) by unfold impl_EncodeInode.f; rw [if_neg hg])
    clear hg
    go_enter Try.func55, Try.ntmps55
    go_wp2_with (first | ((with_reducible refine gate_dst (N := 8) rfl ?_); refine hx_alloc rfl 8 rfl 42 rfl Sz0 (.agg (nums .i64 (List.replicate 24 0)).toArray) (nums .i64 (List.replicate 24 0)).toArray Z42 rfl ?_; intro w1 s1 Ls1 Ss1 b_ g_; have H8 := Aside0.mk g_; have HB1 := Aside0.mk (below_then HB0.out HB0.out.size b_); clear b_ g_ HB0) | ((with_reducible refine gate_dst (N := 10) rfl ?_); refine hx_alloc rfl 10 rfl 42 rfl Ss1 (.agg (nums .i64 (List.replicate 24 0)).toArray) (nums .i64 (List.replicate 24 0)).toArray Z42 rfl ?_; intro w2 s2 Ls2 Ss2 b_ g_; have H10 := Aside0.mk g_; have HB2 := Aside0.mk (below_then HB1.out HB1.out.size b_); have H8_2 := Aside0.mk (blk_below H8.out b_); clear b_ g_ HB1 H8) | ((with_reducible refine gate_dst (N := 21) rfl ?_); refine goesV_ (some 21) rfl rfl Try.func56 (by kernel_rfl) rfl #[.slice A0 l0.length c0] rfl rfl (by (try simp only [List.map_toArray, List.map_cons, List.map_nil]); first | done | rfl) ?_; refine (impl_getInode.calls A0 c0 l0 ra _ (Kd.C_below HR0.out HB2.out) HC0.out EF.out).mono ?_; rintro e_ w3 ⟨rfl, b_⟩; refine ⟨_, rfl, ?_⟩; have HB3 := Aside0.mk (below_then HB2.out HB2.out.size b_); have H8_3 := Aside0.mk (blk_below H8_2.out b_); have H10_3 := Aside0.mk (blk_below H10.out b_); have hz_ := blk_lt H10_3.out; have hy_ := blk_lt H8_3.out; obtain ⟨s3, Ss3⟩ : ∃ s, Aside0 (w3.heap.size = s) := ⟨_, ⟨rfl⟩⟩; rw [Ss3.out] at hz_ hy_; clear b_ H8_2 H10 HB2) | ((with_reducible refine gate_dst (N := 11) rfl ?_); refine hx_alloc rfl 11 rfl 42 rfl Ss3 (.agg (nums .i64 (List.replicate 24 0)).toArray) (nums .i64 (List.replicate 24 0)).toArray Z42 rfl ?_; intro w4 s4 Ls4 Ss4 b_ g_; have HG4 := Aside0.mk g_; have HB4 := Aside0.mk (below_then HB3.out HB3.out.size b_); have H8_4 := Aside0.mk (blk_below H8_3.out b_); have H10_4 := Aside0.mk (blk_below H10_3.out b_); clear b_ g_ HB3 H8_3 H10_3) | ((with_reducible refine gate_store (t := 42) (p := 11) (v := .tmp 21) rfl ?_); refine hx_store rfl rfl 42 (.tmp 11) (.tmp 21) rfl s3 24 rfl (nums .i64 ra).toArray rfl (by kernel_rfl) (nums_size _ _ _ NL.out) (nums_one _ _) HG4.out (by simp [nums]) ?_; intro w5 t_ gg_; have HG5 := Aside0.mk gg_; have H8_5 := Aside0.mk (t_.keep (show s0 ≠ s3 by omega) H8_4.out); have H10_5 := Aside0.mk (t_.keep (show s1 ≠ s3 by omega) H10_4.out); have HB5 := Aside0.mk (t_.below HB4.out (by omega)); clear t_ gg_ HG4 HB4 H8_4 H10_4) | ((with_reducible refine gate_dst (N := 24) rfl ?_); refine hx_load rfl 42 (.tmp 11) rfl s3 24 rfl Try.underlying42 rfl (by kernel_rfl) HG5.out (nums_size _ _ _ NL.out) ?_) | ((with_reducible refine gate_dst (N := 25) rfl ?_); refine goesV_ (some 25) rfl rfl Try.func23 (by kernel_rfl) rfl #[.agg (nums .i64 ra).toArray] rfl rfl (by (try simp only [List.map_toArray, List.map_cons, List.map_nil]); first | done | rfl) ?_; refine (impl_EncodeInode.calls ra NL.out [] 7 _ ER.out).mono ?_; rintro e_ w6 ⟨v0_, rfl, R_, b_⟩; refine ⟨_, rfl, ?_⟩; have HG6 := Aside0.mk (blk_below HG5.out b_); have H8_6 := Aside0.mk (blk_below H8_5.out b_); have H10_6 := Aside0.mk (blk_below H10_5.out b_); have HB6 := Aside0.mk (below_then HB5.out HB5.out.size b_); clear b_ R_ HG5 H8_5 H10_5 HB5) | ((with_reducible refine gate_dst (N := 36) rfl ?_); refine hx_load rfl 42 (.tmp 10) rfl s1 24 rfl Try.underlying42 rfl (by kernel_rfl) H10_6.out (nums_size _ _ _ NZ.out) ?_) | ((with_reducible refine gate_store (t := 42) (p := 8) (v := .tmp 36) rfl ?_); refine hx_store rfl rfl 42 (.tmp 8) (.tmp 36) rfl s0 24 rfl (nums .i64 (List.replicate 24 0)).toArray rfl (by kernel_rfl) (nums_size _ _ _ NZ.out) (nums_one _ _) H8_6.out (by simp [nums]) ?_; intro we t_ gg_; have HE := Aside0.mk gg_; have HEB := Aside0.mk (t_.below HB6.out (by omega)); clear t_ gg_ H8_6 HB6 ))
    exact bodyPost_ret (results_ct rfl _ _ s0 42 (nums .i64 (List.replicate 24 0)).toArray (0, 0) _ rfl HE.out Try.underlying42 rfl (by rw [nums_size _ _ _ NZ.out]; kernel_rfl)) rfl ⟨rfl, HEB.out⟩
  have ER := Aside0.mk (show impl_EncodeInode.f ra = some (inodeBytes ra, 0) by unfold impl_EncodeInode.f; rw [if_pos hg])
  have hs0 : ((strOfNums (inodeBytes ra)).toList == (strOfNums l0).toList) = decide (inodeBytes ra = l0) := strOf_eq (inodeBytes_byt ra) HBY.out
  by_cases he : inodeBytes ra = l0
  case neg =>
    have hd : decI ra l0 = ((List.replicate 24 0), 21) := by unfold decI; rw [if_neg (fun h_ => he h_.2.2)]
    rw [hd] at h
    simp only [Prod.mk.injEq] at h
    obtain ⟨rfl, rfl⟩ := h
    clear hd
    rw [decide_eq_false he] at hs0
    clear hg he
    obtain ⟨rb, hrb⟩ : ∃ b, b = inodeBytes ra := ⟨_, rfl⟩
    rw [← hrb] at ER hs0
    clear hrb
    have EQ := Aside0.mk (show bytes_Equal.f rb l0 = some false by unfold bytes_Equal.f; rw [hs0])
    clear hs0
    go_enter Try.func55, Try.ntmps55
    go_wp2_with (first | ((with_reducible refine gate_dst (N := 8) rfl ?_); refine hx_alloc rfl 8 rfl 42 rfl Sz0 (.agg (nums .i64 (List.replicate 24 0)).toArray) (nums .i64 (List.replicate 24 0)).toArray Z42 rfl ?_; intro w1 s1 Ls1 Ss1 b_ g_; have H8 := Aside0.mk g_; have HB1 := Aside0.mk (below_then HB0.out HB0.out.size b_); clear b_ g_ HB0) | ((with_reducible refine gate_dst (N := 10) rfl ?_); refine hx_alloc rfl 10 rfl 42 rfl Ss1 (.agg (nums .i64 (List.replicate 24 0)).toArray) (nums .i64 (List.replicate 24 0)).toArray Z42 rfl ?_; intro w2 s2 Ls2 Ss2 b_ g_; have H10 := Aside0.mk g_; have HB2 := Aside0.mk (below_then HB1.out HB1.out.size b_); have H8_2 := Aside0.mk (blk_below H8.out b_); clear b_ g_ HB1 H8) | ((with_reducible refine gate_dst (N := 21) rfl ?_); refine goesV_ (some 21) rfl rfl Try.func56 (by kernel_rfl) rfl #[.slice A0 l0.length c0] rfl rfl (by (try simp only [List.map_toArray, List.map_cons, List.map_nil]); first | done | rfl) ?_; refine (impl_getInode.calls A0 c0 l0 ra _ (Kd.C_below HR0.out HB2.out) HC0.out EF.out).mono ?_; rintro e_ w3 ⟨rfl, b_⟩; refine ⟨_, rfl, ?_⟩; have HB3 := Aside0.mk (below_then HB2.out HB2.out.size b_); have H8_3 := Aside0.mk (blk_below H8_2.out b_); have H10_3 := Aside0.mk (blk_below H10.out b_); have hz_ := blk_lt H10_3.out; have hy_ := blk_lt H8_3.out; obtain ⟨s3, Ss3⟩ : ∃ s, Aside0 (w3.heap.size = s) := ⟨_, ⟨rfl⟩⟩; rw [Ss3.out] at hz_ hy_; clear b_ H8_2 H10 HB2) | ((with_reducible refine gate_dst (N := 11) rfl ?_); refine hx_alloc rfl 11 rfl 42 rfl Ss3 (.agg (nums .i64 (List.replicate 24 0)).toArray) (nums .i64 (List.replicate 24 0)).toArray Z42 rfl ?_; intro w4 s4 Ls4 Ss4 b_ g_; have HG4 := Aside0.mk g_; have HB4 := Aside0.mk (below_then HB3.out HB3.out.size b_); have H8_4 := Aside0.mk (blk_below H8_3.out b_); have H10_4 := Aside0.mk (blk_below H10_3.out b_); clear b_ g_ HB3 H8_3 H10_3) | ((with_reducible refine gate_store (t := 42) (p := 11) (v := .tmp 21) rfl ?_); refine hx_store rfl rfl 42 (.tmp 11) (.tmp 21) rfl s3 24 rfl (nums .i64 ra).toArray rfl (by kernel_rfl) (nums_size _ _ _ NL.out) (nums_one _ _) HG4.out (by simp [nums]) ?_; intro w5 t_ gg_; have HG5 := Aside0.mk gg_; have H8_5 := Aside0.mk (t_.keep (show s0 ≠ s3 by omega) H8_4.out); have H10_5 := Aside0.mk (t_.keep (show s1 ≠ s3 by omega) H10_4.out); have HB5 := Aside0.mk (t_.below HB4.out (by omega)); clear t_ gg_ HG4 HB4 H8_4 H10_4) | ((with_reducible refine gate_dst (N := 24) rfl ?_); refine hx_load rfl 42 (.tmp 11) rfl s3 24 rfl Try.underlying42 rfl (by kernel_rfl) HG5.out (nums_size _ _ _ NL.out) ?_) | ((with_reducible refine gate_dst (N := 25) rfl ?_); refine goesV_ (some 25) rfl rfl Try.func23 (by kernel_rfl) rfl #[.agg (nums .i64 ra).toArray] rfl rfl (by (try simp only [List.map_toArray, List.map_cons, List.map_nil]); first | done | rfl) ?_; refine (impl_EncodeInode.calls ra NL.out rb 0 _ ER.out).mono ?_; rintro e_ w6 ⟨v0_, rfl, R_, b_⟩; obtain ⟨Ab, cb, rfl⟩ := Kd.R_slice R_; refine ⟨_, rfl, ?_⟩; have HG6 := Aside0.mk (blk_below HG5.out b_); have H8_6 := Aside0.mk (blk_below H8_5.out b_); have H10_6 := Aside0.mk (blk_below H10_5.out b_); have HB6 := Aside0.mk (below_then HB5.out HB5.out.size b_); have RR := Aside0.mk (Kd.R_reads' R_); clear b_ R_ HG5 H8_5 H10_5 HB5) | (go_at_call 75; (with_reducible refine (bytes_Equal.calls Ab cb rb A0 c0 l0 false _ RR.out.2.2 RR.out.2.1 (Kd.C_below HR0.out HB6.out) HC0.out EQ.out).mono ?_); rintro e_ w7 ⟨rfl, d_⟩; have b_ := kept_drawn d_; have HG7 := Aside0.mk (blk_below HG6.out b_); have H8_7 := Aside0.mk (blk_below H8_6.out b_); have H10_7 := Aside0.mk (blk_below H10_6.out b_); have HB7 := Aside0.mk (below_then HB6.out HB6.out.size b_); clear b_ d_ HG6 H8_6 H10_6 HB6) | ((with_reducible refine gate_dst (N := 36) rfl ?_); refine hx_load rfl 42 (.tmp 10) rfl s1 24 rfl Try.underlying42 rfl (by kernel_rfl) H10_7.out (nums_size _ _ _ NZ.out) ?_) | ((with_reducible refine gate_store (t := 42) (p := 8) (v := .tmp 36) rfl ?_); refine hx_store rfl rfl 42 (.tmp 8) (.tmp 36) rfl s0 24 rfl (nums .i64 (List.replicate 24 0)).toArray rfl (by kernel_rfl) (nums_size _ _ _ NZ.out) (nums_one _ _) H8_7.out (by simp [nums]) ?_; intro we t_ gg_; have HE := Aside0.mk gg_; have HEB := Aside0.mk (t_.below HB7.out (by omega)); clear t_ gg_ H8_7 HB7 ))
    exact bodyPost_ret (results_ct rfl _ _ s0 42 (nums .i64 (List.replicate 24 0)).toArray (0, 0) _ rfl HE.out Try.underlying42 rfl (by rw [nums_size _ _ _ NZ.out]; kernel_rfl)) rfl ⟨rfl, HEB.out⟩
  have hd : decI ra l0 = (ra, 0) := by unfold decI; rw [if_pos ⟨HL.out, hg, he⟩]
  rw [hd] at h
  simp only [Prod.mk.injEq] at h
  obtain ⟨rfl, rfl⟩ := h
  rw [decide_eq_true he] at hs0
  clear hd
  clear hg he
  obtain ⟨rb, hrb⟩ : ∃ b, b = inodeBytes ra := ⟨_, rfl⟩
  rw [← hrb] at ER hs0
  clear hrb
  have EQ := Aside0.mk (show bytes_Equal.f rb l0 = some true by unfold bytes_Equal.f; rw [hs0])
  clear hs0
  go_enter Try.func55, Try.ntmps55
  go_wp2_with (first | ((with_reducible refine gate_dst (N := 8) rfl ?_); refine hx_alloc rfl 8 rfl 42 rfl Sz0 (.agg (nums .i64 (List.replicate 24 0)).toArray) (nums .i64 (List.replicate 24 0)).toArray Z42 rfl ?_; intro w1 s1 Ls1 Ss1 b_ g_; have H8 := Aside0.mk g_; have HB1 := Aside0.mk (below_then HB0.out HB0.out.size b_); clear b_ g_ HB0) | ((with_reducible refine gate_dst (N := 10) rfl ?_); refine hx_alloc rfl 10 rfl 42 rfl Ss1 (.agg (nums .i64 (List.replicate 24 0)).toArray) (nums .i64 (List.replicate 24 0)).toArray Z42 rfl ?_; intro w2 s2 Ls2 Ss2 b_ g_; have H10 := Aside0.mk g_; have HB2 := Aside0.mk (below_then HB1.out HB1.out.size b_); have H8_2 := Aside0.mk (blk_below H8.out b_); clear b_ g_ HB1 H8) | ((with_reducible refine gate_dst (N := 21) rfl ?_); refine goesV_ (some 21) rfl rfl Try.func56 (by kernel_rfl) rfl #[.slice A0 l0.length c0] rfl rfl (by (try simp only [List.map_toArray, List.map_cons, List.map_nil]); first | done | rfl) ?_; refine (impl_getInode.calls A0 c0 l0 ra _ (Kd.C_below HR0.out HB2.out) HC0.out EF.out).mono ?_; rintro e_ w3 ⟨rfl, b_⟩; refine ⟨_, rfl, ?_⟩; have HB3 := Aside0.mk (below_then HB2.out HB2.out.size b_); have H8_3 := Aside0.mk (blk_below H8_2.out b_); have H10_3 := Aside0.mk (blk_below H10.out b_); have hz_ := blk_lt H10_3.out; have hy_ := blk_lt H8_3.out; obtain ⟨s3, Ss3⟩ : ∃ s, Aside0 (w3.heap.size = s) := ⟨_, ⟨rfl⟩⟩; rw [Ss3.out] at hz_ hy_; clear b_ H8_2 H10 HB2) | ((with_reducible refine gate_dst (N := 11) rfl ?_); refine hx_alloc rfl 11 rfl 42 rfl Ss3 (.agg (nums .i64 (List.replicate 24 0)).toArray) (nums .i64 (List.replicate 24 0)).toArray Z42 rfl ?_; intro w4 s4 Ls4 Ss4 b_ g_; have HG4 := Aside0.mk g_; have HB4 := Aside0.mk (below_then HB3.out HB3.out.size b_); have H8_4 := Aside0.mk (blk_below H8_3.out b_); have H10_4 := Aside0.mk (blk_below H10_3.out b_); clear b_ g_ HB3 H8_3 H10_3) | ((with_reducible refine gate_store (t := 42) (p := 11) (v := .tmp 21) rfl ?_); refine hx_store rfl rfl 42 (.tmp 11) (.tmp 21) rfl s3 24 rfl (nums .i64 ra).toArray rfl (by kernel_rfl) (nums_size _ _ _ NL.out) (nums_one _ _) HG4.out (by simp [nums]) ?_; intro w5 t_ gg_; have HG5 := Aside0.mk gg_; have H8_5 := Aside0.mk (t_.keep (show s0 ≠ s3 by omega) H8_4.out); have H10_5 := Aside0.mk (t_.keep (show s1 ≠ s3 by omega) H10_4.out); have HB5 := Aside0.mk (t_.below HB4.out (by omega)); clear t_ gg_ HG4 HB4 H8_4 H10_4) | ((with_reducible refine gate_dst (N := 24) rfl ?_); refine hx_load rfl 42 (.tmp 11) rfl s3 24 rfl Try.underlying42 rfl (by kernel_rfl) HG5.out (nums_size _ _ _ NL.out) ?_) | ((with_reducible refine gate_dst (N := 25) rfl ?_); refine goesV_ (some 25) rfl rfl Try.func23 (by kernel_rfl) rfl #[.agg (nums .i64 ra).toArray] rfl rfl (by (try simp only [List.map_toArray, List.map_cons, List.map_nil]); first | done | rfl) ?_; refine (impl_EncodeInode.calls ra NL.out rb 0 _ ER.out).mono ?_; rintro e_ w6 ⟨v0_, rfl, R_, b_⟩; obtain ⟨Ab, cb, rfl⟩ := Kd.R_slice R_; refine ⟨_, rfl, ?_⟩; have HG6 := Aside0.mk (blk_below HG5.out b_); have H8_6 := Aside0.mk (blk_below H8_5.out b_); have H10_6 := Aside0.mk (blk_below H10_5.out b_); have HB6 := Aside0.mk (below_then HB5.out HB5.out.size b_); have RR := Aside0.mk (Kd.R_reads' R_); clear b_ R_ HG5 H8_5 H10_5 HB5) | (go_at_call 75; (with_reducible refine (bytes_Equal.calls Ab cb rb A0 c0 l0 true _ RR.out.2.2 RR.out.2.1 (Kd.C_below HR0.out HB6.out) HC0.out EQ.out).mono ?_); rintro e_ w7 ⟨rfl, d_⟩; have b_ := kept_drawn d_; have HG7 := Aside0.mk (blk_below HG6.out b_); have H8_7 := Aside0.mk (blk_below H8_6.out b_); have H10_7 := Aside0.mk (blk_below H10_6.out b_); have HB7 := Aside0.mk (below_then HB6.out HB6.out.size b_); clear b_ d_ HG6 H8_6 H10_6 HB6) | ((with_reducible refine gate_dst (N := 37) rfl ?_); refine hx_load rfl 42 (.tmp 11) rfl s3 24 rfl Try.underlying42 rfl (by kernel_rfl) HG7.out (nums_size _ _ _ NL.out) ?_) | ((with_reducible refine gate_store (t := 42) (p := 8) (v := .tmp 37) rfl ?_); refine hx_store rfl rfl 42 (.tmp 8) (.tmp 37) rfl s0 24 rfl (nums .i64 ra).toArray rfl (by kernel_rfl) (nums_size _ _ _ NL.out) (nums_one _ _) H8_7.out (by simp [nums]) ?_; intro we t_ gg_; have HE := Aside0.mk gg_; have HEB := Aside0.mk (t_.below HB7.out (by omega)); clear t_ gg_ H8_7 HB7 ))
  exact bodyPost_ret (results_ct rfl _ _ s0 42 (nums .i64 ra).toArray (0, 0) _ rfl HE.out Try.underlying42 rfl (by rw [nums_size _ _ _ NL.out]; kernel_rfl)) rfl ⟨rfl, HEB.out⟩

open Go.Proofs.YtkghgjehjchajaaW Go.Proofs.YtkghgjehjchajaaW.PrintHand Go.Proofs.YtkghgjehjchajaaW.PrintHx
/-! ### impl_DecodeInode: function 25 -/
open Go.Proofs.YtkghgjehjchajaaW.PrintLe Go.Proofs.YtkghgjehjchajaaW.PrintDec Go.Proofs.YtkghgjehjchajaaW.PrintIno
def impl_DecodeInode.f (l0 : List Int) : Option (List Int × Int) := if (∀ x ∈ l0, 0 ≤ x ∧ x ≤ 255) then some (decI (inodeB l0) l0) else none
set_option maxHeartbeats 8000000 in
set_option maxRecDepth 100000 in
theorem impl_DecodeInode.calls (A0 : Option Addr) (c0 : Nat) (l0 : List Int) (r1 : List Int) (r2 : Int) (w : World) (hr0 : Kd.C (Kd.int .u8) w A0 l0.length l0) (hc0 : l0.length ≤ c0) (h : impl_DecodeInode.f l0 = some (r1, r2)) :
    Calls Try.prog 25 #[.slice A0 l0.length c0] w fun e w' => e = .returned (.tuple #[.agg (nums .i64 r1).toArray, .int .i64 r2]) ∧ Below w.heap.size w w' := by
  have hw_ : r1.length = 24 := by
    unfold impl_DecodeInode.f at h
    split at h
    · obtain rfl := congrArg Prod.fst (Option.some.inj h)
      unfold decI
      split
      · exact (show (inodeB l0).length = 24 from inodeB_length l0)
      · simp
    · cases h
  have HD := Aside0.mk (show impl_Inode.f l0 = some (r1, r2) from h)
  have NL := Aside0.mk hw_
  have HR0 := Aside0.mk hr0
  have HC0 := Aside0.mk hc0
  clear h hw_ hr0 hc0
  have Z42 : ∀ w, (zeroValue 42).run Try.prog w = .ok (.agg (nums .i64 (List.replicate 24 0)).toArray) w := fun _ => by kernel_rfl
  have HB0 : Aside0 (Below w.heap.size w w) := ⟨Below.refl _ _⟩
  obtain ⟨s0, Sz0⟩ : ∃ s0, Aside0 (w.heap.size = s0) := ⟨_, ⟨rfl⟩⟩
  have hw0 : w.heap.size ≤ s0 := Nat.le_of_eq Sz0.out
  have hw1 : s0 ≤ w.heap.size := Nat.le_of_eq Sz0.out.symm
  go_enter Try.func25, Try.ntmps25
  go_wp2_with (first | ((with_reducible refine gate_dst (N := 2) rfl ?_); refine hx_alloc rfl 2 rfl 42 rfl Sz0 (.agg (nums .i64 (List.replicate 24 0)).toArray) (nums .i64 (List.replicate 24 0)).toArray Z42 rfl ?_; intro w1 s1 Ls1 Ss1 b_ g_; have H2 := Aside0.mk g_; have HB1 := Aside0.mk (below_then HB0.out HB0.out.size b_); clear b_ g_ HB0) | ((with_reducible refine gate_dst (N := 5) rfl ?_); refine goesL_ (some 5) rfl rfl Try.func55 (by kernel_rfl) rfl #[.slice A0 l0.length c0, .int .i64 128, .func (.func 56) #[] #[], .func (.func 23) #[] #[]] rfl (by (try simp only [List.map_toArray, List.map_cons, List.map_nil]); first | done | rfl) ?_; refine (impl_Inode.calls A0 c0 l0 r1 r2 _ (Kd.C_below HR0.out HB1.out) HC0.out HD.out).mono ?_; rintro e_ w2 ⟨rfl, b_⟩; refine ⟨_, rfl, ?_⟩; have HB2 := Aside0.mk (below_then HB1.out HB1.out.size b_); have H2_2 := Aside0.mk (blk_below H2.out b_); clear b_ H2 HB1) | ((with_reducible refine gate_store (t := 42) (p := 2) (v := .tmp 6) rfl ?_); refine hx_store rfl rfl 42 (.tmp 2) (.tmp 6) rfl s0 24 rfl (nums .i64 r1).toArray rfl (by kernel_rfl) (nums_size _ _ _ NL.out) (nums_one _ _) H2_2.out (by simp [nums]) ?_; intro we t_ gg_; have HE := Aside0.mk gg_; have HEB := Aside0.mk (t_.below HB2.out (by omega)); clear t_ gg_ H2_2 HB2 ))
  exact bodyPost_ret (results_ct rfl _ _ s0 42 (nums .i64 r1).toArray (0, 0) _ rfl HE.out Try.underlying42 rfl (by rw [nums_size _ _ _ NL.out]; kernel_rfl)) rfl ⟨rfl, HEB.out⟩

open Go.Proofs.YtkghgjehjchajaaW Go.Proofs.YtkghgjehjchajaaW.PrintHand Go.Proofs.YtkghgjehjchajaaW.PrintHx
/-! ### laws_eqIntA12: function 49 -/
def laws_eqIntA12.f (a0 a1 : List Int) : Option Bool := if a0 = a1 then some true else none
set_option maxHeartbeats 4000000 in
theorem laws_eqIntA12.calls (a0 : List Int) (n0 : a0.length = 12) (a1 : List Int) (n1 : a1.length = 12) (r : Bool) (w : World) (h : laws_eqIntA12.f a0 a1 = some r) :
    Calls Try.prog 49 #[.agg (nums .i64 a0).toArray, .agg (nums .i64 a1).toArray] w fun e w' => e = .returned (.bool r) ∧ Below w.heap.size w w' := by
  unfold laws_eqIntA12.f at h
  by_cases he : a0 = a1
  case neg => rw [if_neg he] at h; cases h
  rw [if_pos he] at h
  obtain rfl := Option.some.inj h
  subst he
  have N_ := Aside0.mk n0
  clear n0 n1 h
  have HB0 : Aside0 (Below w.heap.size w w) := ⟨Below.refl _ _⟩
  obtain ⟨s0, Sz0⟩ : ∃ s0, Aside0 (w.heap.size = s0) := ⟨_, ⟨rfl⟩⟩
  go_enter Try.func49, Try.ntmps49
  go_wp2_with (first | ((with_reducible refine gate_dst (N := 2) rfl ?_); refine hx_box rfl 2 rfl 22 (.tmp 0) rfl Sz0 (.agg (nums .i64 a0).toArray) (nums .i64 a0).toArray rfl rfl ?_; intro w1 s1 L1 Sz1 b1 g_; have H0 := Aside0.mk g_; have HB1 := Aside0.mk (below_then HB0.out HB0.out.size b1); clear g_ HB0 b1) | ((with_reducible refine gate_dst (N := 3) rfl ?_); refine hx_box rfl 3 rfl 22 (.tmp 1) rfl Sz1 (.agg (nums .i64 a0).toArray) (nums .i64 a0).toArray rfl rfl ?_; intro w2 s2 L2 Sz2 b2 g_; have H1 := Aside0.mk g_; have H0 := Aside0.mk (blk_below H0.out b2); have HB2 := Aside0.mk (below_then HB1.out HB1.out.size b2); clear g_ HB1 b2))
  (try simp only [Act.put, List.setIfInBounds_toArray, List.set_cons_succ, List.set_cons_zero])
  go_loopw [5] (fun i wr => ∃ k : Nat, k ≤ 12 ∧ i = .int .i64 (k : Int) ∧ Aside0 (Below w.heap.size w wr) ∧ Aside0 (wr.heap[s0]? = some (.cells (nums .i64 a0).toArray 22 (0, 0))) ∧ Aside0 (wr.heap[s1]? = some (.cells (nums .i64 a0).toArray 22 (0, 0)))) (fun i _ => 12 - (intOf i).toNat)
  case atStart => exact ⟨0, by omega, rfl, HB2, H0, H1⟩
  case round =>
    obtain ⟨k, hk, rfl, hB, h0, h1⟩ := hrel
    by_cases hlt : k < 12
    · have c0 := row_cell h0.out k (by rw [N_.out]; exact hlt)
      have c1 := row_cell h1.out k (by rw [N_.out]; exact hlt)
      have hn : (a0.getD k 0 != a0.getD k 0) = false := by simp
      go_wp2
      go_quiet (fail)
      go_wp2
      go_roundw
      case rel => exact ⟨k + 1, by omega, by go_num, ⟨pw_below_drewN hB.out _⟩, ⟨blk_drewN h0.out _⟩, ⟨blk_drewN h1.out _⟩⟩
      case measure => simp [intOf]; omega
    · obtain rfl : k = 12 := by omega
      go_wp2
      go_ret
      exact ⟨rfl, hB.out⟩

open Go.Proofs.YtkghgjehjchajaaW Go.Proofs.YtkghgjehjchajaaW.PrintHand Go.Proofs.YtkghgjehjchajaaW.PrintHx
/-! ### laws_eqRoot: function 20 -/
def laws_eqRoot.f (a0 a1 : List Int) : Option Bool := if a0 = a1 then some true else none
set_option maxHeartbeats 8000000 in
set_option maxRecDepth 100000 in
theorem laws_eqRoot.calls (a0 : List Int) (n0 : a0.length = 15) (a1 : List Int) (n1 : a1.length = 15) (r : Bool) (w : World) (h : laws_eqRoot.f a0 a1 = some r) :
    Calls Try.prog 20 #[.agg (nums .i64 a0).toArray, .agg (nums .i64 a1).toArray] w fun e w' => e = .returned (.bool r) ∧ Below w.heap.size w w' := by
  unfold laws_eqRoot.f at h
  by_cases he : a0 = a1
  case neg => rw [if_neg he] at h; cases h
  rw [if_pos he] at h
  obtain rfl := Option.some.inj h
  subst he
  have N_ := Aside0.mk n0
  clear n0 n1 h
  have HB0 : Aside0 (Below w.heap.size w w) := ⟨Below.refl _ _⟩
  obtain ⟨s0, Sz0⟩ : ∃ s0, Aside0 (w.heap.size = s0) := ⟨_, ⟨rfl⟩⟩
  have hw0 : w.heap.size ≤ s0 := Nat.le_of_eq Sz0.out
  have hw1 : s0 ≤ w.heap.size := Nat.le_of_eq Sz0.out.symm
  go_enter Try.func20, Try.ntmps20
  go_wp2_with (first | ((with_reducible refine gate_dst (N := 2) rfl ?_); refine hx_box rfl 2 rfl 28 (.tmp 0) rfl Sz0 (.agg (nums .i64 a0).toArray) (nums .i64 a0).toArray rfl rfl ?_; intro w1 s1 L1 Sz1 b1 g_; have H2_1 := Aside0.mk g_; clear g_; have K0 := kept_below b1; have HB1 := Aside0.mk (below_then HB0.out HB0.out.size b1); clear b1; clear K0 HB0) | ((with_reducible refine gate_dst (N := 3) rfl ?_); refine hx_box rfl 3 rfl 28 (.tmp 1) rfl Sz1 (.agg (nums .i64 a0).toArray) (nums .i64 a0).toArray rfl rfl ?_; intro w2 s2 L2 Sz2 b2 g_; have H3_2 := Aside0.mk g_; clear g_; have K1 := kept_below b2; have HB2 := Aside0.mk (below_then HB1.out HB1.out.size b2); have H2_2 := Aside0.mk (blk_kept H2_1.out K1 (fun h_ => h_)); clear b2; clear K1 HB1 H2_1) | ((with_reducible refine gate_dst (N := 6) rfl ?_); refine hx_loadf rfl 3 (.tmp 5) rfl s0 0 rfl Try.underlying3 rfl H2_2.out (lt_len (n := 15) N_.out (by decide)) ?_) | ((with_reducible refine gate_dst (N := 8) rfl ?_); refine hx_loadf rfl 3 (.tmp 7) rfl s1 0 rfl Try.underlying3 rfl H3_2.out (lt_len (n := 15) N_.out (by decide)) ?_) | ((with_reducible refine gate_dst (N := 11) rfl ?_); refine hx_loadp rfl 22 (.tmp 10) rfl s0 1 12 rfl Try.underlying22 rfl (by kernel_rfl) H2_2.out (le_len (n := 15) N_.out (by decide)) ?_) | ((with_reducible refine gate_dst (N := 13) rfl ?_); refine hx_loadp rfl 22 (.tmp 12) rfl s1 1 12 rfl Try.underlying22 rfl (by kernel_rfl) H3_2.out (le_len (n := 15) N_.out (by decide)) ?_) | ((with_reducible refine gate_dst (N := 14) rfl ?_); refine goesL_ (some 14) rfl rfl Try.func49 (by kernel_rfl) rfl #[.agg (nums .i64 (seg a0 1 12)).toArray, .agg (nums .i64 (seg a0 1 12)).toArray] rfl (by (try simp only [List.map_toArray, List.map_cons, List.map_nil]); first | done | rfl) ?_; refine (laws_eqIntA12.calls _ (part_len (n := 15) N_.out (by decide)) _ (part_len (n := 15) N_.out (by decide)) _ _ (if_pos rfl)).mono ?_; rintro e_ w3 ⟨rfl, b3⟩; refine ⟨_, rfl, ?_⟩; obtain ⟨s3, L3, Sz3⟩ := size_letter Sz2 (kept_below b3); have K2 := kept_below b3; have HB3 := Aside0.mk (below_then HB2.out HB2.out.size b3); have H2_3 := Aside0.mk (blk_kept H2_2.out K2 (fun h_ => h_)); have H3_3 := Aside0.mk (blk_kept H3_2.out K2 (fun h_ => h_)); clear b3; clear K2 HB2 H2_2 H3_2) | ((with_reducible refine gate_dst (N := 17) rfl ?_); refine hx_loadf rfl 3 (.tmp 16) rfl s0 13 rfl Try.underlying3 rfl H2_3.out (lt_len (n := 15) N_.out (by decide)) ?_) | ((with_reducible refine gate_dst (N := 19) rfl ?_); refine hx_loadf rfl 3 (.tmp 18) rfl s1 13 rfl Try.underlying3 rfl H3_3.out (lt_len (n := 15) N_.out (by decide)) ?_) | ((with_reducible refine gate_dst (N := 22) rfl ?_); refine hx_loadf rfl 3 (.tmp 21) rfl s0 14 rfl Try.underlying3 rfl H2_3.out (lt_len (n := 15) N_.out (by decide)) ?_) | ((with_reducible refine gate_dst (N := 24) rfl ?_); refine hx_loadf rfl 3 (.tmp 23) rfl s1 14 rfl Try.underlying3 rfl H3_3.out (lt_len (n := 15) N_.out (by decide)) ?_))
  go_ret
  exact ⟨rfl, HB3.out⟩

open Go.Proofs.YtkghgjehjchajaaW Go.Proofs.YtkghgjehjchajaaW.PrintHand Go.Proofs.YtkghgjehjchajaaW.PrintHx
/-! ### laws_eqInode: function 26 -/
def laws_eqInode.f (a0 a1 : List Int) : Option Bool := if a0 = a1 then some true else none
set_option maxHeartbeats 8000000 in
set_option maxRecDepth 100000 in
theorem laws_eqInode.calls (a0 : List Int) (n0 : a0.length = 24) (a1 : List Int) (n1 : a1.length = 24) (r : Bool) (w : World) (h : laws_eqInode.f a0 a1 = some r) :
    Calls Try.prog 26 #[.agg (nums .i64 a0).toArray, .agg (nums .i64 a1).toArray] w fun e w' => e = .returned (.bool r) ∧ Below w.heap.size w w' := by
  unfold laws_eqInode.f at h
  by_cases he : a0 = a1
  case neg => rw [if_neg he] at h; cases h
  rw [if_pos he] at h
  obtain rfl := Option.some.inj h
  subst he
  have N_ := Aside0.mk n0
  clear n0 n1 h
  have HB0 : Aside0 (Below w.heap.size w w) := ⟨Below.refl _ _⟩
  obtain ⟨s0, Sz0⟩ : ∃ s0, Aside0 (w.heap.size = s0) := ⟨_, ⟨rfl⟩⟩
  have hw0 : w.heap.size ≤ s0 := Nat.le_of_eq Sz0.out
  have hw1 : s0 ≤ w.heap.size := Nat.le_of_eq Sz0.out.symm
  go_enter Try.func26, Try.ntmps26
  go_wp2_with (first | ((with_reducible refine gate_dst (N := 2) rfl ?_); refine hx_box rfl 2 rfl 42 (.tmp 0) rfl Sz0 (.agg (nums .i64 a0).toArray) (nums .i64 a0).toArray rfl rfl ?_; intro w1 s1 L1 Sz1 b1 g_; have H2_1 := Aside0.mk g_; clear g_; have K0 := kept_below b1; have HB1 := Aside0.mk (below_then HB0.out HB0.out.size b1); clear b1; clear K0 HB0) | ((with_reducible refine gate_dst (N := 3) rfl ?_); refine hx_box rfl 3 rfl 42 (.tmp 1) rfl Sz1 (.agg (nums .i64 a0).toArray) (nums .i64 a0).toArray rfl rfl ?_; intro w2 s2 L2 Sz2 b2 g_; have H3_2 := Aside0.mk g_; clear g_; have K1 := kept_below b2; have HB2 := Aside0.mk (below_then HB1.out HB1.out.size b2); have H2_2 := Aside0.mk (blk_kept H2_1.out K1 (fun h_ => h_)); clear b2; clear K1 HB1 H2_1) | ((with_reducible refine gate_dst (N := 6) rfl ?_); refine hx_loadf rfl 3 (.tmp 5) rfl s0 0 rfl Try.underlying3 rfl H2_2.out (lt_len (n := 24) N_.out (by decide)) ?_) | ((with_reducible refine gate_dst (N := 8) rfl ?_); refine hx_loadf rfl 3 (.tmp 7) rfl s1 0 rfl Try.underlying3 rfl H3_2.out (lt_len (n := 24) N_.out (by decide)) ?_) | ((with_reducible refine gate_dst (N := 11) rfl ?_); refine hx_loadf rfl 3 (.tmp 10) rfl s0 1 rfl Try.underlying3 rfl H2_2.out (lt_len (n := 24) N_.out (by decide)) ?_) | ((with_reducible refine gate_dst (N := 13) rfl ?_); refine hx_loadf rfl 3 (.tmp 12) rfl s1 1 rfl Try.underlying3 rfl H3_2.out (lt_len (n := 24) N_.out (by decide)) ?_) | ((with_reducible refine gate_dst (N := 16) rfl ?_); refine hx_loadf rfl 3 (.tmp 15) rfl s0 2 rfl Try.underlying3 rfl H2_2.out (lt_len (n := 24) N_.out (by decide)) ?_) | ((with_reducible refine gate_dst (N := 18) rfl ?_); refine hx_loadf rfl 3 (.tmp 17) rfl s1 2 rfl Try.underlying3 rfl H3_2.out (lt_len (n := 24) N_.out (by decide)) ?_) | ((with_reducible refine gate_dst (N := 21) rfl ?_); refine hx_loadf rfl 3 (.tmp 20) rfl s0 3 rfl Try.underlying3 rfl H2_2.out (lt_len (n := 24) N_.out (by decide)) ?_) | ((with_reducible refine gate_dst (N := 23) rfl ?_); refine hx_loadf rfl 3 (.tmp 22) rfl s1 3 rfl Try.underlying3 rfl H3_2.out (lt_len (n := 24) N_.out (by decide)) ?_) | ((with_reducible refine gate_dst (N := 26) rfl ?_); refine hx_loadf rfl 3 (.tmp 25) rfl s0 4 rfl Try.underlying3 rfl H2_2.out (lt_len (n := 24) N_.out (by decide)) ?_) | ((with_reducible refine gate_dst (N := 28) rfl ?_); refine hx_loadf rfl 3 (.tmp 27) rfl s1 4 rfl Try.underlying3 rfl H3_2.out (lt_len (n := 24) N_.out (by decide)) ?_) | ((with_reducible refine gate_dst (N := 31) rfl ?_); refine hx_loadf rfl 3 (.tmp 30) rfl s0 5 rfl Try.underlying3 rfl H2_2.out (lt_len (n := 24) N_.out (by decide)) ?_) | ((with_reducible refine gate_dst (N := 33) rfl ?_); refine hx_loadf rfl 3 (.tmp 32) rfl s1 5 rfl Try.underlying3 rfl H3_2.out (lt_len (n := 24) N_.out (by decide)) ?_) | ((with_reducible refine gate_dst (N := 36) rfl ?_); refine hx_loadf rfl 3 (.tmp 35) rfl s0 6 rfl Try.underlying3 rfl H2_2.out (lt_len (n := 24) N_.out (by decide)) ?_) | ((with_reducible refine gate_dst (N := 38) rfl ?_); refine hx_loadf rfl 3 (.tmp 37) rfl s1 6 rfl Try.underlying3 rfl H3_2.out (lt_len (n := 24) N_.out (by decide)) ?_) | ((with_reducible refine gate_dst (N := 41) rfl ?_); refine hx_loadf rfl 3 (.tmp 40) rfl s0 7 rfl Try.underlying3 rfl H2_2.out (lt_len (n := 24) N_.out (by decide)) ?_) | ((with_reducible refine gate_dst (N := 43) rfl ?_); refine hx_loadf rfl 3 (.tmp 42) rfl s1 7 rfl Try.underlying3 rfl H3_2.out (lt_len (n := 24) N_.out (by decide)) ?_) | ((with_reducible refine gate_dst (N := 46) rfl ?_); refine hx_loadf rfl 3 (.tmp 45) rfl s0 8 rfl Try.underlying3 rfl H2_2.out (lt_len (n := 24) N_.out (by decide)) ?_) | ((with_reducible refine gate_dst (N := 48) rfl ?_); refine hx_loadf rfl 3 (.tmp 47) rfl s1 8 rfl Try.underlying3 rfl H3_2.out (lt_len (n := 24) N_.out (by decide)) ?_) | ((with_reducible refine gate_dst (N := 51) rfl ?_); refine hx_loadp rfl 28 (.tmp 50) rfl s0 9 15 rfl Try.underlying28 rfl (by kernel_rfl) H2_2.out (le_len (n := 24) N_.out (by decide)) ?_) | ((with_reducible refine gate_dst (N := 53) rfl ?_); refine hx_loadp rfl 28 (.tmp 52) rfl s1 9 15 rfl Try.underlying28 rfl (by kernel_rfl) H3_2.out (le_len (n := 24) N_.out (by decide)) ?_) | ((with_reducible refine gate_dst (N := 54) rfl ?_); refine goesL_ (some 54) rfl rfl Try.func20 (by kernel_rfl) rfl #[.agg (nums .i64 (seg a0 9 15)).toArray, .agg (nums .i64 (seg a0 9 15)).toArray] rfl (by (try simp only [List.map_toArray, List.map_cons, List.map_nil]); first | done | rfl) ?_; refine (laws_eqRoot.calls _ (part_len (n := 24) N_.out (by decide)) _ (part_len (n := 24) N_.out (by decide)) _ _ (if_pos rfl)).mono ?_; rintro e_ w3 ⟨rfl, b3⟩; refine ⟨_, rfl, ?_⟩; obtain ⟨s3, L3, Sz3⟩ := size_letter Sz2 (kept_below b3); have K2 := kept_below b3; have HB3 := Aside0.mk (below_then HB2.out HB2.out.size b3); have H2_3 := Aside0.mk (blk_kept H2_2.out K2 (fun h_ => h_)); have H3_3 := Aside0.mk (blk_kept H3_2.out K2 (fun h_ => h_)); clear b3; clear K2 HB2 H2_2 H3_2))
  go_ret
  exact ⟨rfl, HB3.out⟩

open Go.Proofs.YtkghgjehjchajaaW Go.Proofs.YtkghgjehjchajaaW.PrintHand Go.Proofs.YtkghgjehjchajaaW.PrintHx
/-! ### laws_FnExactDecodeInode: function 6 -/
def laws_FnExactDecodeInode.Facts (l0 : List Int) : Prop := (∃ (k : Nat), (¬ ((l0.length : Int) > 1048576) → (∃ (r1_0 : List Int) (r2_0 : List Int) (r2_1 : Int) (r3_0 : List Int) (r4_0 : List Int) (r6_0 : List Int), laws_toByteS.f k l0 = some r1_0 ∧ r2_0.length = 24 ∧ spec_DecodeInode.f r1_0 = some (r2_0, r2_1) ∧ laws_toByteS.f k l0 = some r3_0 ∧ r4_0.length = 24 ∧ impl_DecodeInode.f r3_0 = some (r4_0, r2_1) ∧ laws_eqInode.f r4_0 r2_0 = some true ∧ laws_toByteS.f k l0 = some r6_0 ∧ laws_eqByteS.f k r3_0 r6_0 = some true)))
def laws_FnExactDecodeInode.Pure : Prop := ∀ (l0 : List Int), (l0.length ≤ maxLen ∧ ∀ q134 ∈ l0, (Lit.int .u8 q134).wf = true) → laws_FnExactDecodeInode.Facts l0
set_option maxHeartbeats 8000000 in
set_option maxRecDepth 100000 in
theorem laws_FnExactDecodeInode.calls (A0 : Option Addr) (c0 : Nat) (l0 : List Int) (w : World) (hr0 : Kd.C (Kd.int .u8) w A0 l0.length l0) (hc0 : l0.length ≤ c0) (hf : laws_FnExactDecodeInode.Facts l0) :
    Calls Try.prog 6 #[.slice A0 l0.length c0] w fun e w' => e = .returned (.bool true) ∧ Below w.heap.size w w' := by
  have HR0 := Aside0.mk hr0; have HC0 := Aside0.mk hc0; clear hr0 hc0
  unfold laws_FnExactDecodeInode.Facts at hf
  have HB0 : Aside0 (Below w.heap.size w w) := ⟨Below.refl _ _⟩
  obtain ⟨s0, Sz0⟩ : ∃ s0, Aside0 (w.heap.size = s0) := ⟨_, ⟨rfl⟩⟩
  have hw0 : w.heap.size ≤ s0 := Nat.le_of_eq Sz0.out
  have hw1 : s0 ≤ w.heap.size := Nat.le_of_eq Sz0.out.symm
  have Z42 : ∀ w, (zeroValue 42).run Try.prog w = .ok (.agg (nums .i64 (List.replicate 24 0)).toArray) w := fun _ => by kernel_rfl
  obtain ⟨k, hf⟩ := hf
  by_cases g0_ : (l0.length : Int) > 1048576
  · clear hf
    (try (have g0__0 : decide (1048576 < (l0.length : Int)) = true := decide_eq_true g0_))
    (try (have g0__1 : decide (1048576 < l0.length) = true := decide_eq_true (by omega)))
    go_enter Try.func6, Try.ntmps6
    go_wp2
    go_ret
    exact ⟨rfl, HB0.out⟩
  replace hf := hf g0_
  (try (have g0__0 : decide (1048576 < (l0.length : Int)) = false := decide_eq_false g0_))
  (try (have g0__1 : decide (1048576 < l0.length) = false := decide_eq_false (by omega)))
  have G0_ := Aside0.mk g0_
  clear g0_
  obtain ⟨r1_0, r2_0, r2_1, r3_0, r4_0, r6_0, eE1_, eN2_0_, eE2_, eE3_, eN4_0_, eE4_, eE5_, eE6_, eE7_⟩ := hf
  have E1 := Aside0.mk eE1_
  clear eE1_
  have N2_0 := Aside0.mk eN2_0_
  clear eN2_0_
  have E2 := Aside0.mk eE2_
  clear eE2_
  have E3 := Aside0.mk eE3_
  clear eE3_
  have N4_0 := Aside0.mk eN4_0_
  clear eN4_0_
  have E4 := Aside0.mk eE4_
  clear eE4_
  have E5 := Aside0.mk eE5_
  clear eE5_
  have E6 := Aside0.mk eE6_
  clear eE6_
  have E7 := Aside0.mk eE7_
  clear eE7_
  go_enter Try.func6, Try.ntmps6
  go_wp2_with (first | ((with_reducible refine gate_dst (N := 13) rfl ?_); refine goesL_ (some 13) rfl rfl Try.func18 (by kernel_rfl) rfl #[.slice A0 l0.length c0] rfl (by (try simp only [List.map_toArray, List.map_cons, List.map_nil]); first | done | rfl) ?_; refine (laws_toByteS.calls _ _ _ _ _ _ (Kd.C_below HR0.out HB0.out) HC0.out E1.out).mono ?_; rintro e_ w1 ⟨v0_, rfl, R1_0, b1⟩; obtain ⟨A1_0, c1_0, rfl⟩ := Kd.R_slice R1_0; refine ⟨_, rfl, ?_⟩; obtain ⟨s1, L1, Sz1⟩ := size_letter Sz0 (kept_below b1); have O1_0_1 := own_btw R1_0 Sz0.out Sz1 HB0.out.size; clear R1_0; have K0 := kept_below b1; have HB1 := Aside0.mk (below_then HB0.out HB0.out.size b1); clear b1; clear K0 HB0) | ((with_reducible refine gate_dst (N := 14) rfl ?_); refine goesL_ (some 14) rfl rfl Try.func24 (by kernel_rfl) rfl #[.slice A1_0 r1_0.length c1_0] rfl (by (try simp only [List.map_toArray, List.map_cons, List.map_nil]); first | done | rfl) ?_; refine (spec_DecodeInode.calls _ _ _ _ _ _ (Kd.R_reads' O1_0_1.out).2.2 (Kd.R_reads' O1_0_1.out).2.1 E2.out).mono ?_; rintro e_ w2 ⟨rfl, b2⟩; refine ⟨_, rfl, ?_⟩; obtain ⟨s2, L2, Sz2⟩ := size_letter Sz1 (kept_below b2); have K1 := kept_below b2; have HB2 := Aside0.mk (below_then HB1.out HB1.out.size b2); have O1_0_2 := Aside0.mk (Kd.R_kept O1_0_1.out K1 (fun _ _ h_ => h_)); clear b2; clear K1 HB1 O1_0_1) | ((with_reducible refine gate_dst (N := 3) rfl ?_); refine hx_alloc rfl 3 rfl 42 rfl Sz2 (.agg (nums .i64 (List.replicate 24 0)).toArray) (nums .i64 (List.replicate 24 0)).toArray Z42 rfl ?_; intro w3 s3 L3 Sz3 b3 g_; have H3_3 := Aside0.mk g_; clear g_; have K2 := kept_below b3; have HB3 := Aside0.mk (below_then HB2.out HB2.out.size b3); have O1_0_3 := Aside0.mk (Kd.R_kept O1_0_2.out K2 (fun _ _ h_ => h_)); clear b3; clear K2 HB2 O1_0_2) | ((with_reducible refine gate_store (t := 42) (p := 3) (v := .tmp 15) rfl ?_); refine hx_store rfl rfl 42 (.tmp 3) (.tmp 15) rfl s2 24 rfl (nums .i64 r2_0).toArray rfl (by kernel_rfl) (nums_size _ _ _ N2_0.out) (nums_one _ _) H3_3.out (nums_size _ _ _ (by simp)) ?_; intro w4 t4 g4; have K3 := kept_touch t4; have HB4 := Aside0.mk (t4.below HB3.out (by omega)); have H3_4 := Aside0.mk g4; have O1_0_4 := Aside0.mk (Kd.R_kept O1_0_3.out K3 (fun k_ hk_ h_ => by have h1_ := hk_.1; have h2_ := hk_.2; have h3_ : k_ = _ := h_; omega)); have Sz4 := Aside0.mk (t4.size.trans Sz3.out); clear t4 g4; clear K3 HB3 H3_3 O1_0_3) | ((with_reducible refine gate_dst (N := 18) rfl ?_); refine goesL_ (some 18) rfl rfl Try.func18 (by kernel_rfl) rfl #[.slice A0 l0.length c0] rfl (by (try simp only [List.map_toArray, List.map_cons, List.map_nil]); first | done | rfl) ?_; refine (laws_toByteS.calls _ _ _ _ _ _ (Kd.C_below HR0.out HB4.out) HC0.out E3.out).mono ?_; rintro e_ w5 ⟨v0_, rfl, R3_0, b5⟩; obtain ⟨A3_0, c3_0, rfl⟩ := Kd.R_slice R3_0; refine ⟨_, rfl, ?_⟩; obtain ⟨s5, L5, Sz5⟩ := size_letter Sz4 (kept_below b5); have O3_0_5 := own_btw R3_0 Sz4.out Sz5 HB4.out.size; clear R3_0; have K4 := kept_below b5; have HB5 := Aside0.mk (below_then HB4.out HB4.out.size b5); have H3_5 := Aside0.mk (blk_kept H3_4.out K4 (fun h_ => h_)); have O1_0_5 := Aside0.mk (Kd.R_kept O1_0_4.out K4 (fun _ _ h_ => h_)); clear b5; clear K4 HB4 H3_4 O1_0_4) | ((with_reducible refine gate_dst (N := 21) rfl ?_); refine goesL_ (some 21) rfl rfl Try.func25 (by kernel_rfl) rfl #[.slice A3_0 r3_0.length c3_0] rfl (by (try simp only [List.map_toArray, List.map_cons, List.map_nil]); first | done | rfl) ?_; refine (impl_DecodeInode.calls _ _ _ _ _ _ (Kd.R_reads' O3_0_5.out).2.2 (Kd.R_reads' O3_0_5.out).2.1 E4.out).mono ?_; rintro e_ w6 ⟨rfl, b6⟩; refine ⟨_, rfl, ?_⟩; obtain ⟨s6, L6, Sz6⟩ := size_letter Sz5 (kept_below b6); have K5 := kept_below b6; have HB6 := Aside0.mk (below_then HB5.out HB5.out.size b6); have H3_6 := Aside0.mk (blk_kept H3_5.out K5 (fun h_ => h_)); have O1_0_6 := Aside0.mk (Kd.R_kept O1_0_5.out K5 (fun _ _ h_ => h_)); have O3_0_6 := Aside0.mk (Kd.R_kept O3_0_5.out K5 (fun _ _ h_ => h_)); clear b6; clear K5 HB5 H3_5 O1_0_5 O3_0_5) | ((with_reducible refine gate_dst (N := 6) rfl ?_); refine hx_alloc rfl 6 rfl 42 rfl Sz6 (.agg (nums .i64 (List.replicate 24 0)).toArray) (nums .i64 (List.replicate 24 0)).toArray Z42 rfl ?_; intro w7 s7 L7 Sz7 b7 g_; have H6_7 := Aside0.mk g_; clear g_; have K6 := kept_below b7; have HB7 := Aside0.mk (below_then HB6.out HB6.out.size b7); have H3_7 := Aside0.mk (blk_kept H3_6.out K6 (fun h_ => h_)); have O1_0_7 := Aside0.mk (Kd.R_kept O1_0_6.out K6 (fun _ _ h_ => h_)); have O3_0_7 := Aside0.mk (Kd.R_kept O3_0_6.out K6 (fun _ _ h_ => h_)); clear b7; clear K6 HB6 H3_6 O1_0_6 O3_0_6) | ((with_reducible refine gate_store (t := 42) (p := 6) (v := .tmp 22) rfl ?_); refine hx_store rfl rfl 42 (.tmp 6) (.tmp 22) rfl s6 24 rfl (nums .i64 r4_0).toArray rfl (by kernel_rfl) (nums_size _ _ _ N4_0.out) (nums_one _ _) H6_7.out (nums_size _ _ _ (by simp)) ?_; intro w8 t8 g8; have K7 := kept_touch t8; have HB8 := Aside0.mk (t8.below HB7.out (by omega)); have H3_8 := Aside0.mk (blk_kept H3_7.out K7 (by show ¬ (_ = _); omega)); have H6_8 := Aside0.mk g8; have O1_0_8 := Aside0.mk (Kd.R_kept O1_0_7.out K7 (fun k_ hk_ h_ => by have h1_ := hk_.1; have h2_ := hk_.2; have h3_ : k_ = _ := h_; omega)); have O3_0_8 := Aside0.mk (Kd.R_kept O3_0_7.out K7 (fun k_ hk_ h_ => by have h1_ := hk_.1; have h2_ := hk_.2; have h3_ : k_ = _ := h_; omega)); have Sz8 := Aside0.mk (t8.size.trans Sz7.out); clear t8 g8; clear K7 HB7 H3_7 H6_7 O1_0_7 O3_0_7) | ((with_reducible refine gate_dst (N := 24) rfl ?_); refine hx_load rfl 42 (.tmp 6) rfl s6 24 rfl Try.underlying42 rfl (by kernel_rfl) H6_8.out (nums_size _ _ _ N4_0.out) ?_) | ((with_reducible refine gate_dst (N := 25) rfl ?_); refine hx_load rfl 42 (.tmp 3) rfl s2 24 rfl Try.underlying42 rfl (by kernel_rfl) H3_8.out (nums_size _ _ _ N2_0.out) ?_) | ((with_reducible refine gate_dst (N := 26) rfl ?_); refine goesL_ (some 26) rfl rfl Try.func26 (by kernel_rfl) rfl #[.agg (nums .i64 r4_0).toArray, .agg (nums .i64 r2_0).toArray] rfl (by (try simp only [List.map_toArray, List.map_cons, List.map_nil]); first | done | rfl) ?_; refine (laws_eqInode.calls _ N4_0.out _ N2_0.out _ _ E5.out).mono ?_; rintro e_ w9 ⟨rfl, b9⟩; refine ⟨_, rfl, ?_⟩; obtain ⟨s9, L9, Sz9⟩ := size_letter Sz8 (kept_below b9); have K8 := kept_below b9; have HB9 := Aside0.mk (below_then HB8.out HB8.out.size b9); have H3_9 := Aside0.mk (blk_kept H3_8.out K8 (fun h_ => h_)); have H6_9 := Aside0.mk (blk_kept H6_8.out K8 (fun h_ => h_)); have O1_0_9 := Aside0.mk (Kd.R_kept O1_0_8.out K8 (fun _ _ h_ => h_)); have O3_0_9 := Aside0.mk (Kd.R_kept O3_0_8.out K8 (fun _ _ h_ => h_)); clear b9; clear K8 HB8 H3_8 H6_8 O1_0_8 O3_0_8) | ((with_reducible refine gate_dst (N := 35) rfl ?_); refine goesL_ (some 35) rfl rfl Try.func18 (by kernel_rfl) rfl #[.slice A0 l0.length c0] rfl (by (try simp only [List.map_toArray, List.map_cons, List.map_nil]); first | done | rfl) ?_; refine (laws_toByteS.calls _ _ _ _ _ _ (Kd.C_below HR0.out HB9.out) HC0.out E6.out).mono ?_; rintro e_ w10 ⟨v0_, rfl, R6_0, b10⟩; obtain ⟨A6_0, c6_0, rfl⟩ := Kd.R_slice R6_0; refine ⟨_, rfl, ?_⟩; obtain ⟨s10, L10, Sz10⟩ := size_letter Sz9 (kept_below b10); have O6_0_10 := own_btw R6_0 Sz9.out Sz10 HB9.out.size; clear R6_0; have K9 := kept_below b10; have HB10 := Aside0.mk (below_then HB9.out HB9.out.size b10); have H3_10 := Aside0.mk (blk_kept H3_9.out K9 (fun h_ => h_)); have H6_10 := Aside0.mk (blk_kept H6_9.out K9 (fun h_ => h_)); have O1_0_10 := Aside0.mk (Kd.R_kept O1_0_9.out K9 (fun _ _ h_ => h_)); have O3_0_10 := Aside0.mk (Kd.R_kept O3_0_9.out K9 (fun _ _ h_ => h_)); clear b10; clear K9 HB9 H3_9 H6_9 O1_0_9 O3_0_9) | ((with_reducible refine gate_dst (N := 36) rfl ?_); refine goesL_ (some 36) rfl rfl Try.func14 (by kernel_rfl) rfl #[.slice A3_0 r3_0.length c3_0, .slice A6_0 r6_0.length c6_0] rfl (by (try simp only [List.map_toArray, List.map_cons, List.map_nil]); first | done | rfl) ?_; refine (laws_eqByteS.calls _ _ _ _ _ _ _ _ _ (Kd.R_reads' O3_0_10.out).2.2 (Kd.R_reads' O3_0_10.out).2.1 (Kd.R_reads' O6_0_10.out).2.2 (Kd.R_reads' O6_0_10.out).2.1 E7.out).mono ?_; rintro e_ w11 ⟨rfl, b_⟩; have b11 := kept_drawn b_; refine ⟨_, rfl, ?_⟩; obtain ⟨s11, L11, Sz11⟩ := size_letter Sz10 (kept_below b11); have K10 := kept_below b11; have HB11 := Aside0.mk (below_then HB10.out HB10.out.size b11); have H3_11 := Aside0.mk (blk_kept H3_10.out K10 (fun h_ => h_)); have H6_11 := Aside0.mk (blk_kept H6_10.out K10 (fun h_ => h_)); have O1_0_11 := Aside0.mk (Kd.R_kept O1_0_10.out K10 (fun _ _ h_ => h_)); have O3_0_11 := Aside0.mk (Kd.R_kept O3_0_10.out K10 (fun _ _ h_ => h_)); have O6_0_11 := Aside0.mk (Kd.R_kept O6_0_10.out K10 (fun _ _ h_ => h_)); clear b11; clear K10 HB10 H3_10 H6_10 O1_0_10 O3_0_10 O6_0_10))
  go_ret
  exact ⟨rfl, HB11.out⟩

end Go.Proofs.Ytkghgjehjchajaa.PFnExactDecodeInode
