-- Written by a program of this session (patch_print.py over the kit print)
import Derived.Test.YtkghgjehjchajaaPFnExactDecodeRootx0
import Derived.Test.YtkghgjehjchajaaPFnExactDecodeRootx1
import Derived.Test.YtkghgjehjchajaaPFnExactDecodeRootx7
import Derived.Test.YtkghgjehjchajaaPFnExactDecodeRootx8
import Derived.Test.YtkghgjehjchajaaPFnExactDecodeRootx16
namespace Go.Proofs.Ytkghgjehjchajaa.PFnExactDecodeRoot
open Go.RowKit Go.Proofs.YtkghgjehjchajaaW.PrintWords Go.Proofs.YtkghgjehjchajaaW.PrintLast Go.Proofs.YtkghgjehjchajaaW.PrintMore
attribute [local go_sem] max2_int min2_int max_two min_two max_three min_three max_four min_four   -- for this text's walks alone
set_option linter.unusedVariables false
set_option linter.unusedSimpArgs false

open Go.Proofs.YtkghgjehjchajaaW Go.Proofs.YtkghgjehjchajaaW.PrintHand Go.Proofs.YtkghgjehjchajaaW.PrintHx
/-! ### laws_FnExactDecodeRoot: function 4 -/
def laws_FnExactDecodeRoot.Facts (l0 : List Int) : Prop := (∃ (k : Nat), (¬ ((l0.length : Int) > 1048576) → (∃ (r1_0 : List Int) (r2_0 : List Int) (r2_1 : Int) (r3_0 : List Int) (r4_0 : List Int) (r6_0 : List Int), laws_toByteS.f k l0 = some r1_0 ∧ r2_0.length = 15 ∧ spec_DecodeRoot.f r1_0 = some (r2_0, r2_1) ∧ laws_toByteS.f k l0 = some r3_0 ∧ r4_0.length = 15 ∧ impl_DecodeRoot.f r3_0 = some (r4_0, r2_1) ∧ laws_eqRoot.f r4_0 r2_0 = some true ∧ laws_toByteS.f k l0 = some r6_0 ∧ laws_eqByteS.f k r3_0 r6_0 = some true)))
def laws_FnExactDecodeRoot.Pure : Prop := ∀ (l0 : List Int), (l0.length ≤ maxLen ∧ ∀ q118 ∈ l0, (Lit.int .u8 q118).wf = true) → laws_FnExactDecodeRoot.Facts l0
set_option maxHeartbeats 8000000 in
set_option maxRecDepth 100000 in
theorem laws_FnExactDecodeRoot.calls (A0 : Option Addr) (c0 : Nat) (l0 : List Int) (w : World) (hr0 : Kd.C (Kd.int .u8) w A0 l0.length l0) (hc0 : l0.length ≤ c0) (hf : laws_FnExactDecodeRoot.Facts l0) :
    Calls Try.prog 4 #[.slice A0 l0.length c0] w fun e w' => e = .returned (.bool true) ∧ Below w.heap.size w w' := by
  have HR0 := Aside0.mk hr0; have HC0 := Aside0.mk hc0; clear hr0 hc0
  unfold laws_FnExactDecodeRoot.Facts at hf
  have HB0 : Aside0 (Below w.heap.size w w) := ⟨Below.refl _ _⟩
  obtain ⟨s0, Sz0⟩ : ∃ s0, Aside0 (w.heap.size = s0) := ⟨_, ⟨rfl⟩⟩
  have hw0 : w.heap.size ≤ s0 := Nat.le_of_eq Sz0.out
  have hw1 : s0 ≤ w.heap.size := Nat.le_of_eq Sz0.out.symm
  have Z28 : ∀ w, (zeroValue 28).run Try.prog w = .ok (.agg (nums .i64 (List.replicate 15 0)).toArray) w := fun _ => by kernel_rfl
  obtain ⟨k, hf⟩ := hf
  by_cases g0_ : (l0.length : Int) > 1048576
  · clear hf
    (try (have g0__0 : decide (1048576 < (l0.length : Int)) = true := decide_eq_true g0_))
    (try (have g0__1 : decide (1048576 < l0.length) = true := decide_eq_true (by omega)))
    go_enter Try.func4, Try.ntmps4
    go_wp2
    go_ret
    exact ⟨rfl, HB0.out⟩
  replace hf := hf g0_
  (try (have g0__0 : decide (1048576 < (l0.length : Int)) = false := decide_eq_false g0_))
  (try (have g0__1 : decide (1048576 < l0.length) = false := decide_eq_false (by omega)))
  have G0_ := Aside0.mk g0_
  clear g0_
  obtain ⟨r1_0, r2_0, r2_1, r3_0, r4_0, r6_0, eE1_, eN2_0_, eE2_, eE3_, eN4_0_, eE4_, eE5_, eE6_, eE7_⟩ := hf
  have E1 := Aside0.mk eE1_
  clear eE1_
  have N2_0 := Aside0.mk eN2_0_
  clear eN2_0_
  have E2 := Aside0.mk eE2_
  clear eE2_
  have E3 := Aside0.mk eE3_
  clear eE3_
  have N4_0 := Aside0.mk eN4_0_
  clear eN4_0_
  have E4 := Aside0.mk eE4_
  clear eE4_
  have E5 := Aside0.mk eE5_
  clear eE5_
  have E6 := Aside0.mk eE6_
  clear eE6_
  have E7 := Aside0.mk eE7_
  clear eE7_
  go_enter Try.func4, Try.ntmps4
  go_wp2_with (first | ((with_reducible refine gate_dst (N := 13) rfl ?_); refine goesL_ (some 13) rfl rfl Try.func18 (by kernel_rfl) rfl #[.slice A0 l0.length c0] rfl (by (try simp only [List.map_toArray, List.map_cons, List.map_nil]); first | done | rfl) ?_; refine (laws_toByteS.calls _ _ _ _ _ _ (Kd.C_below HR0.out HB0.out) HC0.out E1.out).mono ?_; rintro e_ w1 ⟨v0_, rfl, R1_0, b1⟩; obtain ⟨A1_0, c1_0, rfl⟩ := Kd.R_slice R1_0; refine ⟨_, rfl, ?_⟩; obtain ⟨s1, L1, Sz1⟩ := size_letter Sz0 (kept_below b1); have O1_0_1 := own_btw R1_0 Sz0.out Sz1 HB0.out.size; clear R1_0; have K0 := kept_below b1; have HB1 := Aside0.mk (below_then HB0.out HB0.out.size b1); clear b1; clear K0 HB0) | ((with_reducible refine gate_dst (N := 14) rfl ?_); refine goesL_ (some 14) rfl rfl Try.func17 (by kernel_rfl) rfl #[.slice A1_0 r1_0.length c1_0] rfl (by (try simp only [List.map_toArray, List.map_cons, List.map_nil]); first | done | rfl) ?_; refine (spec_DecodeRoot.calls _ _ _ _ _ _ (Kd.R_reads' O1_0_1.out).2.2 (Kd.R_reads' O1_0_1.out).2.1 E2.out).mono ?_; rintro e_ w2 ⟨rfl, b2⟩; refine ⟨_, rfl, ?_⟩; obtain ⟨s2, L2, Sz2⟩ := size_letter Sz1 (kept_below b2); have K1 := kept_below b2; have HB2 := Aside0.mk (below_then HB1.out HB1.out.size b2); have O1_0_2 := Aside0.mk (Kd.R_kept O1_0_1.out K1 (fun _ _ h_ => h_)); clear b2; clear K1 HB1 O1_0_1) | ((with_reducible refine gate_dst (N := 3) rfl ?_); refine hx_alloc rfl 3 rfl 28 rfl Sz2 (.agg (nums .i64 (List.replicate 15 0)).toArray) (nums .i64 (List.replicate 15 0)).toArray Z28 rfl ?_; intro w3 s3 L3 Sz3 b3 g_; have H3_3 := Aside0.mk g_; clear g_; have K2 := kept_below b3; have HB3 := Aside0.mk (below_then HB2.out HB2.out.size b3); have O1_0_3 := Aside0.mk (Kd.R_kept O1_0_2.out K2 (fun _ _ h_ => h_)); clear b3; clear K2 HB2 O1_0_2) | ((with_reducible refine gate_store (t := 28) (p := 3) (v := .tmp 15) rfl ?_); refine hx_store rfl rfl 28 (.tmp 3) (.tmp 15) rfl s2 15 rfl (nums .i64 r2_0).toArray rfl (by kernel_rfl) (nums_size _ _ _ N2_0.out) (nums_one _ _) H3_3.out (nums_size _ _ _ (by simp)) ?_; intro w4 t4 g4; have K3 := kept_touch t4; have HB4 := Aside0.mk (t4.below HB3.out (by omega)); have H3_4 := Aside0.mk g4; have O1_0_4 := Aside0.mk (Kd.R_kept O1_0_3.out K3 (fun k_ hk_ h_ => by have h1_ := hk_.1; have h2_ := hk_.2; have h3_ : k_ = _ := h_; omega)); have Sz4 := Aside0.mk (t4.size.trans Sz3.out); clear t4 g4; clear K3 HB3 H3_3 O1_0_3) | ((with_reducible refine gate_dst (N := 18) rfl ?_); refine goesL_ (some 18) rfl rfl Try.func18 (by kernel_rfl) rfl #[.slice A0 l0.length c0] rfl (by (try simp only [List.map_toArray, List.map_cons, List.map_nil]); first | done | rfl) ?_; refine (laws_toByteS.calls _ _ _ _ _ _ (Kd.C_below HR0.out HB4.out) HC0.out E3.out).mono ?_; rintro e_ w5 ⟨v0_, rfl, R3_0, b5⟩; obtain ⟨A3_0, c3_0, rfl⟩ := Kd.R_slice R3_0; refine ⟨_, rfl, ?_⟩; obtain ⟨s5, L5, Sz5⟩ := size_letter Sz4 (kept_below b5); have O3_0_5 := own_btw R3_0 Sz4.out Sz5 HB4.out.size; clear R3_0; have K4 := kept_below b5; have HB5 := Aside0.mk (below_then HB4.out HB4.out.size b5); have H3_5 := Aside0.mk (blk_kept H3_4.out K4 (fun h_ => h_)); have O1_0_5 := Aside0.mk (Kd.R_kept O1_0_4.out K4 (fun _ _ h_ => h_)); clear b5; clear K4 HB4 H3_4 O1_0_4) | ((with_reducible refine gate_dst (N := 21) rfl ?_); refine goesL_ (some 21) rfl rfl Try.func19 (by kernel_rfl) rfl #[.slice A3_0 r3_0.length c3_0] rfl (by (try simp only [List.map_toArray, List.map_cons, List.map_nil]); first | done | rfl) ?_; refine (impl_DecodeRoot.calls _ _ _ _ _ _ (Kd.R_reads' O3_0_5.out).2.2 (Kd.R_reads' O3_0_5.out).2.1 E4.out).mono ?_; rintro e_ w6 ⟨rfl, b6⟩; refine ⟨_, rfl, ?_⟩; obtain ⟨s6, L6, Sz6⟩ := size_letter Sz5 (kept_below b6); have K5 := kept_below b6; have HB6 := Aside0.mk (below_then HB5.out HB5.out.size b6); have H3_6 := Aside0.mk (blk_kept H3_5.out K5 (fun h_ => h_)); have O1_0_6 := Aside0.mk (Kd.R_kept O1_0_5.out K5 (fun _ _ h_ => h_)); have O3_0_6 := Aside0.mk (Kd.R_kept O3_0_5.out K5 (fun _ _ h_ => h_)); clear b6; clear K5 HB5 H3_5 O1_0_5 O3_0_5) | ((with_reducible refine gate_dst (N := 6) rfl ?_); refine hx_alloc rfl 6 rfl 28 rfl Sz6 (.agg (nums .i64 (List.replicate 15 0)).toArray) (nums .i64 (List.replicate 15 0)).toArray Z28 rfl ?_; intro w7 s7 L7 Sz7 b7 g_; have H6_7 := Aside0.mk g_; clear g_; have K6 := kept_below b7; have HB7 := Aside0.mk (below_then HB6.out HB6.out.size b7); have H3_7 := Aside0.mk (blk_kept H3_6.out K6 (fun h_ => h_)); have O1_0_7 := Aside0.mk (Kd.R_kept O1_0_6.out K6 (fun _ _ h_ => h_)); have O3_0_7 := Aside0.mk (Kd.R_kept O3_0_6.out K6 (fun _ _ h_ => h_)); clear b7; clear K6 HB6 H3_6 O1_0_6 O3_0_6) | ((with_reducible refine gate_store (t := 28) (p := 6) (v := .tmp 22) rfl ?_); refine hx_store rfl rfl 28 (.tmp 6) (.tmp 22) rfl s6 15 rfl (nums .i64 r4_0).toArray rfl (by kernel_rfl) (nums_size _ _ _ N4_0.out) (nums_one _ _) H6_7.out (nums_size _ _ _ (by simp)) ?_; intro w8 t8 g8; have K7 := kept_touch t8; have HB8 := Aside0.mk (t8.below HB7.out (by omega)); have H3_8 := Aside0.mk (blk_kept H3_7.out K7 (by show ¬ (_ = _); omega)); have H6_8 := Aside0.mk g8; have O1_0_8 := Aside0.mk (Kd.R_kept O1_0_7.out K7 (fun k_ hk_ h_ => by have h1_ := hk_.1; have h2_ := hk_.2; have h3_ : k_ = _ := h_; omega)); have O3_0_8 := Aside0.mk (Kd.R_kept O3_0_7.out K7 (fun k_ hk_ h_ => by have h1_ := hk_.1; have h2_ := hk_.2; have h3_ : k_ = _ := h_; omega)); have Sz8 := Aside0.mk (t8.size.trans Sz7.out); clear t8 g8; clear K7 HB7 H3_7 H6_7 O1_0_7 O3_0_7) | ((with_reducible refine gate_dst (N := 24) rfl ?_); refine hx_load rfl 28 (.tmp 6) rfl s6 15 rfl Try.underlying28 rfl (by kernel_rfl) H6_8.out (nums_size _ _ _ N4_0.out) ?_) | ((with_reducible refine gate_dst (N := 25) rfl ?_); refine hx_load rfl 28 (.tmp 3) rfl s2 15 rfl Try.underlying28 rfl (by kernel_rfl) H3_8.out (nums_size _ _ _ N2_0.out) ?_) | ((with_reducible refine gate_dst (N := 26) rfl ?_); refine goesL_ (some 26) rfl rfl Try.func20 (by kernel_rfl) rfl #[.agg (nums .i64 r4_0).toArray, .agg (nums .i64 r2_0).toArray] rfl (by (try simp only [List.map_toArray, List.map_cons, List.map_nil]); first | done | rfl) ?_; refine (laws_eqRoot.calls _ N4_0.out _ N2_0.out _ _ E5.out).mono ?_; rintro e_ w9 ⟨rfl, b9⟩; refine ⟨_, rfl, ?_⟩; obtain ⟨s9, L9, Sz9⟩ := size_letter Sz8 (kept_below b9); have K8 := kept_below b9; have HB9 := Aside0.mk (below_then HB8.out HB8.out.size b9); have H3_9 := Aside0.mk (blk_kept H3_8.out K8 (fun h_ => h_)); have H6_9 := Aside0.mk (blk_kept H6_8.out K8 (fun h_ => h_)); have O1_0_9 := Aside0.mk (Kd.R_kept O1_0_8.out K8 (fun _ _ h_ => h_)); have O3_0_9 := Aside0.mk (Kd.R_kept O3_0_8.out K8 (fun _ _ h_ => h_)); clear b9; clear K8 HB8 H3_8 H6_8 O1_0_8 O3_0_8) | ((with_reducible refine gate_dst (N := 35) rfl ?_); refine goesL_ (some 35) rfl rfl Try.func18 (by kernel_rfl) rfl #[.slice A0 l0.length c0] rfl (by (try simp only [List.map_toArray, List.map_cons, List.map_nil]); first | done | rfl) ?_; refine (laws_toByteS.calls _ _ _ _ _ _ (Kd.C_below HR0.out HB9.out) HC0.out E6.out).mono ?_; rintro e_ w10 ⟨v0_, rfl, R6_0, b10⟩; obtain ⟨A6_0, c6_0, rfl⟩ := Kd.R_slice R6_0; refine ⟨_, rfl, ?_⟩; obtain ⟨s10, L10, Sz10⟩ := size_letter Sz9 (kept_below b10); have O6_0_10 := own_btw R6_0 Sz9.out Sz10 HB9.out.size; clear R6_0; have K9 := kept_below b10; have HB10 := Aside0.mk (below_then HB9.out HB9.out.size b10); have H3_10 := Aside0.mk (blk_kept H3_9.out K9 (fun h_ => h_)); have H6_10 := Aside0.mk (blk_kept H6_9.out K9 (fun h_ => h_)); have O1_0_10 := Aside0.mk (Kd.R_kept O1_0_9.out K9 (fun _ _ h_ => h_)); have O3_0_10 := Aside0.mk (Kd.R_kept O3_0_9.out K9 (fun _ _ h_ => h_)); clear b10; clear K9 HB9 H3_9 H6_9 O1_0_9 O3_0_9) | ((with_reducible refine gate_dst (N := 36) rfl ?_); refine goesL_ (some 36) rfl rfl Try.func14 (by kernel_rfl) rfl #[.slice A3_0 r3_0.length c3_0, .slice A6_0 r6_0.length c6_0] rfl (by (try simp only [List.map_toArray, List.map_cons, List.map_nil]); first | done | rfl) ?_; refine (laws_eqByteS.calls _ _ _ _ _ _ _ _ _ (Kd.R_reads' O3_0_10.out).2.2 (Kd.R_reads' O3_0_10.out).2.1 (Kd.R_reads' O6_0_10.out).2.2 (Kd.R_reads' O6_0_10.out).2.1 E7.out).mono ?_; rintro e_ w11 ⟨rfl, b_⟩; have b11 := kept_drawn b_; refine ⟨_, rfl, ?_⟩; obtain ⟨s11, L11, Sz11⟩ := size_letter Sz10 (kept_below b11); have K10 := kept_below b11; have HB11 := Aside0.mk (below_then HB10.out HB10.out.size b11); have H3_11 := Aside0.mk (blk_kept H3_10.out K10 (fun h_ => h_)); have H6_11 := Aside0.mk (blk_kept H6_10.out K10 (fun h_ => h_)); have O1_0_11 := Aside0.mk (Kd.R_kept O1_0_10.out K10 (fun _ _ h_ => h_)); have O3_0_11 := Aside0.mk (Kd.R_kept O3_0_10.out K10 (fun _ _ h_ => h_)); have O6_0_11 := Aside0.mk (Kd.R_kept O6_0_10.out K10 (fun _ _ h_ => h_)); clear b11; clear K10 HB10 H3_10 H6_10 O1_0_10 O3_0_10 O6_0_10))
  go_ret
  exact ⟨rfl, HB11.out⟩

end Go.Proofs.Ytkghgjehjchajaa.PFnExactDecodeRoot
