-- Written by a program of this session (patch_print.py over the kit print)
import Derived.Test.YtjhaofdnlnbajaaPFnExactMapCountx0
import Derived.Test.YtjhaofdnlnbajaaPFnExactMapCountx1
import Derived.Test.YtjhaofdnlnbajaaPFnExactMapCountx2
import Derived.Test.YtjhaofdnlnbajaaPFnExactMapCountx5
import Derived.Test.YtjhaofdnlnbajaaPFnExactMapCountx8
namespace Go.Proofs.Ytjhaofdnlnbajaa.PFnExactMapCount
open Go.RowKit Go.Proofs.YtjhaofdnlnbajaaW.PrintWords Go.Proofs.YtjhaofdnlnbajaaW.PrintLast Go.Proofs.YtjhaofdnlnbajaaW.PrintMore
attribute [local go_sem] max2_int min2_int max_two min_two max_three min_three max_four min_four   -- for this text's walks alone
set_option linter.unusedVariables false
set_option linter.unusedSimpArgs false

open Go.Proofs.YtjhaofdnlnbajaaW Go.Proofs.YtjhaofdnlnbajaaW.PrintHand Go.Proofs.YtjhaofdnlnbajaaW.PrintHx
/-! ### laws_eqIntA32: function 56 -/
def laws_eqIntA32.f (a0 a1 : List Int) : Option Bool := if a0 = a1 then some true else none
set_option maxHeartbeats 4000000 in
theorem laws_eqIntA32.calls (a0 : List Int) (n0 : a0.length = 32) (a1 : List Int) (n1 : a1.length = 32) (r : Bool) (w : World) (h : laws_eqIntA32.f a0 a1 = some r) :
    Calls Try.prog 56 #[.agg (nums .i64 a0).toArray, .agg (nums .i64 a1).toArray] w fun e w' => e = .returned (.bool r) ∧ Below w.heap.size w w' := by
  unfold laws_eqIntA32.f at h
  by_cases he : a0 = a1
  case neg => rw [if_neg he] at h; cases h
  rw [if_pos he] at h
  obtain rfl := Option.some.inj h
  subst he
  have N_ := Aside0.mk n0
  clear n0 n1 h
  have HB0 : Aside0 (Below w.heap.size w w) := ⟨Below.refl _ _⟩
  obtain ⟨s0, Sz0⟩ : ∃ s0, Aside0 (w.heap.size = s0) := ⟨_, ⟨rfl⟩⟩
  go_enter Try.func56, Try.ntmps56
  go_wp2_with (first | ((with_reducible refine gate_dst (N := 2) rfl ?_); refine hx_box rfl 2 rfl 53 (.tmp 0) rfl Sz0 (.agg (nums .i64 a0).toArray) (nums .i64 a0).toArray rfl rfl ?_; intro w1 s1 L1 Sz1 b1 g_; have H0 := Aside0.mk g_; have HB1 := Aside0.mk (below_then HB0.out HB0.out.size b1); clear g_ HB0 b1) | ((with_reducible refine gate_dst (N := 3) rfl ?_); refine hx_box rfl 3 rfl 53 (.tmp 1) rfl Sz1 (.agg (nums .i64 a0).toArray) (nums .i64 a0).toArray rfl rfl ?_; intro w2 s2 L2 Sz2 b2 g_; have H1 := Aside0.mk g_; have H0 := Aside0.mk (blk_below H0.out b2); have HB2 := Aside0.mk (below_then HB1.out HB1.out.size b2); clear g_ HB1 b2))
  (try simp only [Act.put, List.setIfInBounds_toArray, List.set_cons_succ, List.set_cons_zero])
  go_loopw [5] (fun i wr => ∃ k : Nat, k ≤ 32 ∧ i = .int .i64 (k : Int) ∧ Aside0 (Below w.heap.size w wr) ∧ Aside0 (wr.heap[s0]? = some (.cells (nums .i64 a0).toArray 53 (0, 0))) ∧ Aside0 (wr.heap[s1]? = some (.cells (nums .i64 a0).toArray 53 (0, 0)))) (fun i _ => 32 - (intOf i).toNat)
  case atStart => exact ⟨0, by omega, rfl, HB2, H0, H1⟩
  case round =>
    obtain ⟨k, hk, rfl, hB, h0, h1⟩ := hrel
    by_cases hlt : k < 32
    · have c0 := row_cell h0.out k (by rw [N_.out]; exact hlt)
      have c1 := row_cell h1.out k (by rw [N_.out]; exact hlt)
      have hn : (a0.getD k 0 != a0.getD k 0) = false := by simp
      go_wp2
      go_quiet (fail)
      go_wp2
      go_roundw
      case rel => exact ⟨k + 1, by omega, by go_num, ⟨pw_below_drewN hB.out _⟩, ⟨blk_drewN h0.out _⟩, ⟨blk_drewN h1.out _⟩⟩
      case measure => simp [intOf]; omega
    · obtain rfl : k = 32 := by omega
      go_wp2
      go_ret
      exact ⟨rfl, hB.out⟩

open Go.Proofs.YtjhaofdnlnbajaaW Go.Proofs.YtjhaofdnlnbajaaW.PrintHand Go.Proofs.YtjhaofdnlnbajaaW.PrintHx
/-! ### laws_eqCounts: function 41 -/
def laws_eqCounts.f (a0 a1 : List Int) : Option Bool := if a0 = a1 then some true else none
set_option maxHeartbeats 4000000 in
theorem laws_eqCounts.calls (a0 : List Int) (n0 : a0.length = 35) (a1 : List Int) (n1 : a1.length = 35) (r : Bool) (w : World) (h : laws_eqCounts.f a0 a1 = some r) :
    Calls Try.prog 41 #[.agg (nums .i64 a0).toArray, .agg (nums .i64 a1).toArray] w fun e w' => e = .returned (.bool r) ∧ Below w.heap.size w w' := by
  unfold laws_eqCounts.f at h
  by_cases he : a0 = a1
  case neg => rw [if_neg he] at h; cases h
  rw [if_pos he] at h
  obtain rfl := Option.some.inj h
  subst he
  have N_ := Aside0.mk n0
  clear n0 n1 h
  have HB0 : Aside0 (Below w.heap.size w w) := ⟨Below.refl _ _⟩
  obtain ⟨s0, Sz0⟩ : ∃ s0, Aside0 (w.heap.size = s0) := ⟨_, ⟨rfl⟩⟩
  have E_ := Aside0.mk (show laws_eqIntA32.f (a0.drop 3) (a0.drop 3) = some true from if_pos rfl)
  have NP := Aside0.mk (show (a0.drop 3).length = 32 by rw [List.length_drop, N_.out])
  go_enter Try.func41, Try.ntmps41
  go_wp2_with (first | ((with_reducible refine gate_dst (N := 2) rfl ?_); refine hx_box rfl 2 rfl 55 (.tmp 0) rfl Sz0 (.agg (nums .i64 a0).toArray) (nums .i64 a0).toArray rfl rfl ?_; intro w1 s1 L1 Sz1 b1 g_; have H0 := Aside0.mk g_; have HB1 := Aside0.mk (below_then HB0.out HB0.out.size b1); clear g_ HB0 b1) | ((with_reducible refine gate_dst (N := 3) rfl ?_); refine hx_box rfl 3 rfl 55 (.tmp 1) rfl Sz1 (.agg (nums .i64 a0).toArray) (nums .i64 a0).toArray rfl rfl ?_; intro w2 s2 L2 Sz2 b2 g_; have H1 := Aside0.mk g_; have H0 := Aside0.mk (blk_below H0.out b2); have HB2 := Aside0.mk (below_then HB1.out HB1.out.size b2); have c00 := row_cell H0.out 0 (by rw [N_.out]; decide); have c01 := row_cell H0.out 1 (by rw [N_.out]; decide); have c02 := row_cell H0.out 2 (by rw [N_.out]; decide); have c10 := row_cell H1.out 0 (by rw [N_.out]; decide); have c11 := row_cell H1.out 1 (by rw [N_.out]; decide); have c12 := row_cell H1.out 2 (by rw [N_.out]; decide); clear g_ HB1 b2) | ((with_reducible refine gate_dst (N := 21) rfl ?_); refine wpList_ld rfl 53 (.tmp 20) rfl s0 3 32 rfl (nums .i64 (a0.drop 3)).toArray Try.underlying53 rfl (by kernel_rfl) H0.out (by rw [nums_size _ _ _ N_.out]; decide) (part_nums _ _ 3 32 (by rw [N_.out])) ?_) | ((with_reducible refine gate_dst (N := 23) rfl ?_); refine wpList_ld rfl 53 (.tmp 22) rfl s1 3 32 rfl (nums .i64 (a0.drop 3)).toArray Try.underlying53 rfl (by kernel_rfl) H1.out (by rw [nums_size _ _ _ N_.out]; decide) (part_nums _ _ 3 32 (by rw [N_.out])) ?_) | (go_at_call 56; refine (laws_eqIntA32.calls _ NP.out _ NP.out true _ E_.out).mono ?_; rintro e_ w_ ⟨rfl, b3⟩; have HB3 := Aside0.mk (below_then HB2.out HB2.out.size b3)))
  go_ret
  exact ⟨rfl, HB3.out⟩

open Go.Proofs.YtjhaofdnlnbajaaW Go.Proofs.YtjhaofdnlnbajaaW.PrintHand Go.Proofs.YtjhaofdnlnbajaaW.PrintHx
/-! ### laws_FnExactMapCount: function 11 -/
def laws_FnExactMapCount.Facts (l0 : List Int) : Prop := (∃ (k : Nat), (¬ ((l0.length : Int) > 1048576) → (∃ (r1_0 : List Int) (r2_0 : List Int) (r2_1 : Int) (r3_0 : List Int) (r4_0 : List Int) (r6_0 : List Int), laws_toIntS.f k l0 = some r1_0 ∧ r2_0.length = 35 ∧ spec_MapCount.f k r1_0 = some (r2_0, r2_1) ∧ laws_toIntS.f k l0 = some r3_0 ∧ r4_0.length = 35 ∧ impl_MapCount.f k r3_0 = some (r4_0, r2_1) ∧ laws_eqCounts.f r4_0 r2_0 = some true ∧ laws_toIntS.f k l0 = some r6_0 ∧ laws_eqIntS.f k r3_0 r6_0 = some true)))
def laws_FnExactMapCount.Pure : Prop := ∀ (l0 : List Int), (l0.length ≤ maxLen ∧ ∀ q111 ∈ l0, (Lit.int .i64 q111).wf = true) → laws_FnExactMapCount.Facts l0
set_option maxHeartbeats 8000000 in
set_option maxRecDepth 100000 in
theorem laws_FnExactMapCount.calls (A0 : Option Addr) (c0 : Nat) (l0 : List Int) (w : World) (hr0 : Kd.C (Kd.int .i64) w A0 l0.length l0) (hc0 : l0.length ≤ c0) (hf : laws_FnExactMapCount.Facts l0) :
    Calls Try.prog 11 #[.slice A0 l0.length c0] w fun e w' => e = .returned (.bool true) ∧ Below w.heap.size w w' := by
  have HR0 := Aside0.mk hr0; have HC0 := Aside0.mk hc0; clear hr0 hc0
  unfold laws_FnExactMapCount.Facts at hf
  have HB0 : Aside0 (Below w.heap.size w w) := ⟨Below.refl _ _⟩
  obtain ⟨s0, Sz0⟩ : ∃ s0, Aside0 (w.heap.size = s0) := ⟨_, ⟨rfl⟩⟩
  have hw0 : w.heap.size ≤ s0 := Nat.le_of_eq Sz0.out
  have hw1 : s0 ≤ w.heap.size := Nat.le_of_eq Sz0.out.symm
  have Z55 : ∀ w, (zeroValue 55).run Try.prog w = .ok (.agg (nums .i64 (List.replicate 35 0)).toArray) w := fun _ => by kernel_rfl
  obtain ⟨k, hf⟩ := hf
  by_cases g0_ : (l0.length : Int) > 1048576
  · clear hf
    (try (have g0__0 : decide (1048576 < (l0.length : Int)) = true := decide_eq_true g0_))
    (try (have g0__1 : decide (1048576 < l0.length) = true := decide_eq_true (by omega)))
    go_enter Try.func11, Try.ntmps11
    go_wp2
    go_ret
    exact ⟨rfl, HB0.out⟩
  replace hf := hf g0_
  (try (have g0__0 : decide (1048576 < (l0.length : Int)) = false := decide_eq_false g0_))
  (try (have g0__1 : decide (1048576 < l0.length) = false := decide_eq_false (by omega)))
  have G0_ := Aside0.mk g0_
  clear g0_
  obtain ⟨r1_0, r2_0, r2_1, r3_0, r4_0, r6_0, eE1_, eN2_0_, eE2_, eE3_, eN4_0_, eE4_, eE5_, eE6_, eE7_⟩ := hf
  have E1 := Aside0.mk eE1_
  clear eE1_
  have N2_0 := Aside0.mk eN2_0_
  clear eN2_0_
  have E2 := Aside0.mk eE2_
  clear eE2_
  have E3 := Aside0.mk eE3_
  clear eE3_
  have N4_0 := Aside0.mk eN4_0_
  clear eN4_0_
  have E4 := Aside0.mk eE4_
  clear eE4_
  have E5 := Aside0.mk eE5_
  clear eE5_
  have E6 := Aside0.mk eE6_
  clear eE6_
  have E7 := Aside0.mk eE7_
  clear eE7_
  go_enter Try.func11, Try.ntmps11
  go_wp2_with (first | ((with_reducible refine gate_dst (N := 13) rfl ?_); refine goesL_ (some 13) rfl rfl Try.func36 (by kernel_rfl) rfl #[.slice A0 l0.length c0] rfl (by (try simp only [List.map_toArray, List.map_cons, List.map_nil]); first | done | rfl) ?_; refine (laws_toIntS.calls _ _ _ _ _ _ (Kd.C_below HR0.out HB0.out) HC0.out E1.out).mono ?_; rintro e_ w1 ⟨v0_, rfl, R1_0, b1⟩; obtain ⟨A1_0, c1_0, rfl⟩ := Kd.R_slice R1_0; refine ⟨_, rfl, ?_⟩; obtain ⟨s1, L1, Sz1⟩ := size_letter Sz0 (kept_below b1); have O1_0_1 := own_btw R1_0 Sz0.out Sz1 HB0.out.size; clear R1_0; have K0 := kept_below b1; have HB1 := Aside0.mk (below_then HB0.out HB0.out.size b1); clear b1; clear K0 HB0) | ((with_reducible refine gate_dst (N := 14) rfl ?_); refine goesL_ (some 14) rfl rfl Try.func39 (by kernel_rfl) rfl #[.slice A1_0 r1_0.length c1_0] rfl (by (try simp only [List.map_toArray, List.map_cons, List.map_nil]); first | done | rfl) ?_; refine (spec_MapCount.calls _ _ _ _ _ _ _ (Kd.R_reads' O1_0_1.out).2.2 (Kd.R_reads' O1_0_1.out).2.1 E2.out).mono ?_; rintro e_ w2 ⟨rfl, b2⟩; refine ⟨_, rfl, ?_⟩; obtain ⟨s2, L2, Sz2⟩ := size_letter Sz1 (kept_below b2); have K1 := kept_below b2; have HB2 := Aside0.mk (below_then HB1.out HB1.out.size b2); have O1_0_2 := Aside0.mk (Kd.R_kept O1_0_1.out K1 (fun _ _ h_ => h_)); clear b2; clear K1 HB1 O1_0_1) | ((with_reducible refine gate_dst (N := 3) rfl ?_); refine hx_alloc rfl 3 rfl 55 rfl Sz2 (.agg (nums .i64 (List.replicate 35 0)).toArray) (nums .i64 (List.replicate 35 0)).toArray Z55 rfl ?_; intro w3 s3 L3 Sz3 b3 g_; have H3_3 := Aside0.mk g_; clear g_; have K2 := kept_below b3; have HB3 := Aside0.mk (below_then HB2.out HB2.out.size b3); have O1_0_3 := Aside0.mk (Kd.R_kept O1_0_2.out K2 (fun _ _ h_ => h_)); clear b3; clear K2 HB2 O1_0_2) | ((with_reducible refine gate_store (t := 55) (p := 3) (v := .tmp 15) rfl ?_); refine hx_store rfl rfl 55 (.tmp 3) (.tmp 15) rfl s2 35 rfl (nums .i64 r2_0).toArray rfl (by kernel_rfl) (nums_size _ _ _ N2_0.out) (nums_one _ _) H3_3.out (nums_size _ _ _ (by simp)) ?_; intro w4 t4 g4; have K3 := kept_touch t4; have HB4 := Aside0.mk (t4.below HB3.out (by omega)); have H3_4 := Aside0.mk g4; have O1_0_4 := Aside0.mk (Kd.R_kept O1_0_3.out K3 (fun k_ hk_ h_ => by have h1_ := hk_.1; have h2_ := hk_.2; have h3_ : k_ = _ := h_; omega)); have Sz4 := Aside0.mk (t4.size.trans Sz3.out); clear t4 g4; clear K3 HB3 H3_3 O1_0_3) | ((with_reducible refine gate_dst (N := 18) rfl ?_); refine goesL_ (some 18) rfl rfl Try.func36 (by kernel_rfl) rfl #[.slice A0 l0.length c0] rfl (by (try simp only [List.map_toArray, List.map_cons, List.map_nil]); first | done | rfl) ?_; refine (laws_toIntS.calls _ _ _ _ _ _ (Kd.C_below HR0.out HB4.out) HC0.out E3.out).mono ?_; rintro e_ w5 ⟨v0_, rfl, R3_0, b5⟩; obtain ⟨A3_0, c3_0, rfl⟩ := Kd.R_slice R3_0; refine ⟨_, rfl, ?_⟩; obtain ⟨s5, L5, Sz5⟩ := size_letter Sz4 (kept_below b5); have O3_0_5 := own_btw R3_0 Sz4.out Sz5 HB4.out.size; clear R3_0; have K4 := kept_below b5; have HB5 := Aside0.mk (below_then HB4.out HB4.out.size b5); have H3_5 := Aside0.mk (blk_kept H3_4.out K4 (fun h_ => h_)); have O1_0_5 := Aside0.mk (Kd.R_kept O1_0_4.out K4 (fun _ _ h_ => h_)); clear b5; clear K4 HB4 H3_4 O1_0_4) | ((with_reducible refine gate_dst (N := 21) rfl ?_); refine goesL_ (some 21) rfl rfl Try.func40 (by kernel_rfl) rfl #[.slice A3_0 r3_0.length c3_0] rfl (by (try simp only [List.map_toArray, List.map_cons, List.map_nil]); first | done | rfl) ?_; refine (impl_MapCount.calls _ _ _ _ _ _ _ (Kd.R_reads' O3_0_5.out).2.2 (Kd.R_reads' O3_0_5.out).2.1 E4.out).mono ?_; rintro e_ w6 ⟨rfl, b6⟩; refine ⟨_, rfl, ?_⟩; obtain ⟨s6, L6, Sz6⟩ := size_letter Sz5 (kept_below b6); have K5 := kept_below b6; have HB6 := Aside0.mk (below_then HB5.out HB5.out.size b6); have H3_6 := Aside0.mk (blk_kept H3_5.out K5 (fun h_ => h_)); have O1_0_6 := Aside0.mk (Kd.R_kept O1_0_5.out K5 (fun _ _ h_ => h_)); have O3_0_6 := Aside0.mk (Kd.R_kept O3_0_5.out K5 (fun _ _ h_ => h_)); clear b6; clear K5 HB5 H3_5 O1_0_5 O3_0_5) | ((with_reducible refine gate_dst (N := 6) rfl ?_); refine hx_alloc rfl 6 rfl 55 rfl Sz6 (.agg (nums .i64 (List.replicate 35 0)).toArray) (nums .i64 (List.replicate 35 0)).toArray Z55 rfl ?_; intro w7 s7 L7 Sz7 b7 g_; have H6_7 := Aside0.mk g_; clear g_; have K6 := kept_below b7; have HB7 := Aside0.mk (below_then HB6.out HB6.out.size b7); have H3_7 := Aside0.mk (blk_kept H3_6.out K6 (fun h_ => h_)); have O1_0_7 := Aside0.mk (Kd.R_kept O1_0_6.out K6 (fun _ _ h_ => h_)); have O3_0_7 := Aside0.mk (Kd.R_kept O3_0_6.out K6 (fun _ _ h_ => h_)); clear b7; clear K6 HB6 H3_6 O1_0_6 O3_0_6) | ((with_reducible refine gate_store (t := 55) (p := 6) (v := .tmp 22) rfl ?_); refine hx_store rfl rfl 55 (.tmp 6) (.tmp 22) rfl s6 35 rfl (nums .i64 r4_0).toArray rfl (by kernel_rfl) (nums_size _ _ _ N4_0.out) (nums_one _ _) H6_7.out (nums_size _ _ _ (by simp)) ?_; intro w8 t8 g8; have K7 := kept_touch t8; have HB8 := Aside0.mk (t8.below HB7.out (by omega)); have H3_8 := Aside0.mk (blk_kept H3_7.out K7 (by show ¬ (_ = _); omega)); have H6_8 := Aside0.mk g8; have O1_0_8 := Aside0.mk (Kd.R_kept O1_0_7.out K7 (fun k_ hk_ h_ => by have h1_ := hk_.1; have h2_ := hk_.2; have h3_ : k_ = _ := h_; omega)); have O3_0_8 := Aside0.mk (Kd.R_kept O3_0_7.out K7 (fun k_ hk_ h_ => by have h1_ := hk_.1; have h2_ := hk_.2; have h3_ : k_ = _ := h_; omega)); have Sz8 := Aside0.mk (t8.size.trans Sz7.out); clear t8 g8; clear K7 HB7 H3_7 H6_7 O1_0_7 O3_0_7) | ((with_reducible refine gate_dst (N := 24) rfl ?_); refine hx_load rfl 55 (.tmp 6) rfl s6 35 rfl Try.underlying55 rfl (by kernel_rfl) H6_8.out (nums_size _ _ _ N4_0.out) ?_) | ((with_reducible refine gate_dst (N := 25) rfl ?_); refine hx_load rfl 55 (.tmp 3) rfl s2 35 rfl Try.underlying55 rfl (by kernel_rfl) H3_8.out (nums_size _ _ _ N2_0.out) ?_) | ((with_reducible refine gate_dst (N := 26) rfl ?_); refine goesL_ (some 26) rfl rfl Try.func41 (by kernel_rfl) rfl #[.agg (nums .i64 r4_0).toArray, .agg (nums .i64 r2_0).toArray] rfl (by (try simp only [List.map_toArray, List.map_cons, List.map_nil]); first | done | rfl) ?_; refine (laws_eqCounts.calls _ N4_0.out _ N2_0.out _ _ E5.out).mono ?_; rintro e_ w9 ⟨rfl, b9⟩; refine ⟨_, rfl, ?_⟩; obtain ⟨s9, L9, Sz9⟩ := size_letter Sz8 (kept_below b9); have K8 := kept_below b9; have HB9 := Aside0.mk (below_then HB8.out HB8.out.size b9); have H3_9 := Aside0.mk (blk_kept H3_8.out K8 (fun h_ => h_)); have H6_9 := Aside0.mk (blk_kept H6_8.out K8 (fun h_ => h_)); have O1_0_9 := Aside0.mk (Kd.R_kept O1_0_8.out K8 (fun _ _ h_ => h_)); have O3_0_9 := Aside0.mk (Kd.R_kept O3_0_8.out K8 (fun _ _ h_ => h_)); clear b9; clear K8 HB8 H3_8 H6_8 O1_0_8 O3_0_8) | ((with_reducible refine gate_dst (N := 35) rfl ?_); refine goesL_ (some 35) rfl rfl Try.func36 (by kernel_rfl) rfl #[.slice A0 l0.length c0] rfl (by (try simp only [List.map_toArray, List.map_cons, List.map_nil]); first | done | rfl) ?_; refine (laws_toIntS.calls _ _ _ _ _ _ (Kd.C_below HR0.out HB9.out) HC0.out E6.out).mono ?_; rintro e_ w10 ⟨v0_, rfl, R6_0, b10⟩; obtain ⟨A6_0, c6_0, rfl⟩ := Kd.R_slice R6_0; refine ⟨_, rfl, ?_⟩; obtain ⟨s10, L10, Sz10⟩ := size_letter Sz9 (kept_below b10); have O6_0_10 := own_btw R6_0 Sz9.out Sz10 HB9.out.size; clear R6_0; have K9 := kept_below b10; have HB10 := Aside0.mk (below_then HB9.out HB9.out.size b10); have H3_10 := Aside0.mk (blk_kept H3_9.out K9 (fun h_ => h_)); have H6_10 := Aside0.mk (blk_kept H6_9.out K9 (fun h_ => h_)); have O1_0_10 := Aside0.mk (Kd.R_kept O1_0_9.out K9 (fun _ _ h_ => h_)); have O3_0_10 := Aside0.mk (Kd.R_kept O3_0_9.out K9 (fun _ _ h_ => h_)); clear b10; clear K9 HB9 H3_9 H6_9 O1_0_9 O3_0_9) | ((with_reducible refine gate_dst (N := 36) rfl ?_); refine goesL_ (some 36) rfl rfl Try.func31 (by kernel_rfl) rfl #[.slice A3_0 r3_0.length c3_0, .slice A6_0 r6_0.length c6_0] rfl (by (try simp only [List.map_toArray, List.map_cons, List.map_nil]); first | done | rfl) ?_; refine (laws_eqIntS.calls _ _ _ _ _ _ _ _ _ (Kd.R_reads' O3_0_10.out).2.2 (Kd.R_reads' O3_0_10.out).2.1 (Kd.R_reads' O6_0_10.out).2.2 (Kd.R_reads' O6_0_10.out).2.1 E7.out).mono ?_; rintro e_ w11 ⟨rfl, b_⟩; have b11 := kept_drawn b_; refine ⟨_, rfl, ?_⟩; obtain ⟨s11, L11, Sz11⟩ := size_letter Sz10 (kept_below b11); have K10 := kept_below b11; have HB11 := Aside0.mk (below_then HB10.out HB10.out.size b11); have H3_11 := Aside0.mk (blk_kept H3_10.out K10 (fun h_ => h_)); have H6_11 := Aside0.mk (blk_kept H6_10.out K10 (fun h_ => h_)); have O1_0_11 := Aside0.mk (Kd.R_kept O1_0_10.out K10 (fun _ _ h_ => h_)); have O3_0_11 := Aside0.mk (Kd.R_kept O3_0_10.out K10 (fun _ _ h_ => h_)); have O6_0_11 := Aside0.mk (Kd.R_kept O6_0_10.out K10 (fun _ _ h_ => h_)); clear b11; clear K10 HB10 H3_10 H6_10 O1_0_10 O3_0_10 O6_0_10))
  go_ret
  exact ⟨rfl, HB11.out⟩

end Go.Proofs.Ytjhaofdnlnbajaa.PFnExactMapCount
