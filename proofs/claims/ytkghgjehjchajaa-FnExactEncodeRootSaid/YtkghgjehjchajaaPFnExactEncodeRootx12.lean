-- Written by a program of this session (patch_print.py over the kit print)
import Derived.Test.YtkghgjehjchajaaPFnExactEncodeRootx0
import Derived.Test.YtkghgjehjchajaaPFnExactEncodeRootx4
import Derived.Test.YtkghgjehjchajaaPFnExactEncodeRootx9
import Derived.Test.YtkghgjehjchajaaPFnExactEncodeRootx10
import Derived.Test.YtkghgjehjchajaaPFnExactEncodeRootx11
namespace Go.Proofs.Ytkghgjehjchajaa.PFnExactEncodeRoot
open Go.RowKit Go.Proofs.YtkghgjehjchajaaW.PrintWords Go.Proofs.YtkghgjehjchajaaW.PrintLast Go.Proofs.YtkghgjehjchajaaW.PrintMore
attribute [local go_sem] max2_int min2_int max_two min_two max_three min_three max_four min_four   -- for this text's walks alone
set_option linter.unusedVariables false
set_option linter.unusedSimpArgs false

/-! ### laws_heldByteS: function 16 -/
def laws_heldByteS.l0 : Nat → List Int → Int → Int → Option (Int)
  | 0, _, _, _ => none
  | k + 1, x0, x1, x5 => if x5 < (x0.length : Int) then (if 0 ≤ x5 then (if (rd x0 x5) = ((x1) % 256) then (laws_heldByteS.l0 k x0 (wrap64 (x1 + 1)) (wrap64 (x5 + 1))) else (some (-1))) else (none)) else (some x1)
def laws_heldByteS.f (k : Nat) (l0 : List Int) (a1 : Int) : Option (Int) := laws_heldByteS.l0 k l0 a1 0
theorem laws_heldByteS.mono_l : ∀ k, (∀ y0 y1 y2, LeO (laws_heldByteS.l0 k y0 y1 y2) (laws_heldByteS.l0 (k + 1) y0 y1 y2))
  | 0 => fun _ _ _ r h => by simp [laws_heldByteS.l0] at h
  | k + 1 => by
    have ih0 := laws_heldByteS.mono_l k
    · intro y0 y1 y2
      unfold laws_heldByteS.l0
      repeat' first
      | (with_reducible exact ih0 _ _ _)
      | (with_reducible exact LeO.refl _)
      | (with_reducible exact LeO.none _)
      | (with_reducible refine LeO.ite ?_ ?_)
      | (with_reducible refine LeO.bind ?_ (fun _ => ?_))
      | exact ih0 _ _ _
      | exact LeO.none _
      | refine LeO.ite ?_ ?_
      | refine LeO.bind ?_ (fun _ => ?_)
theorem laws_heldByteS.mono : ∀ a0 a1 k, LeO (laws_heldByteS.f k a0 a1) (laws_heldByteS.f (k + 1) a0 a1) := by
  intro a0 a1 k
  have ih0 := laws_heldByteS.mono_l k
  unfold laws_heldByteS.f
  repeat' first
      | (with_reducible exact ih0 _ _ _)
      | (with_reducible exact LeO.refl _)
      | (with_reducible exact LeO.none _)
      | (with_reducible refine LeO.ite ?_ ?_)
      | (with_reducible refine LeO.bind ?_ (fun _ => ?_))
      | exact ih0 _ _ _
      | exact LeO.none _
      | refine LeO.ite ?_ ?_
      | refine LeO.bind ?_ (fun _ => ?_)
set_option maxHeartbeats 8000000 in
set_option maxRecDepth 100000 in
theorem laws_heldByteS.calls (k : Nat) (A0 : Option Addr) (c0 : Nat) (l0 : List Int) (a1 : Int) (r : Int) (w : World) (hr0 : Kd.C (Kd.int .u8) w A0 l0.length l0) (hc0 : l0.length ≤ c0) (h : laws_heldByteS.f k l0 a1 = some r) :
    Calls Try.prog 16 #[.slice A0 l0.length c0, .int .i64 a1] w fun e w' => e = .returned (.int .i64 r) ∧ Drawn0 w w' := by
  have HR0 := Aside0.mk hr0
  have HC0 := Aside0.mk hc0
  clear hr0 hc0
  have H : (laws_heldByteS.l0 k l0 a1 0) = some r := h
  clear h
  have H' := Aside0.mk H
  clear H
  go_enter Try.func16, Try.ntmps16
  go_wp2
  go_loopg [1, 5] k (fun kq v1 v5 w' => ∃ (x1_1 : Int) (x5_1 : Int), v1 = .int .i64 x1_1 ∧ v5 = .int .i64 x5_1 ∧ Aside0 (laws_heldByteS.l0 kq l0 x1_1 x5_1 = some r) ∧ Aside0 (kq ≤ k) ∧ Drawn0 w w')
  case atStart => exact ⟨(a1), (0), (by first | rfl | (simp; done) | (simp [*]; done)), (by first | rfl | (simp; done) | (simp [*]; done)), H', ⟨Nat.le_refl _⟩, by repeat (first | exact Drawn0.refl _ | apply Drawn0.step)⟩
  case round =>
    clear H'
    try clear c1
    try clear p2
    obtain ⟨x1_1, x5_1, rfl, rfl, HA, HK1, ⟨m1, rfl⟩⟩ := hrel
    cases gk with
    | zero => exact absurd HA.out (by simp [laws_heldByteS.l0])
    | succ k1 =>
      have H := HA.out
      clear HA
      simp only [laws_heldByteS.l0] at H
      by_cases c3 : x5_1 < (l0.length : Int)
      · rw [if_pos c3] at H
        have c3b0 : decide (x5_1 < (l0.length : Int)) = true := decide_eq_true c3
        clear c3
        by_cases c4 : 0 ≤ x5_1
        · rw [if_pos c4] at H
          have c4b0 : decide (0 ≤ x5_1) = true := decide_eq_true c4
          clear c4
          by_cases c5 : (rd l0 x5_1) = ((x1_1) % 256)
          · rw [if_pos c5] at H
            have c5b0 : ((rd l0 x5_1) == ((x1_1) % 256)) = true := beq_iff_eq.mpr c5
            have c5b1 : ((rd l0 x5_1) != ((x1_1) % 256)) = false := bne_eq_false_iff_eq.mpr c5
            clear c5
            have H' := Aside0.mk H
            clear H
            have p112 : 0 ≤ (x5_1 : Int) := of_decide_eq_true (by first | (with_reducible assumption) | assumption)
            have q112 : x5_1 < (l0.length : Int) := of_decide_eq_true (by first | (with_reducible assumption) | assumption)
            obtain ⟨ad112, e112, hx112_0⟩ := Kd.at_int HR0.out x5_1 p112 q112
            cases e112
            replace p112 := eq_true p112
            replace q112 := eq_true q112
            go_wp2
            go_roundg k1
            case measure => have := HK1.out; omega
            case rel => exact ⟨(wrap64 (x1_1 + 1)), (wrap64 (x5_1 + 1)), (by first | rfl | (simp; done) | (simp [*]; done)), (by first | rfl | (simp; done) | (simp [*]; done)), H', ⟨by have := HK1.out; omega⟩, by repeat (first | exact Drawn0.refl _ | apply Drawn0.step)⟩
          · rw [if_neg c5] at H
            have c5b0 : ((rd l0 x5_1) == ((x1_1) % 256)) = false := beq_eq_false_iff_ne.mpr c5
            have c5b1 : ((rd l0 x5_1) != ((x1_1) % 256)) = true := bne_iff_ne.mpr c5
            obtain rfl := Option.some.inj H
            have p112 : 0 ≤ (x5_1 : Int) := of_decide_eq_true (by first | (with_reducible assumption) | assumption)
            have q112 : x5_1 < (l0.length : Int) := of_decide_eq_true (by first | (with_reducible assumption) | assumption)
            obtain ⟨ad112, e112, hx112_0⟩ := Kd.at_int HR0.out x5_1 p112 q112
            cases e112
            replace p112 := eq_true p112
            replace q112 := eq_true q112
            go_wp2
            go_ret
            exact ⟨by first | rfl | (simp; done) | (simp [*]; done), by repeat (first | exact Drawn0.refl _ | apply Drawn0.step)⟩
        · rw [if_neg c4] at H
          exact absurd H (by simp)
      · rw [if_neg c3] at H
        have c3b0 : decide (x5_1 < (l0.length : Int)) = false := decide_eq_false c3
        clear c3
        obtain rfl := Option.some.inj H
        go_wp2
        go_ret
        exact ⟨by first | rfl | (simp; done) | (simp [*]; done), by repeat (first | exact Drawn0.refl _ | apply Drawn0.step)⟩

open Go.Proofs.YtkghgjehjchajaaW Go.Proofs.YtkghgjehjchajaaW.PrintHand Go.Proofs.YtkghgjehjchajaaW.PrintHx
/-! ### laws_FnExactEncodeRoot: function 3 -/
def laws_FnExactEncodeRoot.Facts (a0 : List Int) : Prop := (∃ (k : Nat) (r1_0 : List Int) (r2_0 : List Int) (r2_1 : Int) (r3_0 : List Int) (r4_0 : List Int) (r6_0 : Int) (r6_k0 : List Int) (r8_0 : List Int) (r9_0 : List Int), r1_0.length = 15 ∧ laws_toRoot.f a0 = some r1_0 ∧ spec_EncodeRoot.f r1_0 = some (r2_0, r2_1) ∧ r3_0.length = 15 ∧ laws_toRoot.f a0 = some r3_0 ∧ impl_EncodeRoot.f r3_0 = some (r4_0, r2_1) ∧ laws_eqByteS.f k r4_0 r2_0 = some true ∧ laws_markByteS.f k r4_0 1 = some (r6_0, r6_k0) ∧ laws_heldByteS.f k r6_k0 1 = some r6_0 ∧ r8_0.length = 15 ∧ laws_toRoot.f a0 = some r8_0 ∧ impl_EncodeRoot.f r8_0 = some (r9_0, r2_1) ∧ laws_eqByteS.f k r9_0 r2_0 = some true ∧ laws_heldByteS.f k r6_k0 1 = some r6_0 ∧ ¬ (r6_0 < 0) ∧ ¬ (r6_0 < 0))
def laws_FnExactEncodeRoot.Pure : Prop := ∀ (a0 : List Int), (a0.length = 15 ∧ ∀ y ∈ a0, (Lit.int .i64 y).wf = true) → laws_FnExactEncodeRoot.Facts a0
set_option maxHeartbeats 8000000 in
set_option maxRecDepth 100000 in
theorem laws_FnExactEncodeRoot.calls (a0 : List Int) (n0 : a0.length = 15) (w : World)  (hf : laws_FnExactEncodeRoot.Facts a0) :
    Calls Try.prog 3 #[.agg (nums .i64 a0).toArray] w fun e w' => e = .returned (.bool true) ∧ Below w.heap.size w w' := by
  have N_0 := Aside0.mk n0; clear n0
  unfold laws_FnExactEncodeRoot.Facts at hf
  have HB0 : Aside0 (Below w.heap.size w w) := ⟨Below.refl _ _⟩
  obtain ⟨s0, Sz0⟩ : ∃ s0, Aside0 (w.heap.size = s0) := ⟨_, ⟨rfl⟩⟩
  have hw0 : w.heap.size ≤ s0 := Nat.le_of_eq Sz0.out
  have hw1 : s0 ≤ w.heap.size := Nat.le_of_eq Sz0.out.symm
  obtain ⟨k, r1_0, r2_0, r2_1, r3_0, r4_0, r6_0, r6_k0, r8_0, r9_0, eN1_0_, eE1_, eE2_, eN3_0_, eE3_, eE4_, eE5_, eE6_, eE7_, eN8_0_, eE8_, eE9_, eE10_, eE11_, h0_0_, h0_1_⟩ := hf
  have N1_0 := Aside0.mk eN1_0_
  clear eN1_0_
  have E1 := Aside0.mk eE1_
  clear eE1_
  have E2 := Aside0.mk eE2_
  clear eE2_
  have N3_0 := Aside0.mk eN3_0_
  clear eN3_0_
  have E3 := Aside0.mk eE3_
  clear eE3_
  have E4 := Aside0.mk eE4_
  clear eE4_
  have E5 := Aside0.mk eE5_
  clear eE5_
  have E6 := Aside0.mk eE6_
  clear eE6_
  have E7 := Aside0.mk eE7_
  clear eE7_
  have N8_0 := Aside0.mk eN8_0_
  clear eN8_0_
  have E8 := Aside0.mk eE8_
  clear eE8_
  have E9 := Aside0.mk eE9_
  clear eE9_
  have E10 := Aside0.mk eE10_
  clear eE10_
  have E11 := Aside0.mk eE11_
  clear eE11_
  (try (have h0_0__0 : decide (r6_0 < 0) = false := decide_eq_false h0_0_))
  (try (have h0_1__0 : decide (r6_0 < 0) = false := decide_eq_false h0_1_))
  go_enter Try.func3, Try.ntmps3
  go_wp2_with (first | ((with_reducible refine gate_dst (N := 1) rfl ?_); refine hx_box rfl 1 rfl 24 (.tmp 0) rfl Sz0 (.agg (nums .i64 a0).toArray) (nums .i64 a0).toArray rfl rfl ?_; intro w1 s1 L1 Sz1 b1 g_; have H1_1 := Aside0.mk g_; clear g_; have K0 := kept_below b1; have HB1 := Aside0.mk (below_then HB0.out HB0.out.size b1); clear b1; clear K0 HB0) | ((with_reducible refine gate_dst (N := 12) rfl ?_); refine hx_load rfl 24 (.tmp 1) rfl s0 15 rfl Try.underlying24 rfl (by kernel_rfl) H1_1.out (nums_size _ _ _ N_0.out) ?_) | ((with_reducible refine gate_dst (N := 13) rfl ?_); refine goesL_ (some 13) rfl rfl Try.func12 (by kernel_rfl) rfl #[.agg (nums .i64 a0).toArray] rfl (by (try simp only [List.map_toArray, List.map_cons, List.map_nil]); first | done | rfl) ?_; refine (laws_toRoot.calls _ N_0.out _ _ E1.out).mono ?_; rintro e_ w2 ⟨rfl, b2⟩; refine ⟨_, rfl, ?_⟩; obtain ⟨s2, L2, Sz2⟩ := size_letter Sz1 (kept_below b2); have K1 := kept_below b2; have HB2 := Aside0.mk (below_then HB1.out HB1.out.size b2); have H1_2 := Aside0.mk (blk_kept H1_1.out K1 (fun h_ => h_)); clear b2; clear K1 HB1 H1_1) | ((with_reducible refine gate_dst (N := 14) rfl ?_); refine goesL_ (some 14) rfl rfl Try.func11 (by kernel_rfl) rfl #[.agg (nums .i64 r1_0).toArray] rfl (by (try simp only [List.map_toArray, List.map_cons, List.map_nil]); first | done | rfl) ?_; refine (spec_EncodeRoot.calls _ N1_0.out _ _ _ E2.out).mono ?_; rintro e_ w3 ⟨v0_, rfl, R2_0, b3⟩; obtain ⟨A2_0, c2_0, rfl⟩ := Kd.R_slice R2_0; refine ⟨_, rfl, ?_⟩; obtain ⟨s3, L3, Sz3⟩ := size_letter Sz2 (kept_below b3); have O2_0_3 := own_btw R2_0 Sz2.out Sz3 HB2.out.size; clear R2_0; have K2 := kept_below b3; have HB3 := Aside0.mk (below_then HB2.out HB2.out.size b3); have H1_3 := Aside0.mk (blk_kept H1_2.out K2 (fun h_ => h_)); clear b3; clear K2 HB2 H1_2) | ((with_reducible refine gate_dst (N := 18) rfl ?_); refine hx_load rfl 24 (.tmp 1) rfl s0 15 rfl Try.underlying24 rfl (by kernel_rfl) H1_3.out (nums_size _ _ _ N_0.out) ?_) | ((with_reducible refine gate_dst (N := 19) rfl ?_); refine goesL_ (some 19) rfl rfl Try.func12 (by kernel_rfl) rfl #[.agg (nums .i64 a0).toArray] rfl (by (try simp only [List.map_toArray, List.map_cons, List.map_nil]); first | done | rfl) ?_; refine (laws_toRoot.calls _ N_0.out _ _ E3.out).mono ?_; rintro e_ w4 ⟨rfl, b4⟩; refine ⟨_, rfl, ?_⟩; obtain ⟨s4, L4, Sz4⟩ := size_letter Sz3 (kept_below b4); have K3 := kept_below b4; have HB4 := Aside0.mk (below_then HB3.out HB3.out.size b4); have H1_4 := Aside0.mk (blk_kept H1_3.out K3 (fun h_ => h_)); have O2_0_4 := Aside0.mk (Kd.R_kept O2_0_3.out K3 (fun _ _ h_ => h_)); clear b4; clear K3 HB3 H1_3 O2_0_3) | ((with_reducible refine gate_dst (N := 20) rfl ?_); refine goesL_ (some 20) rfl rfl Try.func13 (by kernel_rfl) rfl #[.agg (nums .i64 r3_0).toArray] rfl (by (try simp only [List.map_toArray, List.map_cons, List.map_nil]); first | done | rfl) ?_; refine (impl_EncodeRoot.calls _ N3_0.out _ _ _ E4.out).mono ?_; rintro e_ w5 ⟨v0_, rfl, R4_0, b5⟩; obtain ⟨A4_0, c4_0, rfl⟩ := Kd.R_slice R4_0; refine ⟨_, rfl, ?_⟩; obtain ⟨s5, L5, Sz5⟩ := size_letter Sz4 (kept_below b5); have O4_0_5 := own_btw R4_0 Sz4.out Sz5 HB4.out.size; clear R4_0; have K4 := kept_below b5; have HB5 := Aside0.mk (below_then HB4.out HB4.out.size b5); have H1_5 := Aside0.mk (blk_kept H1_4.out K4 (fun h_ => h_)); have O2_0_5 := Aside0.mk (Kd.R_kept O2_0_4.out K4 (fun _ _ h_ => h_)); clear b5; clear K4 HB4 H1_4 O2_0_4) | ((with_reducible refine gate_dst (N := 25) rfl ?_); refine goesL_ (some 25) rfl rfl Try.func14 (by kernel_rfl) rfl #[.slice A4_0 r4_0.length c4_0, .slice A2_0 r2_0.length c2_0] rfl (by (try simp only [List.map_toArray, List.map_cons, List.map_nil]); first | done | rfl) ?_; refine (laws_eqByteS.calls _ _ _ _ _ _ _ _ _ (Kd.R_reads' O4_0_5.out).2.2 (Kd.R_reads' O4_0_5.out).2.1 (Kd.R_reads' O2_0_5.out).2.2 (Kd.R_reads' O2_0_5.out).2.1 E5.out).mono ?_; rintro e_ w6 ⟨rfl, b_⟩; have b6 := kept_drawn b_; refine ⟨_, rfl, ?_⟩; obtain ⟨s6, L6, Sz6⟩ := size_letter Sz5 (kept_below b6); have K5 := kept_below b6; have HB6 := Aside0.mk (below_then HB5.out HB5.out.size b6); have H1_6 := Aside0.mk (blk_kept H1_5.out K5 (fun h_ => h_)); have O2_0_6 := Aside0.mk (Kd.R_kept O2_0_5.out K5 (fun _ _ h_ => h_)); have O4_0_6 := Aside0.mk (Kd.R_kept O4_0_5.out K5 (fun _ _ h_ => h_)); clear b6; clear K5 HB5 H1_5 O2_0_5 O4_0_5) | ((with_reducible refine gate_dst (N := 34) rfl ?_); refine goesL_ (some 34) rfl rfl Try.func15 (by kernel_rfl) rfl #[.slice A4_0 r4_0.length c4_0, .int .i64 1] rfl (by (try simp only [List.map_toArray, List.map_cons, List.map_nil]); first | done | rfl) ?_; refine (laws_markByteS.calls _ _ _ _ _ _ _ _ _ HB6.out O4_0_6.out E6.out).mono ?_; rintro e_ w7 ⟨rfl, R6_0, hb_, kp_⟩; refine ⟨_, rfl, ?_⟩; have K6 := Kept.mono kp_ (fun k_ hk_ => hk_); have HB7 := Aside0.mk hb_; obtain ⟨s7, L7, Sz7⟩ := size_letter Sz6 K6; have O4_0_7 := own_same R6_0 O4_0_6.out rfl; clear R6_0 kp_ hb_; have H1_7 := Aside0.mk (blk_kept H1_6.out K6 (fun h_ => by have h1_ := h_.1; have h2_ := h_.2; omega)); have O2_0_7 := Aside0.mk (Kd.R_kept O2_0_6.out K6 (fun k_ hk_ h_ => by have h1_ := hk_.1; have h2_ := hk_.2; have h3_ := h_.1; have h4_ := h_.2; omega)); clear K6 HB6 H1_6 O2_0_6; clear O4_0_6) | ((with_reducible refine gate_dst (N := 37) rfl ?_); refine goesL_ (some 37) rfl rfl Try.func16 (by kernel_rfl) rfl #[.slice A4_0 r4_0.length c4_0, .int .i64 1] rfl (by (try simp only [List.map_toArray, List.map_cons, List.map_nil]); first | done | rfl) ?_; refine calls_of_args (args' := #[.slice A4_0 r6_k0.length c4_0, .int .i64 1]) (by rw [(Kd.R_reads' O4_0_7.out).1]) ?_; refine (laws_heldByteS.calls _ _ _ _ _ _ _ (Kd.R_reads' O4_0_7.out).2.2 (by have h_ := Kd.R_reads' O4_0_7.out; rw [← h_.1]; exact h_.2.1) E7.out).mono ?_; rintro e_ w8 ⟨rfl, b_⟩; have b8 := kept_drawn b_; refine ⟨_, rfl, ?_⟩; obtain ⟨s8, L8, Sz8⟩ := size_letter Sz7 (kept_below b8); have K7 := kept_below b8; have HB8 := Aside0.mk (below_then HB7.out HB7.out.size b8); have H1_8 := Aside0.mk (blk_kept H1_7.out K7 (fun h_ => h_)); have O2_0_8 := Aside0.mk (Kd.R_kept O2_0_7.out K7 (fun _ _ h_ => h_)); have O4_0_8 := Aside0.mk (Kd.R_kept O4_0_7.out K7 (fun _ _ h_ => h_)); clear b8; clear K7 HB7 H1_7 O2_0_7 O4_0_7) | ((with_reducible refine gate_dst (N := 44) rfl ?_); refine hx_load rfl 24 (.tmp 1) rfl s0 15 rfl Try.underlying24 rfl (by kernel_rfl) H1_8.out (nums_size _ _ _ N_0.out) ?_) | ((with_reducible refine gate_dst (N := 45) rfl ?_); refine goesL_ (some 45) rfl rfl Try.func12 (by kernel_rfl) rfl #[.agg (nums .i64 a0).toArray] rfl (by (try simp only [List.map_toArray, List.map_cons, List.map_nil]); first | done | rfl) ?_; refine (laws_toRoot.calls _ N_0.out _ _ E8.out).mono ?_; rintro e_ w9 ⟨rfl, b9⟩; refine ⟨_, rfl, ?_⟩; obtain ⟨s9, L9, Sz9⟩ := size_letter Sz8 (kept_below b9); have K8 := kept_below b9; have HB9 := Aside0.mk (below_then HB8.out HB8.out.size b9); have H1_9 := Aside0.mk (blk_kept H1_8.out K8 (fun h_ => h_)); have O2_0_9 := Aside0.mk (Kd.R_kept O2_0_8.out K8 (fun _ _ h_ => h_)); have O4_0_9 := Aside0.mk (Kd.R_kept O4_0_8.out K8 (fun _ _ h_ => h_)); clear b9; clear K8 HB8 H1_8 O2_0_8 O4_0_8) | ((with_reducible refine gate_dst (N := 46) rfl ?_); refine goesL_ (some 46) rfl rfl Try.func13 (by kernel_rfl) rfl #[.agg (nums .i64 r8_0).toArray] rfl (by (try simp only [List.map_toArray, List.map_cons, List.map_nil]); first | done | rfl) ?_; refine (impl_EncodeRoot.calls _ N8_0.out _ _ _ E9.out).mono ?_; rintro e_ w10 ⟨v0_, rfl, R9_0, b10⟩; obtain ⟨A9_0, c9_0, rfl⟩ := Kd.R_slice R9_0; refine ⟨_, rfl, ?_⟩; obtain ⟨s10, L10, Sz10⟩ := size_letter Sz9 (kept_below b10); have O9_0_10 := own_btw R9_0 Sz9.out Sz10 HB9.out.size; clear R9_0; have K9 := kept_below b10; have HB10 := Aside0.mk (below_then HB9.out HB9.out.size b10); have H1_10 := Aside0.mk (blk_kept H1_9.out K9 (fun h_ => h_)); have O2_0_10 := Aside0.mk (Kd.R_kept O2_0_9.out K9 (fun _ _ h_ => h_)); have O4_0_10 := Aside0.mk (Kd.R_kept O4_0_9.out K9 (fun _ _ h_ => h_)); clear b10; clear K9 HB9 H1_9 O2_0_9 O4_0_9) | ((with_reducible refine gate_dst (N := 51) rfl ?_); refine goesL_ (some 51) rfl rfl Try.func14 (by kernel_rfl) rfl #[.slice A9_0 r9_0.length c9_0, .slice A2_0 r2_0.length c2_0] rfl (by (try simp only [List.map_toArray, List.map_cons, List.map_nil]); first | done | rfl) ?_; refine (laws_eqByteS.calls _ _ _ _ _ _ _ _ _ (Kd.R_reads' O9_0_10.out).2.2 (Kd.R_reads' O9_0_10.out).2.1 (Kd.R_reads' O2_0_10.out).2.2 (Kd.R_reads' O2_0_10.out).2.1 E10.out).mono ?_; rintro e_ w11 ⟨rfl, b_⟩; have b11 := kept_drawn b_; refine ⟨_, rfl, ?_⟩; obtain ⟨s11, L11, Sz11⟩ := size_letter Sz10 (kept_below b11); have K10 := kept_below b11; have HB11 := Aside0.mk (below_then HB10.out HB10.out.size b11); have H1_11 := Aside0.mk (blk_kept H1_10.out K10 (fun h_ => h_)); have O2_0_11 := Aside0.mk (Kd.R_kept O2_0_10.out K10 (fun _ _ h_ => h_)); have O4_0_11 := Aside0.mk (Kd.R_kept O4_0_10.out K10 (fun _ _ h_ => h_)); have O9_0_11 := Aside0.mk (Kd.R_kept O9_0_10.out K10 (fun _ _ h_ => h_)); clear b11; clear K10 HB10 H1_10 O2_0_10 O4_0_10 O9_0_10) | ((with_reducible refine gate_dst (N := 60) rfl ?_); refine goesL_ (some 60) rfl rfl Try.func16 (by kernel_rfl) rfl #[.slice A4_0 r4_0.length c4_0, .int .i64 1] rfl (by (try simp only [List.map_toArray, List.map_cons, List.map_nil]); first | done | rfl) ?_; refine calls_of_args (args' := #[.slice A4_0 r6_k0.length c4_0, .int .i64 1]) (by rw [(Kd.R_reads' O4_0_11.out).1]) ?_; refine (laws_heldByteS.calls _ _ _ _ _ _ _ (Kd.R_reads' O4_0_11.out).2.2 (by have h_ := Kd.R_reads' O4_0_11.out; rw [← h_.1]; exact h_.2.1) E11.out).mono ?_; rintro e_ w12 ⟨rfl, b_⟩; have b12 := kept_drawn b_; refine ⟨_, rfl, ?_⟩; obtain ⟨s12, L12, Sz12⟩ := size_letter Sz11 (kept_below b12); have K11 := kept_below b12; have HB12 := Aside0.mk (below_then HB11.out HB11.out.size b12); have H1_12 := Aside0.mk (blk_kept H1_11.out K11 (fun h_ => h_)); have O2_0_12 := Aside0.mk (Kd.R_kept O2_0_11.out K11 (fun _ _ h_ => h_)); have O4_0_12 := Aside0.mk (Kd.R_kept O4_0_11.out K11 (fun _ _ h_ => h_)); have O9_0_12 := Aside0.mk (Kd.R_kept O9_0_11.out K11 (fun _ _ h_ => h_)); clear b12; clear K11 HB11 H1_11 O2_0_11 O4_0_11 O9_0_11))
  go_ret
  exact ⟨rfl, HB12.out⟩

end Go.Proofs.Ytkghgjehjchajaa.PFnExactEncodeRoot
