-- Written by a program of this session (patch_print.py over the kit print)
import Derived.Test.YtkghgjehjchajaaPFnExactLowestInodex0
import Derived.Test.YtkghgjehjchajaaPFnExactLowestInodex1
import Derived.Test.YtkghgjehjchajaaPFnExactLowestInodex2
import Derived.Test.YtkghgjehjchajaaPFnExactLowestInodex3
namespace Go.Proofs.Ytkghgjehjchajaa.PFnExactLowestInode
open Go.RowKit Go.Proofs.YtkghgjehjchajaaW.PrintWords Go.Proofs.YtkghgjehjchajaaW.PrintLast Go.Proofs.YtkghgjehjchajaaW.PrintMore
attribute [local go_sem] max2_int min2_int max_two min_two max_three min_three max_four min_four   -- for this text's walks alone
set_option linter.unusedVariables false
set_option linter.unusedSimpArgs false

open Go.Proofs.YtkghgjehjchajaaW Go.Proofs.YtkghgjehjchajaaW.PrintHand Go.Proofs.YtkghgjehjchajaaW.PrintHx
/-! ### spec_LowestInode: function 40 -/
def spec_LowestInode.f (l0 : List (List Int)) : Option Int := some (lowest l0 999 2)
set_option maxHeartbeats 8000000 in
set_option maxRecDepth 100000 in
theorem spec_LowestInode.calls (A0 : Option Addr) (c0 : Nat) (l0 : List (List Int)) (r : Int) (w : World) (hr0 : Kd.C (PrintHx.wide 24) w A0 l0.length l0) (hc0 : l0.length ≤ c0) (h : spec_LowestInode.f l0 = some r) :
    Calls Try.prog 40 #[.slice A0 l0.length c0] w fun e w' => e = .returned (.int .i64 r) ∧ Drawn0 w w' := by
  have HR0 := Aside0.mk hr0
  have H := Aside0.mk (Option.some.inj h)
  clear hr0 hc0 h
  go_enter Try.func40, Try.ntmps40
  go_wp2
  go_loop [3] (fun v3 => ∃ j : Nat, v3 = .int .i64 (j : Int) ∧ Aside0 (2 ≤ j ∧ j ≤ 1001) ∧ Aside0 (lowest l0 (1001 - j) j = r)) (fun v3 => 1001 - (intOf v3).toNat)
  case atStart => exact ⟨2, rfl, ⟨by omega⟩, H⟩
  case round =>
    clear H
    obtain ⟨j, rfl, hj, H⟩ := hrel
    by_cases c9 : j ≤ 1000
    · have c9b0 : decide ((j : Int) ≤ 1000) = true := decide_eq_true (by omega)
      have c9b1 : decide (j ≤ 1000) = true := decide_eq_true c9
      have h := H.out
      rw [show 1001 - j = (1000 - j) + 1 by omega, lowest] at h
      clear H
      by_cases c10 : l0.length ≤ j
      · rw [if_pos c10] at h
        subst h
        have c10b0 : decide ((l0.length : Int) ≤ (j : Int)) = true := decide_eq_true (by omega)
        have c10b1 : decide (l0.length ≤ j) = true := decide_eq_true c10
        clear c9 c10
        go_wp2
        go_ret
        exact ⟨rfl, Drawn0.refl _⟩
      · rw [if_neg c10] at h
        have c10b0 : decide ((l0.length : Int) ≤ (j : Int)) = false := decide_eq_false (by omega)
        have c10b1 : decide (l0.length ≤ j) = false := decide_eq_false c10
        obtain ⟨ad, ea, hl, hc⟩ := wide_at HR0.out j (by omega)
        subst ea
        obtain ⟨x, hx⟩ : ∃ x, x = (l0.getD j []).getD 0 0 := ⟨_, rfl⟩
        have hc0 := hc 0 (by omega)
        rw [← hx, Nat.add_zero] at hc0
        rw [← hx] at h
        clear hx hl hc
        have q3 : ((j : Int) < (l0.length : Int)) = True := eq_true (by omega)
        have q4 : (0 ≤ (j : Int)) = True := eq_true (by omega)
        have q5 : (j < l0.length) = True := eq_true (by omega)
        by_cases c11 : x = 0
        · rw [if_pos c11] at h
          subst h
          have c11b0 : (x == 0) = true := beq_iff_eq.mpr c11
          clear c9 c10 c11
          go_wp2
          go_ret
          exact ⟨rfl, Drawn0.refl _⟩
        · rw [if_neg c11] at h
          have c11b0 : (x == 0) = false := beq_eq_false_iff_ne.mpr c11
          have H' := Aside0.mk h
          have C9 := Aside0.mk c9
          clear c9 c10 c11 h
          go_wp2
          go_round
          case rel => exact ⟨j + 1, by rw [show wrap64 ((j : Int) + 1) = ((j + 1 : Nat) : Int) by (have := C9.out; unfold wrap64; omega)], ⟨by have := C9.out; have := hj.out; omega⟩, ⟨by rw [show 1001 - (j + 1) = 1000 - j by omega]; exact H'.out⟩⟩
          case measure =>
            rw [show wrap64 ((j : Int) + 1) = ((j + 1 : Nat) : Int) by (have := C9.out; unfold wrap64; omega)]
            simp only [intOf, Int.toNat_natCast]
            have := C9.out
            omega
    · have c9b0 : decide ((j : Int) ≤ 1000) = false := decide_eq_false (by omega)
      have c9b1 : decide (j ≤ 1000) = false := decide_eq_false c9
      have h := H.out
      rw [show 1001 - j = 0 by omega, lowest] at h
      subst h
      clear c9 H
      go_wp2
      go_ret
      exact ⟨rfl, Drawn0.refl _⟩

open Go.Proofs.YtkghgjehjchajaaW Go.Proofs.YtkghgjehjchajaaW.PrintHand Go.Proofs.YtkghgjehjchajaaW.PrintHx
/-! ### laws_FnExactLowestInode: function 10 -/
def laws_FnExactLowestInode.Facts (l0 : List (List Int)) : Prop := (∃ (r1_0 : Int), laws_szInodeS.f l0 1048576 = some r1_0 ∧ (¬ (r1_0 < 0) → (∃ (r2_0 : List (List Int)) (r3_0 : Int) (r4_0 : List (List Int)) (r6_0 : List (List Int)), laws_toInodeS.f l0 = some r2_0 ∧ spec_LowestInode.f r2_0 = some r3_0 ∧ laws_toInodeS.f l0 = some r4_0 ∧ impl_LowestInode.f r4_0 = some r3_0 ∧ laws_toInodeS.f l0 = some r6_0 ∧ laws_eqInodeS.f r4_0 r6_0 = some true)))
def laws_FnExactLowestInode.Pure : Prop := ∀ (l0 : List (List Int)), (l0.length ≤ maxLen ∧ ∀ q101 ∈ l0, (q101.length = 24 ∧ ∀ y ∈ q101, (Lit.int .i64 y).wf = true)) → laws_FnExactLowestInode.Facts l0
set_option maxHeartbeats 8000000 in
set_option maxRecDepth 100000 in
theorem laws_FnExactLowestInode.calls (A0 : Option Addr) (c0 : Nat) (l0 : List (List Int)) (w : World) (hr0 : Kd.C (PrintHx.wide 24) w A0 l0.length l0) (hc0 : l0.length ≤ c0) (hf : laws_FnExactLowestInode.Facts l0) :
    Calls Try.prog 10 #[.slice A0 l0.length c0] w fun e w' => e = .returned (.bool true) ∧ Below w.heap.size w w' := by
  have HR0 := Aside0.mk hr0; have HC0 := Aside0.mk hc0; clear hr0 hc0
  unfold laws_FnExactLowestInode.Facts at hf
  have HB0 : Aside0 (Below w.heap.size w w) := ⟨Below.refl _ _⟩
  obtain ⟨s0, Sz0⟩ : ∃ s0, Aside0 (w.heap.size = s0) := ⟨_, ⟨rfl⟩⟩
  have hw0 : w.heap.size ≤ s0 := Nat.le_of_eq Sz0.out
  have hw1 : s0 ≤ w.heap.size := Nat.le_of_eq Sz0.out.symm
  obtain ⟨r1_0, eE1_, hf⟩ := hf
  have E1 := Aside0.mk eE1_
  clear eE1_
  by_cases g0_ : r1_0 < 0
  · clear hf
    (try (have g0__0 : decide (r1_0 < 0) = true := decide_eq_true g0_))
    go_enter Try.func10, Try.ntmps10
    go_wp2_with (first | ((with_reducible refine gate_dst (N := 9) rfl ?_); refine goesL_ (some 9) rfl rfl Try.func27 (by kernel_rfl) rfl #[.slice A0 l0.length c0, .int .i64 1048576] rfl (by (try simp only [List.map_toArray, List.map_cons, List.map_nil]); first | done | rfl) ?_; refine (laws_szInodeS.calls _ _ _ _ _ _ (Kd.C_below HR0.out HB0.out) HC0.out E1.out).mono ?_; rintro e_ w1 ⟨rfl, b_⟩; have b1 := kept_drawn b_; refine ⟨_, rfl, ?_⟩; obtain ⟨s1, L1, Sz1⟩ := size_letter Sz0 (kept_below b1); have K0 := kept_below b1; have HB1 := Aside0.mk (below_then HB0.out HB0.out.size b1); clear b1; clear K0 HB0))
    go_ret
    exact ⟨rfl, HB1.out⟩
  replace hf := hf g0_
  (try (have g0__0 : decide (r1_0 < 0) = false := decide_eq_false g0_))
  have G0_ := Aside0.mk g0_
  clear g0_
  obtain ⟨r2_0, r3_0, r4_0, r6_0, eE2_, eE3_, eE4_, eE5_, eE6_, eE7_⟩ := hf
  have E2 := Aside0.mk eE2_
  clear eE2_
  have E3 := Aside0.mk eE3_
  clear eE3_
  have E4 := Aside0.mk eE4_
  clear eE4_
  have E5 := Aside0.mk eE5_
  clear eE5_
  have E6 := Aside0.mk eE6_
  clear eE6_
  have E7 := Aside0.mk eE7_
  clear eE7_
  go_enter Try.func10, Try.ntmps10
  go_wp2_with (first | ((with_reducible refine gate_dst (N := 9) rfl ?_); refine goesL_ (some 9) rfl rfl Try.func27 (by kernel_rfl) rfl #[.slice A0 l0.length c0, .int .i64 1048576] rfl (by (try simp only [List.map_toArray, List.map_cons, List.map_nil]); first | done | rfl) ?_; refine (laws_szInodeS.calls _ _ _ _ _ _ (Kd.C_below HR0.out HB0.out) HC0.out E1.out).mono ?_; rintro e_ w1 ⟨rfl, b_⟩; have b1 := kept_drawn b_; refine ⟨_, rfl, ?_⟩; obtain ⟨s1, L1, Sz1⟩ := size_letter Sz0 (kept_below b1); have K0 := kept_below b1; have HB1 := Aside0.mk (below_then HB0.out HB0.out.size b1); clear b1; clear K0 HB0) | ((with_reducible refine gate_dst (N := 13) rfl ?_); refine goesL_ (some 13) rfl rfl Try.func29 (by kernel_rfl) rfl #[.slice A0 l0.length c0] rfl (by (try simp only [List.map_toArray, List.map_cons, List.map_nil]); first | done | rfl) ?_; refine (laws_toInodeS.calls _ _ _ _ _ (Kd.C_below HR0.out HB1.out) HC0.out E2.out).mono ?_; rintro e_ w2 ⟨v0_, rfl, R2_0, b2⟩; obtain ⟨A2_0, c2_0, rfl⟩ := Kd.R_slice R2_0; refine ⟨_, rfl, ?_⟩; obtain ⟨s2, L2, Sz2⟩ := size_letter Sz1 (kept_below b2); have O2_0_2 := own_btw R2_0 Sz1.out Sz2 HB1.out.size; clear R2_0; have K1 := kept_below b2; have HB2 := Aside0.mk (below_then HB1.out HB1.out.size b2); clear b2; clear K1 HB1) | ((with_reducible refine gate_dst (N := 14) rfl ?_); refine goesL_ (some 14) rfl rfl Try.func40 (by kernel_rfl) rfl #[.slice A2_0 r2_0.length c2_0] rfl (by (try simp only [List.map_toArray, List.map_cons, List.map_nil]); first | done | rfl) ?_; refine (spec_LowestInode.calls _ _ _ _ _ (Kd.R_reads' O2_0_2.out).2.2 (Kd.R_reads' O2_0_2.out).2.1 E3.out).mono ?_; rintro e_ w3 ⟨rfl, b_⟩; have b3 := kept_drawn b_; refine ⟨_, rfl, ?_⟩; obtain ⟨s3, L3, Sz3⟩ := size_letter Sz2 (kept_below b3); have K2 := kept_below b3; have HB3 := Aside0.mk (below_then HB2.out HB2.out.size b3); have O2_0_3 := Aside0.mk (Kd.R_kept O2_0_2.out K2 (fun _ _ h_ => h_)); clear b3; clear K2 HB2 O2_0_2) | ((with_reducible refine gate_dst (N := 16) rfl ?_); refine goesL_ (some 16) rfl rfl Try.func29 (by kernel_rfl) rfl #[.slice A0 l0.length c0] rfl (by (try simp only [List.map_toArray, List.map_cons, List.map_nil]); first | done | rfl) ?_; refine (laws_toInodeS.calls _ _ _ _ _ (Kd.C_below HR0.out HB3.out) HC0.out E4.out).mono ?_; rintro e_ w4 ⟨v0_, rfl, R4_0, b4⟩; obtain ⟨A4_0, c4_0, rfl⟩ := Kd.R_slice R4_0; refine ⟨_, rfl, ?_⟩; obtain ⟨s4, L4, Sz4⟩ := size_letter Sz3 (kept_below b4); have O4_0_4 := own_btw R4_0 Sz3.out Sz4 HB3.out.size; clear R4_0; have K3 := kept_below b4; have HB4 := Aside0.mk (below_then HB3.out HB3.out.size b4); have O2_0_4 := Aside0.mk (Kd.R_kept O2_0_3.out K3 (fun _ _ h_ => h_)); clear b4; clear K3 HB3 O2_0_3) | ((with_reducible refine gate_dst (N := 18) rfl ?_); refine goesL_ (some 18) rfl rfl Try.func37 (by kernel_rfl) rfl #[.slice A4_0 r4_0.length c4_0] rfl (by (try simp only [List.map_toArray, List.map_cons, List.map_nil]); first | done | rfl) ?_; refine (impl_LowestInode.calls _ _ _ _ _ (Kd.R_reads' O4_0_4.out).2.2 (Kd.R_reads' O4_0_4.out).2.1 E5.out).mono ?_; rintro e_ w5 ⟨rfl, b_⟩; have b5 := kept_drawn b_; refine ⟨_, rfl, ?_⟩; obtain ⟨s5, L5, Sz5⟩ := size_letter Sz4 (kept_below b5); have K4 := kept_below b5; have HB5 := Aside0.mk (below_then HB4.out HB4.out.size b5); have O2_0_5 := Aside0.mk (Kd.R_kept O2_0_4.out K4 (fun _ _ h_ => h_)); have O4_0_5 := Aside0.mk (Kd.R_kept O4_0_4.out K4 (fun _ _ h_ => h_)); clear b5; clear K4 HB4 O2_0_4 O4_0_4) | ((with_reducible refine gate_dst (N := 24) rfl ?_); refine goesL_ (some 24) rfl rfl Try.func29 (by kernel_rfl) rfl #[.slice A0 l0.length c0] rfl (by (try simp only [List.map_toArray, List.map_cons, List.map_nil]); first | done | rfl) ?_; refine (laws_toInodeS.calls _ _ _ _ _ (Kd.C_below HR0.out HB5.out) HC0.out E6.out).mono ?_; rintro e_ w6 ⟨v0_, rfl, R6_0, b6⟩; obtain ⟨A6_0, c6_0, rfl⟩ := Kd.R_slice R6_0; refine ⟨_, rfl, ?_⟩; obtain ⟨s6, L6, Sz6⟩ := size_letter Sz5 (kept_below b6); have O6_0_6 := own_btw R6_0 Sz5.out Sz6 HB5.out.size; clear R6_0; have K5 := kept_below b6; have HB6 := Aside0.mk (below_then HB5.out HB5.out.size b6); have O2_0_6 := Aside0.mk (Kd.R_kept O2_0_5.out K5 (fun _ _ h_ => h_)); have O4_0_6 := Aside0.mk (Kd.R_kept O4_0_5.out K5 (fun _ _ h_ => h_)); clear b6; clear K5 HB5 O2_0_5 O4_0_5) | ((with_reducible refine gate_dst (N := 25) rfl ?_); refine goesL_ (some 25) rfl rfl Try.func31 (by kernel_rfl) rfl #[.slice A4_0 r4_0.length c4_0, .slice A6_0 r6_0.length c6_0] rfl (by (try simp only [List.map_toArray, List.map_cons, List.map_nil]); first | done | rfl) ?_; refine (laws_eqInodeS.calls _ _ _ _ _ _ _ _ (Kd.R_reads' O4_0_6.out).2.2 (Kd.R_reads' O4_0_6.out).2.1 (Kd.R_reads' O6_0_6.out).2.2 (Kd.R_reads' O6_0_6.out).2.1 E7.out).mono ?_; rintro e_ w7 ⟨rfl, b7⟩; refine ⟨_, rfl, ?_⟩; obtain ⟨s7, L7, Sz7⟩ := size_letter Sz6 (kept_below b7); have K6 := kept_below b7; have HB7 := Aside0.mk (below_then HB6.out HB6.out.size b7); have O2_0_7 := Aside0.mk (Kd.R_kept O2_0_6.out K6 (fun _ _ h_ => h_)); have O4_0_7 := Aside0.mk (Kd.R_kept O4_0_6.out K6 (fun _ _ h_ => h_)); have O6_0_7 := Aside0.mk (Kd.R_kept O6_0_6.out K6 (fun _ _ h_ => h_)); clear b7; clear K6 HB6 O2_0_6 O4_0_6 O6_0_6))
  go_ret
  exact ⟨rfl, HB7.out⟩

end Go.Proofs.Ytkghgjehjchajaa.PFnExactLowestInode
