-- Written by a program of this session (patch_print.py over the kit print)
import Derived.Test.YtkghgjehjchajaaPFnExactLowestInodex0
import Derived.Test.YtkghgjehjchajaaPFnExactLowestInodex2
namespace Go.Proofs.Ytkghgjehjchajaa.PFnExactLowestInode
open Go.RowKit Go.Proofs.YtkghgjehjchajaaW.PrintWords Go.Proofs.YtkghgjehjchajaaW.PrintLast Go.Proofs.YtkghgjehjchajaaW.PrintMore
attribute [local go_sem] max2_int min2_int max_two min_two max_three min_three max_four min_four   -- for this text's walks alone
set_option linter.unusedVariables false
set_option linter.unusedSimpArgs false

open Go.Proofs.YtkghgjehjchajaaW Go.Proofs.YtkghgjehjchajaaW.PrintHand Go.Proofs.YtkghgjehjchajaaW.PrintHx
/-! ### laws_eqInodeS: function 31 -/
def laws_eqInodeS.f (l0 l1 : List (List Int)) : Option Bool := if l0 = l1 then some true else none
set_option maxHeartbeats 8000000 in
set_option maxRecDepth 100000 in
theorem laws_eqInodeS.calls (A0 : Option Addr) (c0 : Nat) (l0 : List (List Int)) (A1 : Option Addr) (c1 : Nat) (l1 : List (List Int)) (r : Bool) (w : World) (hr0 : Kd.C (PrintHx.wide 24) w A0 l0.length l0) (hc0 : l0.length ≤ c0) (hr1 : Kd.C (PrintHx.wide 24) w A1 l1.length l1) (hc1 : l1.length ≤ c1) (h : laws_eqInodeS.f l0 l1 = some r) :
    Calls Try.prog 31 #[.slice A0 l0.length c0, .slice A1 l1.length c1] w fun e w' => e = .returned (.bool r) ∧ Below w.heap.size w w' := by
  unfold laws_eqInodeS.f at h
  by_cases he : l0 = l1
  case neg => rw [if_neg he] at h; cases h
  rw [if_pos he] at h
  obtain rfl := Option.some.inj h
  subst he
  have HR0 := Aside0.mk hr0
  have HR1 := Aside0.mk hr1
  have HM := Aside0.mk (show l0.length ≤ 9223372036854775807 from hr0.2.1)
  clear hr0 hc0 hr1 hc1 h
  have hn_ : ((l0.length : Int) != (l0.length : Int)) = false := by simp
  go_enter Try.func31, Try.ntmps31
  go_wp2
  go_loopw [5] (fun v5 wr => ∃ j : Nat, v5 = .int .i64 (j : Int) ∧ Aside0 (j ≤ l0.length) ∧ Aside0 (Below w.heap.size w wr)) (fun v5 _ => l0.length - (intOf v5).toNat)
  case atStart => exact ⟨0, rfl, ⟨Nat.zero_le _⟩, ⟨Below.refl _ _⟩⟩
  case round =>
    obtain ⟨j, rfl, hj, HB⟩ := hrel
    by_cases c9 : j < l0.length
    · have c9b0 : decide ((j : Int) < (l0.length : Int)) = true := decide_eq_true (by omega)
      have c9b1 : decide (j < l0.length) = true := decide_eq_true c9
      obtain ⟨ad, ea, hl, hc⟩ := wide_at (Kd.C_below HR0.out HB.out) j c9
      subst ea
      obtain ⟨ad1, ea1, hl1, hc1⟩ := wide_at (Kd.C_below HR1.out HB.out) j c9
      subst ea1
      obtain ⟨x, hx⟩ : ∃ x, x = l0.getD j [] := ⟨_, rfl⟩
      rw [← hx] at hl hc hc1
      have HL := Aside0.mk hl
      have HC := Aside0.mk hc
      have HC1 := Aside0.mk hc1
      clear hx hl hc hc1 hl1
      have q3 : ((j : Int) < (l0.length : Int)) = True := eq_true (by omega)
      have q4 : (0 ≤ (j : Int)) = True := eq_true (by omega)
      have q5 : (j < l0.length) = True := eq_true c9
      have C9 := Aside0.mk c9
      clear c9
      go_wp2
      refine PrintQTail.wp_region_quiet_tail 8 (by kernel_rfl) (by kernel_rfl) ?_
      simp only [List.take_succ_cons, List.take_zero, List.drop_succ_cons, List.drop_zero]
      quiet_step (fail)
      quiet_step (fail)
      quiet_step (fail)
      refine quiet_load_at rfl 42 (.tmp 19) rfl (ad.add (j * 24)) rfl x 24 Try.underlying42 rfl (by kernel_rfl) HL.out (fun i hi => by rw [Addr.add_add]; exact HC.out i hi) ?_
      quiet_step (fail)
      quiet_step (fail)
      quiet_step (fail)
      refine quiet_load_at rfl 42 (.tmp 23) rfl (ad1.add (j * 24)) rfl x 24 Try.underlying42 rfl (by kernel_rfl) HL.out (fun i hi => by rw [Addr.add_add]; exact HC1.out i hi) ?_
      refine wpQuiet_nil ?_
      intro w_ hw_
      obtain ⟨nq, rfl⟩ := hw_
      go_wp2_with (first | ((with_reducible refine gate_dst (N := 25) rfl ?_); refine goesL_ (some 25) rfl rfl Try.func26 (by kernel_rfl) rfl #[.agg (nums .i64 x).toArray, .agg (nums .i64 x).toArray] rfl (by (try simp only [List.map_toArray, List.map_cons, List.map_nil]); first | done | rfl) ?_; refine (laws_eqInode.calls _ HL.out _ HL.out _ _ (if_pos rfl)).mono ?_; rintro e_ w2 ⟨rfl, b2⟩; refine ⟨_, rfl, ?_⟩; have HB4 := Aside0.mk (below_then (pw_below_drewN HB.out nq) (pw_below_drewN HB.out nq).size b2); clear b2 HB))
      go_roundw
      case rel => exact ⟨j + 1, by rw [show wrap64 ((j : Int) + 1) = ((j + 1 : Nat) : Int) by (have := HM.out; have := C9.out; unfold wrap64; omega)], ⟨by have := C9.out; omega⟩, HB4⟩
      case measure =>
        rw [show wrap64 ((j : Int) + 1) = ((j + 1 : Nat) : Int) by (have := HM.out; have := C9.out; unfold wrap64; omega)]
        simp only [intOf, Int.toNat_natCast]
        have := C9.out
        omega
    · have c9b0 : decide ((j : Int) < (l0.length : Int)) = false := decide_eq_false (by omega)
      have c9b1 : decide (j < l0.length) = false := decide_eq_false c9
      go_wp2
      go_ret
      exact ⟨rfl, HB.out⟩

open Go.Proofs.YtkghgjehjchajaaW Go.Proofs.YtkghgjehjchajaaW.PrintHand Go.Proofs.YtkghgjehjchajaaW.PrintHx
/-! ### impl_LowestInode: function 37 -/
def impl_LowestInode.f (l0 : List (List Int)) : Option Int := some (lowest l0 999 2)
set_option maxHeartbeats 8000000 in
set_option maxRecDepth 100000 in
theorem impl_LowestInode.calls (A0 : Option Addr) (c0 : Nat) (l0 : List (List Int)) (r : Int) (w : World) (hr0 : Kd.C (PrintHx.wide 24) w A0 l0.length l0) (hc0 : l0.length ≤ c0) (h : impl_LowestInode.f l0 = some r) :
    Calls Try.prog 37 #[.slice A0 l0.length c0] w fun e w' => e = .returned (.int .i64 r) ∧ Drawn0 w w' := by
  have HR0 := Aside0.mk hr0
  have H := Aside0.mk (Option.some.inj h)
  clear hr0 hc0 h
  go_enter Try.func37, Try.ntmps37
  go_wp2
  go_loop [3] (fun v3 => ∃ j : Nat, v3 = .int .i64 (j : Int) ∧ Aside0 (2 ≤ j ∧ j ≤ 1001) ∧ Aside0 (lowest l0 (1001 - j) j = r)) (fun v3 => 1001 - (intOf v3).toNat)
  case atStart => exact ⟨2, rfl, ⟨by omega⟩, H⟩
  case round =>
    clear H
    obtain ⟨j, rfl, hj, H⟩ := hrel
    by_cases c9 : j ≤ 1000
    · have c9b0 : decide ((j : Int) ≤ 1000) = true := decide_eq_true (by omega)
      have c9b1 : decide (j ≤ 1000) = true := decide_eq_true c9
      have h := H.out
      rw [show 1001 - j = (1000 - j) + 1 by omega, lowest] at h
      clear H
      by_cases c10 : l0.length ≤ j
      · rw [if_pos c10] at h
        subst h
        have c10b0 : decide ((l0.length : Int) ≤ (j : Int)) = true := decide_eq_true (by omega)
        have c10b1 : decide (l0.length ≤ j) = true := decide_eq_true c10
        clear c9 c10
        go_wp2
        go_ret
        exact ⟨rfl, Drawn0.refl _⟩
      · rw [if_neg c10] at h
        have c10b0 : decide ((l0.length : Int) ≤ (j : Int)) = false := decide_eq_false (by omega)
        have c10b1 : decide (l0.length ≤ j) = false := decide_eq_false c10
        obtain ⟨ad, ea, hl, hc⟩ := wide_at HR0.out j (by omega)
        subst ea
        obtain ⟨x, hx⟩ : ∃ x, x = (l0.getD j []).getD 0 0 := ⟨_, rfl⟩
        have hc0 := hc 0 (by omega)
        rw [← hx, Nat.add_zero] at hc0
        rw [← hx] at h
        clear hx hl hc
        have q3 : ((j : Int) < (l0.length : Int)) = True := eq_true (by omega)
        have q4 : (0 ≤ (j : Int)) = True := eq_true (by omega)
        have q5 : (j < l0.length) = True := eq_true (by omega)
        by_cases c11 : x = 0
        · rw [if_pos c11] at h
          subst h
          have c11b0 : (x == 0) = true := beq_iff_eq.mpr c11
          clear c9 c10 c11
          go_wp2
          go_ret
          exact ⟨rfl, Drawn0.refl _⟩
        · rw [if_neg c11] at h
          have c11b0 : (x == 0) = false := beq_eq_false_iff_ne.mpr c11
          have H' := Aside0.mk h
          have C9 := Aside0.mk c9
          clear c9 c10 c11 h
          go_wp2
          go_round
          case rel => exact ⟨j + 1, by rw [show wrap64 ((j : Int) + 1) = ((j + 1 : Nat) : Int) by (have := C9.out; unfold wrap64; omega)], ⟨by have := C9.out; have := hj.out; omega⟩, ⟨by rw [show 1001 - (j + 1) = 1000 - j by omega]; exact H'.out⟩⟩
          case measure =>
            rw [show wrap64 ((j : Int) + 1) = ((j + 1 : Nat) : Int) by (have := C9.out; unfold wrap64; omega)]
            simp only [intOf, Int.toNat_natCast]
            have := C9.out
            omega
    · have c9b0 : decide ((j : Int) ≤ 1000) = false := decide_eq_false (by omega)
      have c9b1 : decide (j ≤ 1000) = false := decide_eq_false c9
      have h := H.out
      rw [show 1001 - j = 0 by omega, lowest] at h
      subst h
      clear c9 H
      go_wp2
      go_ret
      exact ⟨rfl, Drawn0.refl _⟩

end Go.Proofs.Ytkghgjehjchajaa.PFnExactLowestInode
