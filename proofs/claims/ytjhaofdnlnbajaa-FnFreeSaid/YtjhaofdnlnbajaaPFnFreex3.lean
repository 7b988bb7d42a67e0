-- Written by a program of this session (patch_print.py over the kit print)
import Derived.Test.YtjhaofdnlnbajaaPFnFreex0
import Derived.Test.YtjhaofdnlnbajaaPFnFreex2
namespace Go.Proofs.Ytjhaofdnlnbajaa.PFnFree
open Go.RowKit Go.Proofs.YtjhaofdnlnbajaaW.PrintWords Go.Proofs.YtjhaofdnlnbajaaW.PrintLast Go.Proofs.YtjhaofdnlnbajaaW.PrintMore
attribute [local go_sem] max2_int min2_int max_two min_two max_three min_three max_four min_four   -- for this text's walks alone
set_option linter.unusedVariables false
set_option linter.unusedSimpArgs false

open Go.Proofs.YtjhaofdnlnbajaaW Go.Proofs.YtjhaofdnlnbajaaW.PrintHand Go.Proofs.YtjhaofdnlnbajaaW.PrintHx
/-! ### impl_mapRight: function 55 -/
theorem impl_mapRight.hW (a b c : Int) : impl_within.f a b c = some (decide (b ≤ a ∧ a ≤ c)) := by
  unfold impl_within.f
  by_cases h : b ≤ a <;> simp [h]
theorem impl_mapRight.lit (a0 : Int) (w : World) (b' : Bool) (hb' : b' = !decide (0 ≤ a0 ∧ a0 ≤ 4294967295)) :
    Calls Try.prog 66 #[.int .i64 a0] w fun e w' => e = .returned (.bool b') ∧ Drawn0 w w' := by
  obtain ⟨b, hb⟩ : ∃ b, b = decide (0 ≤ a0 ∧ a0 ≤ 4294967295) := ⟨_, rfl⟩
  have HW := Aside0.mk (show impl_within.f a0 0 4294967295 = some b by rw [impl_mapRight.hW, hb])
  rw [← hb] at hb'
  have HB' := Aside0.mk hb'
  clear hb hb'
  go_enter Try.func66, Try.ntmps66
  go_wp2_with (first | (go_at_call 47; refine (impl_within.calls a0 0 4294967295 b _ HW.out).mono ?_; rintro e_ w_ ⟨rfl, ⟨nd, rfl⟩⟩))
  go_ret
  exact ⟨by rw [HB'.out]; rfl, by repeat (first | exact Drawn0.refl _ | apply Drawn0.step)⟩
def impl_mapRight.bad (l : List Int) : Prop := ∃ x ∈ l, ¬ (0 ≤ x ∧ x ≤ 4294967295)
instance (l : List Int) : Decidable (impl_mapRight.bad l) := by unfold impl_mapRight.bad; infer_instance
set_option maxHeartbeats 4000000 in
set_option maxRecDepth 100000 in
theorem impl_mapRight.indexes (A0 : Option Addr) (c0 : Nat) (l0 : List Int) (w : World) (hr0 : Kd.C (Kd.int .i64) w A0 l0.length l0) (hc0 : l0.length ≤ c0) (hl : l0.length ≤ 2048) :
    Calls Try.prog 69 #[.slice A0 l0.length c0, .func (.func 66) #[] #[]] w fun e w' => ∃ r : Int, e = .returned (.int .i64 r) ∧ Aside0 (0 ≤ r ↔ impl_mapRight.bad l0) ∧ Drawn0 w w' := by
  have HR0 := Aside0.mk hr0
  have HC0 := Aside0.mk hc0
  have HL := Aside0.mk hl
  clear hr0 hc0 hl
  go_enter Try.func69, Try.ntmps69
  go_wp2
  go_loopw [8] (fun v8 wr => ∃ i : Nat, v8 = .int .i64 (i : Int) ∧ Aside0 (i ≤ l0.length) ∧ Aside0 (∀ j (h : j < l0.length), j < i → 0 ≤ l0[j] ∧ l0[j] ≤ 4294967295) ∧ Drawn0 w wr) (fun v8 _ => l0.length - (intOf v8).toNat)
  case atStart => exact ⟨0, rfl, ⟨Nat.zero_le _⟩, ⟨fun j _ h => absurd h (Nat.not_lt_zero _)⟩, Drawn0.refl _⟩
  case round =>
    obtain ⟨i, rfl, hi, hall, ⟨m2, rfl⟩⟩ := hrel
    by_cases c9 : (i : Int) < (l0.length : Int)
    · have c9b0 : decide ((i : Int) < (l0.length : Int)) = true := decide_eq_true c9
      have c9b1 : decide (i < l0.length) = true := decide_eq_true (by omega)
      have C9 := Aside0.mk c9
      clear c9
      have p112 : 0 ≤ (i : Int) := by omega
      have q112 : (i : Int) < (l0.length : Int) := C9.out
      obtain ⟨ad112, e112, hx112_0⟩ := Kd.at_int HR0.out (i : Int) p112 q112
      cases e112
      rw [Int.toNat_natCast] at hx112_0
      replace p112 := eq_true p112
      replace q112 := eq_true q112
      obtain ⟨x, hx⟩ : ∃ x, x = rd l0 (i : Int) := ⟨_, rfl⟩
      rw [← hx] at hx112_0
      have HX := Aside0.mk hx
      clear hx
      by_cases c10 : 0 ≤ x
      · have c10b0 : decide (0 ≤ x) = true := decide_eq_true c10
        by_cases c11 : x ≤ 4294967295
        · have c11b0 : decide (x ≤ 4294967295) = true := decide_eq_true c11
          have C10 := Aside0.mk (show 0 ≤ x ∧ x ≤ 4294967295 from ⟨c10, c11⟩)
          clear c10 c11
          go_wp2
          go_roundw
          case rel =>
            refine ⟨i + 1, by rw [show wrap64 ((i : Int) + 1) = ((i + 1 : Nat) : Int) by (have := HL.out; have := C9.out; unfold wrap64; omega)], ⟨by have := C9.out; omega⟩, ⟨fun j h hj => ?_⟩, by repeat (first | exact Drawn0.refl _ | apply Drawn0.step)⟩
            by_cases hji : j < i
            · exact hall.out j h hji
            · obtain rfl : j = i := by omega
              have hx := HX.out
              rw [rd, Int.toNat_natCast, List.getD_eq_getElem?_getD, List.getElem?_eq_getElem h, Option.getD_some] at hx
              exact hx ▸ C10.out
          case measure =>
            rw [show wrap64 ((i : Int) + 1) = ((i + 1 : Nat) : Int) by (have := HL.out; have := C9.out; unfold wrap64; omega)]
            simp only [intOf, Int.toNat_natCast]
            have := C9.out
            omega
        · have c11b0 : decide (x ≤ 4294967295) = false := decide_eq_false c11
          have C10 := Aside0.mk (show ¬ (0 ≤ x ∧ x ≤ 4294967295) from fun h => c11 h.2)
          clear c10 c11
          go_wp2
          go_ret
          refine ⟨_, rfl, ⟨?_⟩, by repeat (first | exact Drawn0.refl _ | apply Drawn0.step)⟩
          have h : i < l0.length := by have := C9.out; omega
          have hx := HX.out
          rw [rd, Int.toNat_natCast, List.getD_eq_getElem?_getD, List.getElem?_eq_getElem h, Option.getD_some] at hx
          exact ⟨fun _ => ⟨l0[i], List.getElem_mem h, fun hq => C10.out (hx ▸ hq)⟩, fun _ => by omega⟩
      · have c10b0 : decide (0 ≤ x) = false := decide_eq_false c10
        have C10 := Aside0.mk (show ¬ (0 ≤ x ∧ x ≤ 4294967295) from fun h => c10 h.1)
        clear c10
        go_wp2
        go_ret
        refine ⟨_, rfl, ⟨?_⟩, by repeat (first | exact Drawn0.refl _ | apply Drawn0.step)⟩
        have h : i < l0.length := by have := C9.out; omega
        have hx := HX.out
        rw [rd, Int.toNat_natCast, List.getD_eq_getElem?_getD, List.getElem?_eq_getElem h, Option.getD_some] at hx
        exact ⟨fun _ => ⟨l0[i], List.getElem_mem h, fun hq => C10.out (hx ▸ hq)⟩, fun _ => by omega⟩
    · have c9b0 : decide ((i : Int) < (l0.length : Int)) = false := decide_eq_false c9
      have c9b1 : decide (i < l0.length) = false := decide_eq_false (by omega)
      have C9 := Aside0.mk c9
      clear c9
      go_wp2
      go_ret
      refine ⟨_, rfl, ⟨⟨fun h => absurd h (by decide), ?_⟩⟩, by repeat (first | exact Drawn0.refl _ | apply Drawn0.step)⟩
      rintro ⟨x, hm, hq⟩
      exfalso
      obtain ⟨j, h, rfl⟩ := List.getElem_of_mem hm
      exact hq (hall.out j h (by have := C9.out; have := hi.out; omega))
set_option maxHeartbeats 4000000 in
set_option maxRecDepth 100000 in
theorem impl_mapRight.contains (A0 : Option Addr) (c0 : Nat) (l0 : List Int) (w : World) (hr0 : Kd.C (Kd.int .i64) w A0 l0.length l0) (hc0 : l0.length ≤ c0) (hl : l0.length ≤ 2048) (b : Bool) (hb : b = decide (impl_mapRight.bad l0)) :
    Calls Try.prog 65 #[.slice A0 l0.length c0, .func (.func 66) #[] #[]] w fun e w' => e = .returned (.bool b) ∧ Drawn0 w w' := by
  have HR0 := Aside0.mk hr0
  have HC0 := Aside0.mk hc0
  have HL := Aside0.mk hl
  have HB := Aside0.mk hb
  clear hr0 hc0 hl hb
  go_enter Try.func65, Try.ntmps65
  go_wp2_with (first | (go_at_call 69; refine (impl_mapRight.indexes A0 c0 l0 _ HR0.out HC0.out HL.out).mono ?_; rintro e_ w_ ⟨r, rfl, hr, nd, rfl⟩))
  have hrb : decide (0 ≤ r) = b := by rw [HB.out]; exact decide_eq_decide.2 hr.out
  go_ret
  exact ⟨by simp [hrb], by repeat (first | exact Drawn0.refl _ | apply Drawn0.step)⟩
def impl_mapRight.f (l0 : List Int) : Option (Bool) := some (decide (64 ≤ l0.length ∧ l0.length ≤ 2048 ∧ ¬ impl_mapRight.bad l0 ∧ rd l0 0 = 1 ∧ rd l0 1 = 1))
set_option maxHeartbeats 4000000 in
set_option maxRecDepth 100000 in
theorem impl_mapRight.calls (A0 : Option Addr) (c0 : Nat) (l0 : List Int) (r : Bool) (w : World) (hr0 : Kd.C (Kd.int .i64) w A0 l0.length l0) (hc0 : l0.length ≤ c0) (h : impl_mapRight.f l0 = some r) :
    Calls Try.prog 55 #[.slice A0 l0.length c0] w fun e w' => e = .returned (.bool r) ∧ Drawn0 w w' := by
  have HR0 := Aside0.mk hr0
  have HC0 := Aside0.mk hc0
  have HQ := Aside0.mk (Option.some.inj h)
  clear hr0 hc0 h
  by_cases c1 : (64 : Int) ≤ (l0.length : Int) ∧ (l0.length : Int) ≤ 2048
  · have HW := Aside0.mk (show impl_within.f (l0.length : Int) 64 2048 = some true by rw [impl_mapRight.hW, decide_eq_true c1])
    have HL := Aside0.mk (show l0.length ≤ 2048 by omega)
    have H64 := Aside0.mk (show 64 ≤ l0.length by omega)
    clear c1
    by_cases c2 : impl_mapRight.bad l0
    · have HB := Aside0.mk (decide_eq_true c2).symm
      have C2 := Aside0.mk c2
      clear c2
      go_enter Try.func55, Try.ntmps55
      go_wp2_with (first | (go_at_call 47; refine (impl_within.calls (l0.length : Int) 64 2048 true _ HW.out).mono ?_; rintro e_ w_ ⟨rfl, ⟨nd, rfl⟩⟩) | (go_at_call 65; refine (impl_mapRight.contains _ _ l0 _ (Kd.C_drewN HR0.out _) HC0.out HL.out true HB.out).mono ?_; rintro e_ w_ ⟨rfl, ⟨nd, rfl⟩⟩))
      go_ret
      exact ⟨by rw [← HQ.out]; simp [C2.out], by repeat (first | exact Drawn0.refl _ | apply Drawn0.step)⟩
    · have HB := Aside0.mk (decide_eq_false c2).symm
      have C2 := Aside0.mk c2
      clear c2
      have p110 : 0 ≤ (0 : Int) := (by omega)
      have q110 : 0 < (l0.length : Int) := by have := H64.out; omega
      obtain ⟨ad110, e110, hx110_0⟩ := Kd.at_int HR0.out 0 p110 q110
      cases e110
      have qi110 : (0 < l0.length) = True := eq_true (by omega)
      (try rw [show ((0 : Int)).toNat = 0 from rfl] at hx110_0)
      (try rw [Addr.add_zero'] at hx110_0)
      replace p110 := eq_true p110
      replace q110 := eq_true q110
      have p111 : 0 ≤ (1 : Int) := (by omega)
      have q111 : 1 < (l0.length : Int) := by have := H64.out; omega
      obtain ⟨ad111, e111, hx111_0⟩ := Kd.at_int HR0.out 1 p111 q111
      obtain rfl : ad110 = ad111 := (by injection e111)
      (try simp only [show (1 : Int).toNat = 1 from rfl, Nat.reduceMul, Nat.reduceEqDiff, Go.Addr.add, ↓reduceIte] at hx111_0)
      have qi111 : (1 < l0.length) = True := eq_true (by omega)
      (try rw [show ((1 : Int)).toNat = 1 from rfl] at hx111_0)
      replace p111 := eq_true p111
      replace q111 := eq_true q111
      by_cases c3 : rd l0 0 = 1
      · have c3b0 : (rd l0 0 == 1) = true := beq_iff_eq.mpr c3
        have C3 := Aside0.mk c3
        clear c3
        go_enter Try.func55, Try.ntmps55
        go_wp2_with (first | (go_at_call 47; refine (impl_within.calls (l0.length : Int) 64 2048 true _ HW.out).mono ?_; rintro e_ w_ ⟨rfl, ⟨nd, rfl⟩⟩) | (go_at_call 65; refine (impl_mapRight.contains _ _ l0 _ (Kd.C_drewN HR0.out _) HC0.out HL.out false HB.out).mono ?_; rintro e_ w_ ⟨rfl, ⟨nd, rfl⟩⟩))
        go_ret
        refine ⟨?_, by repeat (first | exact Drawn0.refl _ | apply Drawn0.step)⟩
        rw [← HQ.out]
        have h1 := C2.out
        have h2 := H64.out
        have h3 := HL.out
        have h4 := C3.out
        simp only [h1, h2, h3, h4, not_false_eq_true, true_and]
        by_cases h5 : rd l0 1 = 1 <;> simp [h5]
      · have c3b0 : (rd l0 0 == 1) = false := beq_eq_false_iff_ne.mpr c3
        have C3 := Aside0.mk c3
        clear c3
        go_enter Try.func55, Try.ntmps55
        go_wp2_with (first | (go_at_call 47; refine (impl_within.calls (l0.length : Int) 64 2048 true _ HW.out).mono ?_; rintro e_ w_ ⟨rfl, ⟨nd, rfl⟩⟩) | (go_at_call 65; refine (impl_mapRight.contains _ _ l0 _ (Kd.C_drewN HR0.out _) HC0.out HL.out false HB.out).mono ?_; rintro e_ w_ ⟨rfl, ⟨nd, rfl⟩⟩))
        go_ret
        exact ⟨by rw [← HQ.out]; simp [C3.out], by repeat (first | exact Drawn0.refl _ | apply Drawn0.step)⟩
  · have HW := Aside0.mk (show impl_within.f (l0.length : Int) 64 2048 = some false by rw [impl_mapRight.hW, decide_eq_false c1])
    have C1 := Aside0.mk (show ¬ (64 ≤ l0.length ∧ l0.length ≤ 2048) by omega)
    clear c1
    go_enter Try.func55, Try.ntmps55
    go_wp2_with (first | (go_at_call 47; refine (impl_within.calls (l0.length : Int) 64 2048 false _ HW.out).mono ?_; rintro e_ w_ ⟨rfl, ⟨nd, rfl⟩⟩))
    go_ret
    refine ⟨?_, by repeat (first | exact Drawn0.refl _ | apply Drawn0.step)⟩
    have e : decide (64 ≤ l0.length ∧ l0.length ≤ 2048 ∧ ¬ impl_mapRight.bad l0 ∧ rd l0 0 = 1 ∧ rd l0 1 = 1) = false := decide_eq_false (fun h => C1.out ⟨h.1, h.2.1⟩)
    rw [← HQ.out, e]
    rfl

end Go.Proofs.Ytjhaofdnlnbajaa.PFnFree
