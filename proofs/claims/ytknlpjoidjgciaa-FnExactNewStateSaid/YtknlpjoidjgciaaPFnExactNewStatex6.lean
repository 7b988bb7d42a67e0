-- Written by a program of this session (patch_print.py over the kit print)
import Derived.Test.YtknlpjoidjgciaaPFnExactNewStatex0
import Derived.Test.YtknlpjoidjgciaaPFnExactNewStatex5
namespace Go.Proofs.Ytknlpjoidjgciaa.PFnExactNewState
open Go.RowKit Go.Proofs.YtknlpjoidjgciaaW.PrintWords Go.Proofs.YtknlpjoidjgciaaW.PrintLast Go.Proofs.YtknlpjoidjgciaaW.PrintMore
attribute [local go_sem] max2_int min2_int max_two min_two max_three min_three max_four min_four   -- for this text's walks alone
set_option linter.unusedVariables false
set_option linter.unusedSimpArgs false

/-! ### laws_heldNodeS: function 34 -/
def laws_heldNodeS.l0 : Nat → List (S27) → Int → Int → Option (Int)
  | 0, _, _, _ => none
  | k + 1, x0, x1, x5 => if x5 < (x0.length : Int) then (if 0 ≤ x5 then (if ((rd_T27 x0 x5).f0) = x1 then (if ((rd_T27 x0 x5).f1) = (wrap64 (x1 + 1)) then (if ((rd_T27 x0 x5).f2) = (wrap64 ((wrap64 (x1 + 1)) + 1)) then (if ((rd_T27 x0 x5).f3) = (wrap64 ((wrap64 ((wrap64 (x1 + 1)) + 1)) + 1)) then (if ((rd_T27 x0 x5).f4) = (wrap64 ((wrap64 ((wrap64 ((wrap64 (x1 + 1)) + 1)) + 1)) + 1)) then (if ((rd_T27 x0 x5).f5) = (wrap64 ((wrap64 ((wrap64 ((wrap64 ((wrap64 (x1 + 1)) + 1)) + 1)) + 1)) + 1)) then (if ((rd_T27 x0 x5).f6) = (wrap64 ((wrap64 ((wrap64 ((wrap64 ((wrap64 ((wrap64 (x1 + 1)) + 1)) + 1)) + 1)) + 1)) + 1)) then (if ((rd_T27 x0 x5).f7) = (wrap64 ((wrap64 ((wrap64 ((wrap64 ((wrap64 ((wrap64 ((wrap64 (x1 + 1)) + 1)) + 1)) + 1)) + 1)) + 1)) + 1)) then (if ((rd_T27 x0 x5).f8) = (wrap64 ((wrap64 ((wrap64 ((wrap64 ((wrap64 ((wrap64 ((wrap64 ((wrap64 (x1 + 1)) + 1)) + 1)) + 1)) + 1)) + 1)) + 1)) + 1)) then ((laws_heldByteS.f k ((rd_T27 x0 x5).f9) (wrap64 ((wrap64 ((wrap64 ((wrap64 ((wrap64 ((wrap64 ((wrap64 ((wrap64 ((wrap64 (x1 + 1)) + 1)) + 1)) + 1)) + 1)) + 1)) + 1)) + 1)) + 1))).bind fun t133 => (if t133 < 0 then (some (-1)) else (laws_heldNodeS.l0 k x0 t133 (wrap64 (x5 + 1))))) else (some (-1))) else (some (-1))) else (some (-1))) else (some (-1))) else (some (-1))) else (some (-1))) else (some (-1))) else (some (-1))) else (some (-1))) else (none)) else (some x1)
def laws_heldNodeS.f (k : Nat) (l0 : List (S27)) (a1 : Int) : Option (Int) := laws_heldNodeS.l0 k l0 a1 0
theorem laws_heldNodeS.mono_l : ∀ k, (∀ y0 y1 y2, LeO (laws_heldNodeS.l0 k y0 y1 y2) (laws_heldNodeS.l0 (k + 1) y0 y1 y2))
  | 0 => fun _ _ _ r h => by simp [laws_heldNodeS.l0] at h
  | k + 1 => by
    have ih0 := laws_heldNodeS.mono_l k
    · intro y0 y1 y2
      unfold laws_heldNodeS.l0
      repeat' first
      | (with_reducible exact ih0 _ _ _)
      | (with_reducible exact laws_heldByteS.mono _ _ _)
      | (with_reducible exact LeO.refl _)
      | (with_reducible exact LeO.none _)
      | (with_reducible refine LeO.ite ?_ ?_)
      | (with_reducible refine LeO.bind ?_ (fun _ => ?_))
      | exact ih0 _ _ _
      | exact laws_heldByteS.mono _ _ _
      | exact LeO.none _
      | refine LeO.ite ?_ ?_
      | refine LeO.bind ?_ (fun _ => ?_)
theorem laws_heldNodeS.mono : ∀ a0 a1 k, LeO (laws_heldNodeS.f k a0 a1) (laws_heldNodeS.f (k + 1) a0 a1) := by
  intro a0 a1 k
  have ih0 := laws_heldNodeS.mono_l k
  unfold laws_heldNodeS.f
  repeat' first
      | (with_reducible exact ih0 _ _ _)
      | (with_reducible exact laws_heldByteS.mono _ _ _)
      | (with_reducible exact LeO.refl _)
      | (with_reducible exact LeO.none _)
      | (with_reducible refine LeO.ite ?_ ?_)
      | (with_reducible refine LeO.bind ?_ (fun _ => ?_))
      | exact ih0 _ _ _
      | exact laws_heldByteS.mono _ _ _
      | exact LeO.none _
      | refine LeO.ite ?_ ?_
      | refine LeO.bind ?_ (fun _ => ?_)
set_option maxHeartbeats 8000000 in
set_option maxRecDepth 100000 in
theorem laws_heldNodeS.calls (k : Nat) (A0 : Option Addr) (c0 : Nat) (l0 : List (S27)) (a1 : Int) (r : Int) (w : World) (hr0 : Kd.C k27 w A0 l0.length l0) (hc0 : l0.length ≤ c0) (h : laws_heldNodeS.f k l0 a1 = some r) :
    Calls Try.prog 34 #[.slice A0 l0.length c0, .int .i64 a1] w fun e w' => e = .returned (.int .i64 r) ∧ Drawn0 w w' := by
  have HR0 := Aside0.mk hr0
  have HC0 := Aside0.mk hc0
  clear hr0 hc0
  have H : (laws_heldNodeS.l0 k l0 a1 0) = some r := h
  clear h
  have H' := Aside0.mk H
  clear H
  go_enter Try.func34, Try.ntmps34
  go_wp2
  go_loopg [1, 5] k (fun kq v1 v5 w' => ∃ (x1_1 : Int) (x5_1 : Int), v1 = .int .i64 x1_1 ∧ v5 = .int .i64 x5_1 ∧ Aside0 (laws_heldNodeS.l0 kq l0 x1_1 x5_1 = some r) ∧ Aside0 (kq ≤ k) ∧ Drawn0 w w')
  case atStart => exact ⟨(a1), (0), (by first | rfl | (simp; done) | (simp [*]; done)), (by first | rfl | (simp; done) | (simp [*]; done)), H', ⟨Nat.le_refl _⟩, by repeat (first | exact Drawn0.refl _ | apply Drawn0.step)⟩
  case round =>
    clear H'
    try clear p2
    obtain ⟨x1_1, x5_1, rfl, rfl, HA, HK1, ⟨m1, rfl⟩⟩ := hrel
    cases gk with
    | zero => exact absurd HA.out (by simp [laws_heldNodeS.l0])
    | succ k1 =>
      have H := HA.out
      clear HA
      simp only [laws_heldNodeS.l0] at H
      by_cases c3 : x5_1 < (l0.length : Int)
      · rw [if_pos c3] at H
        have c3b0 : decide (x5_1 < (l0.length : Int)) = true := decide_eq_true c3
        clear c3
        by_cases c4 : 0 ≤ x5_1
        · rw [if_pos c4] at H
          have c4b0 : decide (0 ≤ x5_1) = true := decide_eq_true c4
          clear c4
          by_cases c5 : ((rd_T27 l0 x5_1).f0) = x1_1
          · rw [if_pos c5] at H
            have c5b0 : (((rd_T27 l0 x5_1).f0) == x1_1) = true := beq_iff_eq.mpr c5
            have c5b1 : (((rd_T27 l0 x5_1).f0) != x1_1) = false := bne_eq_false_iff_eq.mpr c5
            clear c5
            by_cases c6 : ((rd_T27 l0 x5_1).f1) = (wrap64 (x1_1 + 1))
            · rw [if_pos c6] at H
              have c6b0 : (((rd_T27 l0 x5_1).f1) == (wrap64 (x1_1 + 1))) = true := beq_iff_eq.mpr c6
              have c6b1 : (((rd_T27 l0 x5_1).f1) != (wrap64 (x1_1 + 1))) = false := bne_eq_false_iff_eq.mpr c6
              clear c6
              by_cases c7 : ((rd_T27 l0 x5_1).f2) = (wrap64 ((wrap64 (x1_1 + 1)) + 1))
              · rw [if_pos c7] at H
                have c7b0 : (((rd_T27 l0 x5_1).f2) == (wrap64 ((wrap64 (x1_1 + 1)) + 1))) = true := beq_iff_eq.mpr c7
                have c7b1 : (((rd_T27 l0 x5_1).f2) != (wrap64 ((wrap64 (x1_1 + 1)) + 1))) = false := bne_eq_false_iff_eq.mpr c7
                clear c7
                by_cases c8 : ((rd_T27 l0 x5_1).f3) = (wrap64 ((wrap64 ((wrap64 (x1_1 + 1)) + 1)) + 1))
                · rw [if_pos c8] at H
                  have c8b0 : (((rd_T27 l0 x5_1).f3) == (wrap64 ((wrap64 ((wrap64 (x1_1 + 1)) + 1)) + 1))) = true := beq_iff_eq.mpr c8
                  have c8b1 : (((rd_T27 l0 x5_1).f3) != (wrap64 ((wrap64 ((wrap64 (x1_1 + 1)) + 1)) + 1))) = false := bne_eq_false_iff_eq.mpr c8
                  clear c8
                  by_cases c9 : ((rd_T27 l0 x5_1).f4) = (wrap64 ((wrap64 ((wrap64 ((wrap64 (x1_1 + 1)) + 1)) + 1)) + 1))
                  · rw [if_pos c9] at H
                    have c9b0 : (((rd_T27 l0 x5_1).f4) == (wrap64 ((wrap64 ((wrap64 ((wrap64 (x1_1 + 1)) + 1)) + 1)) + 1))) = true := beq_iff_eq.mpr c9
                    have c9b1 : (((rd_T27 l0 x5_1).f4) != (wrap64 ((wrap64 ((wrap64 ((wrap64 (x1_1 + 1)) + 1)) + 1)) + 1))) = false := bne_eq_false_iff_eq.mpr c9
                    clear c9
                    by_cases c10 : ((rd_T27 l0 x5_1).f5) = (wrap64 ((wrap64 ((wrap64 ((wrap64 ((wrap64 (x1_1 + 1)) + 1)) + 1)) + 1)) + 1))
                    · rw [if_pos c10] at H
                      have c10b0 : (((rd_T27 l0 x5_1).f5) == (wrap64 ((wrap64 ((wrap64 ((wrap64 ((wrap64 (x1_1 + 1)) + 1)) + 1)) + 1)) + 1))) = true := beq_iff_eq.mpr c10
                      have c10b1 : (((rd_T27 l0 x5_1).f5) != (wrap64 ((wrap64 ((wrap64 ((wrap64 ((wrap64 (x1_1 + 1)) + 1)) + 1)) + 1)) + 1))) = false := bne_eq_false_iff_eq.mpr c10
                      clear c10
                      by_cases c11 : ((rd_T27 l0 x5_1).f6) = (wrap64 ((wrap64 ((wrap64 ((wrap64 ((wrap64 ((wrap64 (x1_1 + 1)) + 1)) + 1)) + 1)) + 1)) + 1))
                      · rw [if_pos c11] at H
                        have c11b0 : (((rd_T27 l0 x5_1).f6) == (wrap64 ((wrap64 ((wrap64 ((wrap64 ((wrap64 ((wrap64 (x1_1 + 1)) + 1)) + 1)) + 1)) + 1)) + 1))) = true := beq_iff_eq.mpr c11
                        have c11b1 : (((rd_T27 l0 x5_1).f6) != (wrap64 ((wrap64 ((wrap64 ((wrap64 ((wrap64 ((wrap64 (x1_1 + 1)) + 1)) + 1)) + 1)) + 1)) + 1))) = false := bne_eq_false_iff_eq.mpr c11
                        clear c11
                        by_cases c12 : ((rd_T27 l0 x5_1).f7) = (wrap64 ((wrap64 ((wrap64 ((wrap64 ((wrap64 ((wrap64 ((wrap64 (x1_1 + 1)) + 1)) + 1)) + 1)) + 1)) + 1)) + 1))
                        · rw [if_pos c12] at H
                          have c12b0 : (((rd_T27 l0 x5_1).f7) == (wrap64 ((wrap64 ((wrap64 ((wrap64 ((wrap64 ((wrap64 ((wrap64 (x1_1 + 1)) + 1)) + 1)) + 1)) + 1)) + 1)) + 1))) = true := beq_iff_eq.mpr c12
                          have c12b1 : (((rd_T27 l0 x5_1).f7) != (wrap64 ((wrap64 ((wrap64 ((wrap64 ((wrap64 ((wrap64 ((wrap64 (x1_1 + 1)) + 1)) + 1)) + 1)) + 1)) + 1)) + 1))) = false := bne_eq_false_iff_eq.mpr c12
                          clear c12
                          by_cases c13 : ((rd_T27 l0 x5_1).f8) = (wrap64 ((wrap64 ((wrap64 ((wrap64 ((wrap64 ((wrap64 ((wrap64 ((wrap64 (x1_1 + 1)) + 1)) + 1)) + 1)) + 1)) + 1)) + 1)) + 1))
                          · rw [if_pos c13] at H
                            have c13b0 : (((rd_T27 l0 x5_1).f8) == (wrap64 ((wrap64 ((wrap64 ((wrap64 ((wrap64 ((wrap64 ((wrap64 ((wrap64 (x1_1 + 1)) + 1)) + 1)) + 1)) + 1)) + 1)) + 1)) + 1))) = true := beq_iff_eq.mpr c13
                            have c13b1 : (((rd_T27 l0 x5_1).f8) != (wrap64 ((wrap64 ((wrap64 ((wrap64 ((wrap64 ((wrap64 ((wrap64 ((wrap64 (x1_1 + 1)) + 1)) + 1)) + 1)) + 1)) + 1)) + 1)) + 1))) = false := bne_eq_false_iff_eq.mpr c13
                            clear c13
                            replace H := Option.bind_eq_some_iff.mp H
                            obtain ⟨t133, A140, H⟩ := H
                            replace H : (if t133 < 0 then (some (-1)) else (laws_heldNodeS.l0 k1 l0 t133 (wrap64 (x5_1 + 1)))) = some r := H
                            have A14 := Aside0.mk A140
                            clear A140
                            by_cases c15 : t133 < 0
                            · rw [if_pos c15] at H
                              have c15b0 : decide (t133 < 0) = true := decide_eq_true c15
                              clear c15
                              obtain rfl := Option.some.inj H
                              have p123 : 0 ≤ (x5_1 : Int) := of_decide_eq_true (by first | (with_reducible assumption) | assumption)
                              have q123 : x5_1 < (l0.length : Int) := of_decide_eq_true (by first | (with_reducible assumption) | assumption)
                              obtain ⟨ad123, A123_9, c123_9, e123, hx123_0, hx123_1, hx123_2, hx123_3, hx123_4, hx123_5, hx123_6, hx123_7, hx123_8, hx123_9, hl123_9, hi123_9⟩ := at_T27 HR0.out x5_1 p123 q123
                              cases e123
                              have HR123_9 := Aside0.mk hi123_9
                              have HC123_9 := Aside0.mk hl123_9
                              clear hi123_9 hl123_9
                              replace p123 := eq_true p123
                              replace q123 := eq_true q123
                              have p124 : 0 ≤ (x5_1 : Int) := of_decide_eq_true (by first | (with_reducible assumption) | assumption)
                              have q124 : x5_1 < (l0.length : Int) := of_decide_eq_true (by first | (with_reducible assumption) | assumption)
                              obtain ⟨ad124, A124_9, c124_9, e124, hx124_0, hx124_1, hx124_2, hx124_3, hx124_4, hx124_5, hx124_6, hx124_7, hx124_8, hx124_9, hl124_9, hi124_9⟩ := at_T27 HR0.out x5_1 p124 q124
                              obtain rfl : ad123 = ad124 := (by injection e124)
                              have HR124_9 := Aside0.mk hi124_9
                              have HC124_9 := Aside0.mk hl124_9
                              clear hi124_9 hl124_9
                              replace p124 := eq_true p124
                              replace q124 := eq_true q124
                              have ea_ := Option.some.inj (hx123_9.symm.trans hx124_9)
                              injection ea_ with ea_ en_ ec_
                              subst ea_
                              subst ec_
                              clear en_
                              have p125 : 0 ≤ (x5_1 : Int) := of_decide_eq_true (by first | (with_reducible assumption) | assumption)
                              have q125 : x5_1 < (l0.length : Int) := of_decide_eq_true (by first | (with_reducible assumption) | assumption)
                              obtain ⟨ad125, A125_9, c125_9, e125, hx125_0, hx125_1, hx125_2, hx125_3, hx125_4, hx125_5, hx125_6, hx125_7, hx125_8, hx125_9, hl125_9, hi125_9⟩ := at_T27 HR0.out x5_1 p125 q125
                              obtain rfl : ad123 = ad125 := (by injection e125)
                              have HR125_9 := Aside0.mk hi125_9
                              have HC125_9 := Aside0.mk hl125_9
                              clear hi125_9 hl125_9
                              replace p125 := eq_true p125
                              replace q125 := eq_true q125
                              have ea_ := Option.some.inj (hx123_9.symm.trans hx125_9)
                              injection ea_ with ea_ en_ ec_
                              subst ea_
                              subst ec_
                              clear en_
                              have p126 : 0 ≤ (x5_1 : Int) := of_decide_eq_true (by first | (with_reducible assumption) | assumption)
                              have q126 : x5_1 < (l0.length : Int) := of_decide_eq_true (by first | (with_reducible assumption) | assumption)
                              obtain ⟨ad126, A126_9, c126_9, e126, hx126_0, hx126_1, hx126_2, hx126_3, hx126_4, hx126_5, hx126_6, hx126_7, hx126_8, hx126_9, hl126_9, hi126_9⟩ := at_T27 HR0.out x5_1 p126 q126
                              obtain rfl : ad123 = ad126 := (by injection e126)
                              have HR126_9 := Aside0.mk hi126_9
                              have HC126_9 := Aside0.mk hl126_9
                              clear hi126_9 hl126_9
                              replace p126 := eq_true p126
                              replace q126 := eq_true q126
                              have ea_ := Option.some.inj (hx123_9.symm.trans hx126_9)
                              injection ea_ with ea_ en_ ec_
                              subst ea_
                              subst ec_
                              clear en_
                              have p127 : 0 ≤ (x5_1 : Int) := of_decide_eq_true (by first | (with_reducible assumption) | assumption)
                              have q127 : x5_1 < (l0.length : Int) := of_decide_eq_true (by first | (with_reducible assumption) | assumption)
                              obtain ⟨ad127, A127_9, c127_9, e127, hx127_0, hx127_1, hx127_2, hx127_3, hx127_4, hx127_5, hx127_6, hx127_7, hx127_8, hx127_9, hl127_9, hi127_9⟩ := at_T27 HR0.out x5_1 p127 q127
                              obtain rfl : ad123 = ad127 := (by injection e127)
                              have HR127_9 := Aside0.mk hi127_9
                              have HC127_9 := Aside0.mk hl127_9
                              clear hi127_9 hl127_9
                              replace p127 := eq_true p127
                              replace q127 := eq_true q127
                              have ea_ := Option.some.inj (hx123_9.symm.trans hx127_9)
                              injection ea_ with ea_ en_ ec_
                              subst ea_
                              subst ec_
                              clear en_
                              have p128 : 0 ≤ (x5_1 : Int) := of_decide_eq_true (by first | (with_reducible assumption) | assumption)
                              have q128 : x5_1 < (l0.length : Int) := of_decide_eq_true (by first | (with_reducible assumption) | assumption)
                              obtain ⟨ad128, A128_9, c128_9, e128, hx128_0, hx128_1, hx128_2, hx128_3, hx128_4, hx128_5, hx128_6, hx128_7, hx128_8, hx128_9, hl128_9, hi128_9⟩ := at_T27 HR0.out x5_1 p128 q128
                              obtain rfl : ad123 = ad128 := (by injection e128)
                              have HR128_9 := Aside0.mk hi128_9
                              have HC128_9 := Aside0.mk hl128_9
                              clear hi128_9 hl128_9
                              replace p128 := eq_true p128
                              replace q128 := eq_true q128
                              have ea_ := Option.some.inj (hx123_9.symm.trans hx128_9)
                              injection ea_ with ea_ en_ ec_
                              subst ea_
                              subst ec_
                              clear en_
                              have p129 : 0 ≤ (x5_1 : Int) := of_decide_eq_true (by first | (with_reducible assumption) | assumption)
                              have q129 : x5_1 < (l0.length : Int) := of_decide_eq_true (by first | (with_reducible assumption) | assumption)
                              obtain ⟨ad129, A129_9, c129_9, e129, hx129_0, hx129_1, hx129_2, hx129_3, hx129_4, hx129_5, hx129_6, hx129_7, hx129_8, hx129_9, hl129_9, hi129_9⟩ := at_T27 HR0.out x5_1 p129 q129
                              obtain rfl : ad123 = ad129 := (by injection e129)
                              have HR129_9 := Aside0.mk hi129_9
                              have HC129_9 := Aside0.mk hl129_9
                              clear hi129_9 hl129_9
                              replace p129 := eq_true p129
                              replace q129 := eq_true q129
                              have ea_ := Option.some.inj (hx123_9.symm.trans hx129_9)
                              injection ea_ with ea_ en_ ec_
                              subst ea_
                              subst ec_
                              clear en_
                              have p130 : 0 ≤ (x5_1 : Int) := of_decide_eq_true (by first | (with_reducible assumption) | assumption)
                              have q130 : x5_1 < (l0.length : Int) := of_decide_eq_true (by first | (with_reducible assumption) | assumption)
                              obtain ⟨ad130, A130_9, c130_9, e130, hx130_0, hx130_1, hx130_2, hx130_3, hx130_4, hx130_5, hx130_6, hx130_7, hx130_8, hx130_9, hl130_9, hi130_9⟩ := at_T27 HR0.out x5_1 p130 q130
                              obtain rfl : ad123 = ad130 := (by injection e130)
                              have HR130_9 := Aside0.mk hi130_9
                              have HC130_9 := Aside0.mk hl130_9
                              clear hi130_9 hl130_9
                              replace p130 := eq_true p130
                              replace q130 := eq_true q130
                              have ea_ := Option.some.inj (hx123_9.symm.trans hx130_9)
                              injection ea_ with ea_ en_ ec_
                              subst ea_
                              subst ec_
                              clear en_
                              have p131 : 0 ≤ (x5_1 : Int) := of_decide_eq_true (by first | (with_reducible assumption) | assumption)
                              have q131 : x5_1 < (l0.length : Int) := of_decide_eq_true (by first | (with_reducible assumption) | assumption)
                              obtain ⟨ad131, A131_9, c131_9, e131, hx131_0, hx131_1, hx131_2, hx131_3, hx131_4, hx131_5, hx131_6, hx131_7, hx131_8, hx131_9, hl131_9, hi131_9⟩ := at_T27 HR0.out x5_1 p131 q131
                              obtain rfl : ad123 = ad131 := (by injection e131)
                              have HR131_9 := Aside0.mk hi131_9
                              have HC131_9 := Aside0.mk hl131_9
                              clear hi131_9 hl131_9
                              replace p131 := eq_true p131
                              replace q131 := eq_true q131
                              have ea_ := Option.some.inj (hx123_9.symm.trans hx131_9)
                              injection ea_ with ea_ en_ ec_
                              subst ea_
                              subst ec_
                              clear en_
                              have p132 : 0 ≤ (x5_1 : Int) := of_decide_eq_true (by first | (with_reducible assumption) | assumption)
                              have q132 : x5_1 < (l0.length : Int) := of_decide_eq_true (by first | (with_reducible assumption) | assumption)
                              obtain ⟨ad132, A132_9, c132_9, e132, hx132_0, hx132_1, hx132_2, hx132_3, hx132_4, hx132_5, hx132_6, hx132_7, hx132_8, hx132_9, hl132_9, hi132_9⟩ := at_T27 HR0.out x5_1 p132 q132
                              obtain rfl : ad123 = ad132 := (by injection e132)
                              have HR132_9 := Aside0.mk hi132_9
                              have HC132_9 := Aside0.mk hl132_9
                              clear hi132_9 hl132_9
                              replace p132 := eq_true p132
                              replace q132 := eq_true q132
                              have ea_ := Option.some.inj (hx123_9.symm.trans hx132_9)
                              injection ea_ with ea_ en_ ec_
                              subst ea_
                              subst ec_
                              clear en_
                              go_wp2_with (first | ((with_reducible refine gate_callee (f := 25) rfl ?_); refine goesL_ (some 99) rfl rfl Try.func25 (by kernel_rfl) rfl #[.slice A123_9 ((rd_T27 l0 x5_1).f9).length c123_9, .int .i64 (wrap64 ((wrap64 ((wrap64 ((wrap64 ((wrap64 ((wrap64 ((wrap64 ((wrap64 ((wrap64 (x1_1 + 1)) + 1)) + 1)) + 1)) + 1)) + 1)) + 1)) + 1)) + 1))] rfl (by (try simp only [List.map_toArray, List.map_cons, List.map_nil]); first | done | rfl | (simp only [List.length_drop, List.length_take]; rfl)) ?_; (with_reducible refine (laws_heldByteS.calls k1 _ _ ((rd_T27 l0 x5_1).f9) (wrap64 ((wrap64 ((wrap64 ((wrap64 ((wrap64 ((wrap64 ((wrap64 ((wrap64 ((wrap64 (x1_1 + 1)) + 1)) + 1)) + 1)) + 1)) + 1)) + 1)) + 1)) + 1)) t133 _ ?side1 ?side2 A14.out).mono ?_); (case side1 => repeat (first | exact HR132_9.out | (with_reducible refine Kd.C_alloc ?_ _) | (with_reducible refine Kd.C_drewN ?_ _) | (with_reducible refine Kd.C_drew ?_))); (case side2 => exact HC132_9.out); rintro e w' ⟨rfl, ⟨nd, rfl⟩⟩; refine ⟨_, rfl, ?_⟩))
                              go_ret
                              exact ⟨by first | rfl | (simp; done) | (simp [*]; done), by repeat (first | exact Drawn0.refl _ | apply Drawn0.step)⟩
                            · rw [if_neg c15] at H
                              have c15b0 : decide (t133 < 0) = false := decide_eq_false c15
                              clear c15
                              have H' := Aside0.mk H
                              clear H
                              have p123 : 0 ≤ (x5_1 : Int) := of_decide_eq_true (by first | (with_reducible assumption) | assumption)
                              have q123 : x5_1 < (l0.length : Int) := of_decide_eq_true (by first | (with_reducible assumption) | assumption)
                              obtain ⟨ad123, A123_9, c123_9, e123, hx123_0, hx123_1, hx123_2, hx123_3, hx123_4, hx123_5, hx123_6, hx123_7, hx123_8, hx123_9, hl123_9, hi123_9⟩ := at_T27 HR0.out x5_1 p123 q123
                              cases e123
                              have HR123_9 := Aside0.mk hi123_9
                              have HC123_9 := Aside0.mk hl123_9
                              clear hi123_9 hl123_9
                              replace p123 := eq_true p123
                              replace q123 := eq_true q123
                              have p124 : 0 ≤ (x5_1 : Int) := of_decide_eq_true (by first | (with_reducible assumption) | assumption)
                              have q124 : x5_1 < (l0.length : Int) := of_decide_eq_true (by first | (with_reducible assumption) | assumption)
                              obtain ⟨ad124, A124_9, c124_9, e124, hx124_0, hx124_1, hx124_2, hx124_3, hx124_4, hx124_5, hx124_6, hx124_7, hx124_8, hx124_9, hl124_9, hi124_9⟩ := at_T27 HR0.out x5_1 p124 q124
                              obtain rfl : ad123 = ad124 := (by injection e124)
                              have HR124_9 := Aside0.mk hi124_9
                              have HC124_9 := Aside0.mk hl124_9
                              clear hi124_9 hl124_9
                              replace p124 := eq_true p124
                              replace q124 := eq_true q124
                              have ea_ := Option.some.inj (hx123_9.symm.trans hx124_9)
                              injection ea_ with ea_ en_ ec_
                              subst ea_
                              subst ec_
                              clear en_
                              have p125 : 0 ≤ (x5_1 : Int) := of_decide_eq_true (by first | (with_reducible assumption) | assumption)
                              have q125 : x5_1 < (l0.length : Int) := of_decide_eq_true (by first | (with_reducible assumption) | assumption)
                              obtain ⟨ad125, A125_9, c125_9, e125, hx125_0, hx125_1, hx125_2, hx125_3, hx125_4, hx125_5, hx125_6, hx125_7, hx125_8, hx125_9, hl125_9, hi125_9⟩ := at_T27 HR0.out x5_1 p125 q125
                              obtain rfl : ad123 = ad125 := (by injection e125)
                              have HR125_9 := Aside0.mk hi125_9
                              have HC125_9 := Aside0.mk hl125_9
                              clear hi125_9 hl125_9
                              replace p125 := eq_true p125
                              replace q125 := eq_true q125
                              have ea_ := Option.some.inj (hx123_9.symm.trans hx125_9)
                              injection ea_ with ea_ en_ ec_
                              subst ea_
                              subst ec_
                              clear en_
                              have p126 : 0 ≤ (x5_1 : Int) := of_decide_eq_true (by first | (with_reducible assumption) | assumption)
                              have q126 : x5_1 < (l0.length : Int) := of_decide_eq_true (by first | (with_reducible assumption) | assumption)
                              obtain ⟨ad126, A126_9, c126_9, e126, hx126_0, hx126_1, hx126_2, hx126_3, hx126_4, hx126_5, hx126_6, hx126_7, hx126_8, hx126_9, hl126_9, hi126_9⟩ := at_T27 HR0.out x5_1 p126 q126
                              obtain rfl : ad123 = ad126 := (by injection e126)
                              have HR126_9 := Aside0.mk hi126_9
                              have HC126_9 := Aside0.mk hl126_9
                              clear hi126_9 hl126_9
                              replace p126 := eq_true p126
                              replace q126 := eq_true q126
                              have ea_ := Option.some.inj (hx123_9.symm.trans hx126_9)
                              injection ea_ with ea_ en_ ec_
                              subst ea_
                              subst ec_
                              clear en_
                              have p127 : 0 ≤ (x5_1 : Int) := of_decide_eq_true (by first | (with_reducible assumption) | assumption)
                              have q127 : x5_1 < (l0.length : Int) := of_decide_eq_true (by first | (with_reducible assumption) | assumption)
                              obtain ⟨ad127, A127_9, c127_9, e127, hx127_0, hx127_1, hx127_2, hx127_3, hx127_4, hx127_5, hx127_6, hx127_7, hx127_8, hx127_9, hl127_9, hi127_9⟩ := at_T27 HR0.out x5_1 p127 q127
                              obtain rfl : ad123 = ad127 := (by injection e127)
                              have HR127_9 := Aside0.mk hi127_9
                              have HC127_9 := Aside0.mk hl127_9
                              clear hi127_9 hl127_9
                              replace p127 := eq_true p127
                              replace q127 := eq_true q127
                              have ea_ := Option.some.inj (hx123_9.symm.trans hx127_9)
                              injection ea_ with ea_ en_ ec_
                              subst ea_
                              subst ec_
                              clear en_
                              have p128 : 0 ≤ (x5_1 : Int) := of_decide_eq_true (by first | (with_reducible assumption) | assumption)
                              have q128 : x5_1 < (l0.length : Int) := of_decide_eq_true (by first | (with_reducible assumption) | assumption)
                              obtain ⟨ad128, A128_9, c128_9, e128, hx128_0, hx128_1, hx128_2, hx128_3, hx128_4, hx128_5, hx128_6, hx128_7, hx128_8, hx128_9, hl128_9, hi128_9⟩ := at_T27 HR0.out x5_1 p128 q128
                              obtain rfl : ad123 = ad128 := (by injection e128)
                              have HR128_9 := Aside0.mk hi128_9
                              have HC128_9 := Aside0.mk hl128_9
                              clear hi128_9 hl128_9
                              replace p128 := eq_true p128
                              replace q128 := eq_true q128
                              have ea_ := Option.some.inj (hx123_9.symm.trans hx128_9)
                              injection ea_ with ea_ en_ ec_
                              subst ea_
                              subst ec_
                              clear en_
                              have p129 : 0 ≤ (x5_1 : Int) := of_decide_eq_true (by first | (with_reducible assumption) | assumption)
                              have q129 : x5_1 < (l0.length : Int) := of_decide_eq_true (by first | (with_reducible assumption) | assumption)
                              obtain ⟨ad129, A129_9, c129_9, e129, hx129_0, hx129_1, hx129_2, hx129_3, hx129_4, hx129_5, hx129_6, hx129_7, hx129_8, hx129_9, hl129_9, hi129_9⟩ := at_T27 HR0.out x5_1 p129 q129
                              obtain rfl : ad123 = ad129 := (by injection e129)
                              have HR129_9 := Aside0.mk hi129_9
                              have HC129_9 := Aside0.mk hl129_9
                              clear hi129_9 hl129_9
                              replace p129 := eq_true p129
                              replace q129 := eq_true q129
                              have ea_ := Option.some.inj (hx123_9.symm.trans hx129_9)
                              injection ea_ with ea_ en_ ec_
                              subst ea_
                              subst ec_
                              clear en_
                              have p130 : 0 ≤ (x5_1 : Int) := of_decide_eq_true (by first | (with_reducible assumption) | assumption)
                              have q130 : x5_1 < (l0.length : Int) := of_decide_eq_true (by first | (with_reducible assumption) | assumption)
                              obtain ⟨ad130, A130_9, c130_9, e130, hx130_0, hx130_1, hx130_2, hx130_3, hx130_4, hx130_5, hx130_6, hx130_7, hx130_8, hx130_9, hl130_9, hi130_9⟩ := at_T27 HR0.out x5_1 p130 q130
                              obtain rfl : ad123 = ad130 := (by injection e130)
                              have HR130_9 := Aside0.mk hi130_9
                              have HC130_9 := Aside0.mk hl130_9
                              clear hi130_9 hl130_9
                              replace p130 := eq_true p130
                              replace q130 := eq_true q130
                              have ea_ := Option.some.inj (hx123_9.symm.trans hx130_9)
                              injection ea_ with ea_ en_ ec_
                              subst ea_
                              subst ec_
                              clear en_
                              have p131 : 0 ≤ (x5_1 : Int) := of_decide_eq_true (by first | (with_reducible assumption) | assumption)
                              have q131 : x5_1 < (l0.length : Int) := of_decide_eq_true (by first | (with_reducible assumption) | assumption)
                              obtain ⟨ad131, A131_9, c131_9, e131, hx131_0, hx131_1, hx131_2, hx131_3, hx131_4, hx131_5, hx131_6, hx131_7, hx131_8, hx131_9, hl131_9, hi131_9⟩ := at_T27 HR0.out x5_1 p131 q131
                              obtain rfl : ad123 = ad131 := (by injection e131)
                              have HR131_9 := Aside0.mk hi131_9
                              have HC131_9 := Aside0.mk hl131_9
                              clear hi131_9 hl131_9
                              replace p131 := eq_true p131
                              replace q131 := eq_true q131
                              have ea_ := Option.some.inj (hx123_9.symm.trans hx131_9)
                              injection ea_ with ea_ en_ ec_
                              subst ea_
                              subst ec_
                              clear en_
                              have p132 : 0 ≤ (x5_1 : Int) := of_decide_eq_true (by first | (with_reducible assumption) | assumption)
                              have q132 : x5_1 < (l0.length : Int) := of_decide_eq_true (by first | (with_reducible assumption) | assumption)
                              obtain ⟨ad132, A132_9, c132_9, e132, hx132_0, hx132_1, hx132_2, hx132_3, hx132_4, hx132_5, hx132_6, hx132_7, hx132_8, hx132_9, hl132_9, hi132_9⟩ := at_T27 HR0.out x5_1 p132 q132
                              obtain rfl : ad123 = ad132 := (by injection e132)
                              have HR132_9 := Aside0.mk hi132_9
                              have HC132_9 := Aside0.mk hl132_9
                              clear hi132_9 hl132_9
                              replace p132 := eq_true p132
                              replace q132 := eq_true q132
                              have ea_ := Option.some.inj (hx123_9.symm.trans hx132_9)
                              injection ea_ with ea_ en_ ec_
                              subst ea_
                              subst ec_
                              clear en_
                              go_wp2_with (first | ((with_reducible refine gate_callee (f := 25) rfl ?_); refine goesL_ (some 99) rfl rfl Try.func25 (by kernel_rfl) rfl #[.slice A123_9 ((rd_T27 l0 x5_1).f9).length c123_9, .int .i64 (wrap64 ((wrap64 ((wrap64 ((wrap64 ((wrap64 ((wrap64 ((wrap64 ((wrap64 ((wrap64 (x1_1 + 1)) + 1)) + 1)) + 1)) + 1)) + 1)) + 1)) + 1)) + 1))] rfl (by (try simp only [List.map_toArray, List.map_cons, List.map_nil]); first | done | rfl | (simp only [List.length_drop, List.length_take]; rfl)) ?_; (with_reducible refine (laws_heldByteS.calls k1 _ _ ((rd_T27 l0 x5_1).f9) (wrap64 ((wrap64 ((wrap64 ((wrap64 ((wrap64 ((wrap64 ((wrap64 ((wrap64 ((wrap64 (x1_1 + 1)) + 1)) + 1)) + 1)) + 1)) + 1)) + 1)) + 1)) + 1)) t133 _ ?side1 ?side2 A14.out).mono ?_); (case side1 => repeat (first | exact HR132_9.out | (with_reducible refine Kd.C_alloc ?_ _) | (with_reducible refine Kd.C_drewN ?_ _) | (with_reducible refine Kd.C_drew ?_))); (case side2 => exact HC132_9.out); rintro e w' ⟨rfl, ⟨nd, rfl⟩⟩; refine ⟨_, rfl, ?_⟩))
                              go_roundg k1
                              case measure => have := HK1.out; omega
                              case rel => exact ⟨(t133), (wrap64 (x5_1 + 1)), (by first | rfl | (simp; done) | (simp [*]; done)), (by first | rfl | (simp; done) | (simp [*]; done)), H', ⟨by have := HK1.out; omega⟩, by repeat (first | exact Drawn0.refl _ | apply Drawn0.step)⟩
                          · rw [if_neg c13] at H
                            have c13b0 : (((rd_T27 l0 x5_1).f8) == (wrap64 ((wrap64 ((wrap64 ((wrap64 ((wrap64 ((wrap64 ((wrap64 ((wrap64 (x1_1 + 1)) + 1)) + 1)) + 1)) + 1)) + 1)) + 1)) + 1))) = false := beq_eq_false_iff_ne.mpr c13
                            have c13b1 : (((rd_T27 l0 x5_1).f8) != (wrap64 ((wrap64 ((wrap64 ((wrap64 ((wrap64 ((wrap64 ((wrap64 ((wrap64 (x1_1 + 1)) + 1)) + 1)) + 1)) + 1)) + 1)) + 1)) + 1))) = true := bne_iff_ne.mpr c13
                            obtain rfl := Option.some.inj H
                            have p123 : 0 ≤ (x5_1 : Int) := of_decide_eq_true (by first | (with_reducible assumption) | assumption)
                            have q123 : x5_1 < (l0.length : Int) := of_decide_eq_true (by first | (with_reducible assumption) | assumption)
                            obtain ⟨ad123, A123_9, c123_9, e123, hx123_0, hx123_1, hx123_2, hx123_3, hx123_4, hx123_5, hx123_6, hx123_7, hx123_8, hx123_9, hl123_9, hi123_9⟩ := at_T27 HR0.out x5_1 p123 q123
                            cases e123
                            have HR123_9 := Aside0.mk hi123_9
                            have HC123_9 := Aside0.mk hl123_9
                            clear hi123_9 hl123_9
                            replace p123 := eq_true p123
                            replace q123 := eq_true q123
                            have p124 : 0 ≤ (x5_1 : Int) := of_decide_eq_true (by first | (with_reducible assumption) | assumption)
                            have q124 : x5_1 < (l0.length : Int) := of_decide_eq_true (by first | (with_reducible assumption) | assumption)
                            obtain ⟨ad124, A124_9, c124_9, e124, hx124_0, hx124_1, hx124_2, hx124_3, hx124_4, hx124_5, hx124_6, hx124_7, hx124_8, hx124_9, hl124_9, hi124_9⟩ := at_T27 HR0.out x5_1 p124 q124
                            obtain rfl : ad123 = ad124 := (by injection e124)
                            have HR124_9 := Aside0.mk hi124_9
                            have HC124_9 := Aside0.mk hl124_9
                            clear hi124_9 hl124_9
                            replace p124 := eq_true p124
                            replace q124 := eq_true q124
                            have ea_ := Option.some.inj (hx123_9.symm.trans hx124_9)
                            injection ea_ with ea_ en_ ec_
                            subst ea_
                            subst ec_
                            clear en_
                            have p125 : 0 ≤ (x5_1 : Int) := of_decide_eq_true (by first | (with_reducible assumption) | assumption)
                            have q125 : x5_1 < (l0.length : Int) := of_decide_eq_true (by first | (with_reducible assumption) | assumption)
                            obtain ⟨ad125, A125_9, c125_9, e125, hx125_0, hx125_1, hx125_2, hx125_3, hx125_4, hx125_5, hx125_6, hx125_7, hx125_8, hx125_9, hl125_9, hi125_9⟩ := at_T27 HR0.out x5_1 p125 q125
                            obtain rfl : ad123 = ad125 := (by injection e125)
                            have HR125_9 := Aside0.mk hi125_9
                            have HC125_9 := Aside0.mk hl125_9
                            clear hi125_9 hl125_9
                            replace p125 := eq_true p125
                            replace q125 := eq_true q125
                            have ea_ := Option.some.inj (hx123_9.symm.trans hx125_9)
                            injection ea_ with ea_ en_ ec_
                            subst ea_
                            subst ec_
                            clear en_
                            have p126 : 0 ≤ (x5_1 : Int) := of_decide_eq_true (by first | (with_reducible assumption) | assumption)
                            have q126 : x5_1 < (l0.length : Int) := of_decide_eq_true (by first | (with_reducible assumption) | assumption)
                            obtain ⟨ad126, A126_9, c126_9, e126, hx126_0, hx126_1, hx126_2, hx126_3, hx126_4, hx126_5, hx126_6, hx126_7, hx126_8, hx126_9, hl126_9, hi126_9⟩ := at_T27 HR0.out x5_1 p126 q126
                            obtain rfl : ad123 = ad126 := (by injection e126)
                            have HR126_9 := Aside0.mk hi126_9
                            have HC126_9 := Aside0.mk hl126_9
                            clear hi126_9 hl126_9
                            replace p126 := eq_true p126
                            replace q126 := eq_true q126
                            have ea_ := Option.some.inj (hx123_9.symm.trans hx126_9)
                            injection ea_ with ea_ en_ ec_
                            subst ea_
                            subst ec_
                            clear en_
                            have p127 : 0 ≤ (x5_1 : Int) := of_decide_eq_true (by first | (with_reducible assumption) | assumption)
                            have q127 : x5_1 < (l0.length : Int) := of_decide_eq_true (by first | (with_reducible assumption) | assumption)
                            obtain ⟨ad127, A127_9, c127_9, e127, hx127_0, hx127_1, hx127_2, hx127_3, hx127_4, hx127_5, hx127_6, hx127_7, hx127_8, hx127_9, hl127_9, hi127_9⟩ := at_T27 HR0.out x5_1 p127 q127
                            obtain rfl : ad123 = ad127 := (by injection e127)
                            have HR127_9 := Aside0.mk hi127_9
                            have HC127_9 := Aside0.mk hl127_9
                            clear hi127_9 hl127_9
                            replace p127 := eq_true p127
                            replace q127 := eq_true q127
                            have ea_ := Option.some.inj (hx123_9.symm.trans hx127_9)
                            injection ea_ with ea_ en_ ec_
                            subst ea_
                            subst ec_
                            clear en_
                            have p128 : 0 ≤ (x5_1 : Int) := of_decide_eq_true (by first | (with_reducible assumption) | assumption)
                            have q128 : x5_1 < (l0.length : Int) := of_decide_eq_true (by first | (with_reducible assumption) | assumption)
                            obtain ⟨ad128, A128_9, c128_9, e128, hx128_0, hx128_1, hx128_2, hx128_3, hx128_4, hx128_5, hx128_6, hx128_7, hx128_8, hx128_9, hl128_9, hi128_9⟩ := at_T27 HR0.out x5_1 p128 q128
                            obtain rfl : ad123 = ad128 := (by injection e128)
                            have HR128_9 := Aside0.mk hi128_9
                            have HC128_9 := Aside0.mk hl128_9
                            clear hi128_9 hl128_9
                            replace p128 := eq_true p128
                            replace q128 := eq_true q128
                            have ea_ := Option.some.inj (hx123_9.symm.trans hx128_9)
                            injection ea_ with ea_ en_ ec_
                            subst ea_
                            subst ec_
                            clear en_
                            have p129 : 0 ≤ (x5_1 : Int) := of_decide_eq_true (by first | (with_reducible assumption) | assumption)
                            have q129 : x5_1 < (l0.length : Int) := of_decide_eq_true (by first | (with_reducible assumption) | assumption)
                            obtain ⟨ad129, A129_9, c129_9, e129, hx129_0, hx129_1, hx129_2, hx129_3, hx129_4, hx129_5, hx129_6, hx129_7, hx129_8, hx129_9, hl129_9, hi129_9⟩ := at_T27 HR0.out x5_1 p129 q129
                            obtain rfl : ad123 = ad129 := (by injection e129)
                            have HR129_9 := Aside0.mk hi129_9
                            have HC129_9 := Aside0.mk hl129_9
                            clear hi129_9 hl129_9
                            replace p129 := eq_true p129
                            replace q129 := eq_true q129
                            have ea_ := Option.some.inj (hx123_9.symm.trans hx129_9)
                            injection ea_ with ea_ en_ ec_
                            subst ea_
                            subst ec_
                            clear en_
                            have p130 : 0 ≤ (x5_1 : Int) := of_decide_eq_true (by first | (with_reducible assumption) | assumption)
                            have q130 : x5_1 < (l0.length : Int) := of_decide_eq_true (by first | (with_reducible assumption) | assumption)
                            obtain ⟨ad130, A130_9, c130_9, e130, hx130_0, hx130_1, hx130_2, hx130_3, hx130_4, hx130_5, hx130_6, hx130_7, hx130_8, hx130_9, hl130_9, hi130_9⟩ := at_T27 HR0.out x5_1 p130 q130
                            obtain rfl : ad123 = ad130 := (by injection e130)
                            have HR130_9 := Aside0.mk hi130_9
                            have HC130_9 := Aside0.mk hl130_9
                            clear hi130_9 hl130_9
                            replace p130 := eq_true p130
                            replace q130 := eq_true q130
                            have ea_ := Option.some.inj (hx123_9.symm.trans hx130_9)
                            injection ea_ with ea_ en_ ec_
                            subst ea_
                            subst ec_
                            clear en_
                            have p131 : 0 ≤ (x5_1 : Int) := of_decide_eq_true (by first | (with_reducible assumption) | assumption)
                            have q131 : x5_1 < (l0.length : Int) := of_decide_eq_true (by first | (with_reducible assumption) | assumption)
                            obtain ⟨ad131, A131_9, c131_9, e131, hx131_0, hx131_1, hx131_2, hx131_3, hx131_4, hx131_5, hx131_6, hx131_7, hx131_8, hx131_9, hl131_9, hi131_9⟩ := at_T27 HR0.out x5_1 p131 q131
                            obtain rfl : ad123 = ad131 := (by injection e131)
                            have HR131_9 := Aside0.mk hi131_9
                            have HC131_9 := Aside0.mk hl131_9
                            clear hi131_9 hl131_9
                            replace p131 := eq_true p131
                            replace q131 := eq_true q131
                            have ea_ := Option.some.inj (hx123_9.symm.trans hx131_9)
                            injection ea_ with ea_ en_ ec_
                            subst ea_
                            subst ec_
                            clear en_
                            go_wp2
                            go_ret
                            exact ⟨by first | rfl | (simp; done) | (simp [*]; done), by repeat (first | exact Drawn0.refl _ | apply Drawn0.step)⟩
                        · rw [if_neg c12] at H
                          have c12b0 : (((rd_T27 l0 x5_1).f7) == (wrap64 ((wrap64 ((wrap64 ((wrap64 ((wrap64 ((wrap64 ((wrap64 (x1_1 + 1)) + 1)) + 1)) + 1)) + 1)) + 1)) + 1))) = false := beq_eq_false_iff_ne.mpr c12
                          have c12b1 : (((rd_T27 l0 x5_1).f7) != (wrap64 ((wrap64 ((wrap64 ((wrap64 ((wrap64 ((wrap64 ((wrap64 (x1_1 + 1)) + 1)) + 1)) + 1)) + 1)) + 1)) + 1))) = true := bne_iff_ne.mpr c12
                          obtain rfl := Option.some.inj H
                          have p123 : 0 ≤ (x5_1 : Int) := of_decide_eq_true (by first | (with_reducible assumption) | assumption)
                          have q123 : x5_1 < (l0.length : Int) := of_decide_eq_true (by first | (with_reducible assumption) | assumption)
                          obtain ⟨ad123, A123_9, c123_9, e123, hx123_0, hx123_1, hx123_2, hx123_3, hx123_4, hx123_5, hx123_6, hx123_7, hx123_8, hx123_9, hl123_9, hi123_9⟩ := at_T27 HR0.out x5_1 p123 q123
                          cases e123
                          have HR123_9 := Aside0.mk hi123_9
                          have HC123_9 := Aside0.mk hl123_9
                          clear hi123_9 hl123_9
                          replace p123 := eq_true p123
                          replace q123 := eq_true q123
                          have p124 : 0 ≤ (x5_1 : Int) := of_decide_eq_true (by first | (with_reducible assumption) | assumption)
                          have q124 : x5_1 < (l0.length : Int) := of_decide_eq_true (by first | (with_reducible assumption) | assumption)
                          obtain ⟨ad124, A124_9, c124_9, e124, hx124_0, hx124_1, hx124_2, hx124_3, hx124_4, hx124_5, hx124_6, hx124_7, hx124_8, hx124_9, hl124_9, hi124_9⟩ := at_T27 HR0.out x5_1 p124 q124
                          obtain rfl : ad123 = ad124 := (by injection e124)
                          have HR124_9 := Aside0.mk hi124_9
                          have HC124_9 := Aside0.mk hl124_9
                          clear hi124_9 hl124_9
                          replace p124 := eq_true p124
                          replace q124 := eq_true q124
                          have ea_ := Option.some.inj (hx123_9.symm.trans hx124_9)
                          injection ea_ with ea_ en_ ec_
                          subst ea_
                          subst ec_
                          clear en_
                          have p125 : 0 ≤ (x5_1 : Int) := of_decide_eq_true (by first | (with_reducible assumption) | assumption)
                          have q125 : x5_1 < (l0.length : Int) := of_decide_eq_true (by first | (with_reducible assumption) | assumption)
                          obtain ⟨ad125, A125_9, c125_9, e125, hx125_0, hx125_1, hx125_2, hx125_3, hx125_4, hx125_5, hx125_6, hx125_7, hx125_8, hx125_9, hl125_9, hi125_9⟩ := at_T27 HR0.out x5_1 p125 q125
                          obtain rfl : ad123 = ad125 := (by injection e125)
                          have HR125_9 := Aside0.mk hi125_9
                          have HC125_9 := Aside0.mk hl125_9
                          clear hi125_9 hl125_9
                          replace p125 := eq_true p125
                          replace q125 := eq_true q125
                          have ea_ := Option.some.inj (hx123_9.symm.trans hx125_9)
                          injection ea_ with ea_ en_ ec_
                          subst ea_
                          subst ec_
                          clear en_
                          have p126 : 0 ≤ (x5_1 : Int) := of_decide_eq_true (by first | (with_reducible assumption) | assumption)
                          have q126 : x5_1 < (l0.length : Int) := of_decide_eq_true (by first | (with_reducible assumption) | assumption)
                          obtain ⟨ad126, A126_9, c126_9, e126, hx126_0, hx126_1, hx126_2, hx126_3, hx126_4, hx126_5, hx126_6, hx126_7, hx126_8, hx126_9, hl126_9, hi126_9⟩ := at_T27 HR0.out x5_1 p126 q126
                          obtain rfl : ad123 = ad126 := (by injection e126)
                          have HR126_9 := Aside0.mk hi126_9
                          have HC126_9 := Aside0.mk hl126_9
                          clear hi126_9 hl126_9
                          replace p126 := eq_true p126
                          replace q126 := eq_true q126
                          have ea_ := Option.some.inj (hx123_9.symm.trans hx126_9)
                          injection ea_ with ea_ en_ ec_
                          subst ea_
                          subst ec_
                          clear en_
                          have p127 : 0 ≤ (x5_1 : Int) := of_decide_eq_true (by first | (with_reducible assumption) | assumption)
                          have q127 : x5_1 < (l0.length : Int) := of_decide_eq_true (by first | (with_reducible assumption) | assumption)
                          obtain ⟨ad127, A127_9, c127_9, e127, hx127_0, hx127_1, hx127_2, hx127_3, hx127_4, hx127_5, hx127_6, hx127_7, hx127_8, hx127_9, hl127_9, hi127_9⟩ := at_T27 HR0.out x5_1 p127 q127
                          obtain rfl : ad123 = ad127 := (by injection e127)
                          have HR127_9 := Aside0.mk hi127_9
                          have HC127_9 := Aside0.mk hl127_9
                          clear hi127_9 hl127_9
                          replace p127 := eq_true p127
                          replace q127 := eq_true q127
                          have ea_ := Option.some.inj (hx123_9.symm.trans hx127_9)
                          injection ea_ with ea_ en_ ec_
                          subst ea_
                          subst ec_
                          clear en_
                          have p128 : 0 ≤ (x5_1 : Int) := of_decide_eq_true (by first | (with_reducible assumption) | assumption)
                          have q128 : x5_1 < (l0.length : Int) := of_decide_eq_true (by first | (with_reducible assumption) | assumption)
                          obtain ⟨ad128, A128_9, c128_9, e128, hx128_0, hx128_1, hx128_2, hx128_3, hx128_4, hx128_5, hx128_6, hx128_7, hx128_8, hx128_9, hl128_9, hi128_9⟩ := at_T27 HR0.out x5_1 p128 q128
                          obtain rfl : ad123 = ad128 := (by injection e128)
                          have HR128_9 := Aside0.mk hi128_9
                          have HC128_9 := Aside0.mk hl128_9
                          clear hi128_9 hl128_9
                          replace p128 := eq_true p128
                          replace q128 := eq_true q128
                          have ea_ := Option.some.inj (hx123_9.symm.trans hx128_9)
                          injection ea_ with ea_ en_ ec_
                          subst ea_
                          subst ec_
                          clear en_
                          have p129 : 0 ≤ (x5_1 : Int) := of_decide_eq_true (by first | (with_reducible assumption) | assumption)
                          have q129 : x5_1 < (l0.length : Int) := of_decide_eq_true (by first | (with_reducible assumption) | assumption)
                          obtain ⟨ad129, A129_9, c129_9, e129, hx129_0, hx129_1, hx129_2, hx129_3, hx129_4, hx129_5, hx129_6, hx129_7, hx129_8, hx129_9, hl129_9, hi129_9⟩ := at_T27 HR0.out x5_1 p129 q129
                          obtain rfl : ad123 = ad129 := (by injection e129)
                          have HR129_9 := Aside0.mk hi129_9
                          have HC129_9 := Aside0.mk hl129_9
                          clear hi129_9 hl129_9
                          replace p129 := eq_true p129
                          replace q129 := eq_true q129
                          have ea_ := Option.some.inj (hx123_9.symm.trans hx129_9)
                          injection ea_ with ea_ en_ ec_
                          subst ea_
                          subst ec_
                          clear en_
                          have p130 : 0 ≤ (x5_1 : Int) := of_decide_eq_true (by first | (with_reducible assumption) | assumption)
                          have q130 : x5_1 < (l0.length : Int) := of_decide_eq_true (by first | (with_reducible assumption) | assumption)
                          obtain ⟨ad130, A130_9, c130_9, e130, hx130_0, hx130_1, hx130_2, hx130_3, hx130_4, hx130_5, hx130_6, hx130_7, hx130_8, hx130_9, hl130_9, hi130_9⟩ := at_T27 HR0.out x5_1 p130 q130
                          obtain rfl : ad123 = ad130 := (by injection e130)
                          have HR130_9 := Aside0.mk hi130_9
                          have HC130_9 := Aside0.mk hl130_9
                          clear hi130_9 hl130_9
                          replace p130 := eq_true p130
                          replace q130 := eq_true q130
                          have ea_ := Option.some.inj (hx123_9.symm.trans hx130_9)
                          injection ea_ with ea_ en_ ec_
                          subst ea_
                          subst ec_
                          clear en_
                          go_wp2
                          go_ret
                          exact ⟨by first | rfl | (simp; done) | (simp [*]; done), by repeat (first | exact Drawn0.refl _ | apply Drawn0.step)⟩
                      · rw [if_neg c11] at H
                        have c11b0 : (((rd_T27 l0 x5_1).f6) == (wrap64 ((wrap64 ((wrap64 ((wrap64 ((wrap64 ((wrap64 (x1_1 + 1)) + 1)) + 1)) + 1)) + 1)) + 1))) = false := beq_eq_false_iff_ne.mpr c11
                        have c11b1 : (((rd_T27 l0 x5_1).f6) != (wrap64 ((wrap64 ((wrap64 ((wrap64 ((wrap64 ((wrap64 (x1_1 + 1)) + 1)) + 1)) + 1)) + 1)) + 1))) = true := bne_iff_ne.mpr c11
                        obtain rfl := Option.some.inj H
                        have p123 : 0 ≤ (x5_1 : Int) := of_decide_eq_true (by first | (with_reducible assumption) | assumption)
                        have q123 : x5_1 < (l0.length : Int) := of_decide_eq_true (by first | (with_reducible assumption) | assumption)
                        obtain ⟨ad123, A123_9, c123_9, e123, hx123_0, hx123_1, hx123_2, hx123_3, hx123_4, hx123_5, hx123_6, hx123_7, hx123_8, hx123_9, hl123_9, hi123_9⟩ := at_T27 HR0.out x5_1 p123 q123
                        cases e123
                        have HR123_9 := Aside0.mk hi123_9
                        have HC123_9 := Aside0.mk hl123_9
                        clear hi123_9 hl123_9
                        replace p123 := eq_true p123
                        replace q123 := eq_true q123
                        have p124 : 0 ≤ (x5_1 : Int) := of_decide_eq_true (by first | (with_reducible assumption) | assumption)
                        have q124 : x5_1 < (l0.length : Int) := of_decide_eq_true (by first | (with_reducible assumption) | assumption)
                        obtain ⟨ad124, A124_9, c124_9, e124, hx124_0, hx124_1, hx124_2, hx124_3, hx124_4, hx124_5, hx124_6, hx124_7, hx124_8, hx124_9, hl124_9, hi124_9⟩ := at_T27 HR0.out x5_1 p124 q124
                        obtain rfl : ad123 = ad124 := (by injection e124)
                        have HR124_9 := Aside0.mk hi124_9
                        have HC124_9 := Aside0.mk hl124_9
                        clear hi124_9 hl124_9
                        replace p124 := eq_true p124
                        replace q124 := eq_true q124
                        have ea_ := Option.some.inj (hx123_9.symm.trans hx124_9)
                        injection ea_ with ea_ en_ ec_
                        subst ea_
                        subst ec_
                        clear en_
                        have p125 : 0 ≤ (x5_1 : Int) := of_decide_eq_true (by first | (with_reducible assumption) | assumption)
                        have q125 : x5_1 < (l0.length : Int) := of_decide_eq_true (by first | (with_reducible assumption) | assumption)
                        obtain ⟨ad125, A125_9, c125_9, e125, hx125_0, hx125_1, hx125_2, hx125_3, hx125_4, hx125_5, hx125_6, hx125_7, hx125_8, hx125_9, hl125_9, hi125_9⟩ := at_T27 HR0.out x5_1 p125 q125
                        obtain rfl : ad123 = ad125 := (by injection e125)
                        have HR125_9 := Aside0.mk hi125_9
                        have HC125_9 := Aside0.mk hl125_9
                        clear hi125_9 hl125_9
                        replace p125 := eq_true p125
                        replace q125 := eq_true q125
                        have ea_ := Option.some.inj (hx123_9.symm.trans hx125_9)
                        injection ea_ with ea_ en_ ec_
                        subst ea_
                        subst ec_
                        clear en_
                        have p126 : 0 ≤ (x5_1 : Int) := of_decide_eq_true (by first | (with_reducible assumption) | assumption)
                        have q126 : x5_1 < (l0.length : Int) := of_decide_eq_true (by first | (with_reducible assumption) | assumption)
                        obtain ⟨ad126, A126_9, c126_9, e126, hx126_0, hx126_1, hx126_2, hx126_3, hx126_4, hx126_5, hx126_6, hx126_7, hx126_8, hx126_9, hl126_9, hi126_9⟩ := at_T27 HR0.out x5_1 p126 q126
                        obtain rfl : ad123 = ad126 := (by injection e126)
                        have HR126_9 := Aside0.mk hi126_9
                        have HC126_9 := Aside0.mk hl126_9
                        clear hi126_9 hl126_9
                        replace p126 := eq_true p126
                        replace q126 := eq_true q126
                        have ea_ := Option.some.inj (hx123_9.symm.trans hx126_9)
                        injection ea_ with ea_ en_ ec_
                        subst ea_
                        subst ec_
                        clear en_
                        have p127 : 0 ≤ (x5_1 : Int) := of_decide_eq_true (by first | (with_reducible assumption) | assumption)
                        have q127 : x5_1 < (l0.length : Int) := of_decide_eq_true (by first | (with_reducible assumption) | assumption)
                        obtain ⟨ad127, A127_9, c127_9, e127, hx127_0, hx127_1, hx127_2, hx127_3, hx127_4, hx127_5, hx127_6, hx127_7, hx127_8, hx127_9, hl127_9, hi127_9⟩ := at_T27 HR0.out x5_1 p127 q127
                        obtain rfl : ad123 = ad127 := (by injection e127)
                        have HR127_9 := Aside0.mk hi127_9
                        have HC127_9 := Aside0.mk hl127_9
                        clear hi127_9 hl127_9
                        replace p127 := eq_true p127
                        replace q127 := eq_true q127
                        have ea_ := Option.some.inj (hx123_9.symm.trans hx127_9)
                        injection ea_ with ea_ en_ ec_
                        subst ea_
                        subst ec_
                        clear en_
                        have p128 : 0 ≤ (x5_1 : Int) := of_decide_eq_true (by first | (with_reducible assumption) | assumption)
                        have q128 : x5_1 < (l0.length : Int) := of_decide_eq_true (by first | (with_reducible assumption) | assumption)
                        obtain ⟨ad128, A128_9, c128_9, e128, hx128_0, hx128_1, hx128_2, hx128_3, hx128_4, hx128_5, hx128_6, hx128_7, hx128_8, hx128_9, hl128_9, hi128_9⟩ := at_T27 HR0.out x5_1 p128 q128
                        obtain rfl : ad123 = ad128 := (by injection e128)
                        have HR128_9 := Aside0.mk hi128_9
                        have HC128_9 := Aside0.mk hl128_9
                        clear hi128_9 hl128_9
                        replace p128 := eq_true p128
                        replace q128 := eq_true q128
                        have ea_ := Option.some.inj (hx123_9.symm.trans hx128_9)
                        injection ea_ with ea_ en_ ec_
                        subst ea_
                        subst ec_
                        clear en_
                        have p129 : 0 ≤ (x5_1 : Int) := of_decide_eq_true (by first | (with_reducible assumption) | assumption)
                        have q129 : x5_1 < (l0.length : Int) := of_decide_eq_true (by first | (with_reducible assumption) | assumption)
                        obtain ⟨ad129, A129_9, c129_9, e129, hx129_0, hx129_1, hx129_2, hx129_3, hx129_4, hx129_5, hx129_6, hx129_7, hx129_8, hx129_9, hl129_9, hi129_9⟩ := at_T27 HR0.out x5_1 p129 q129
                        obtain rfl : ad123 = ad129 := (by injection e129)
                        have HR129_9 := Aside0.mk hi129_9
                        have HC129_9 := Aside0.mk hl129_9
                        clear hi129_9 hl129_9
                        replace p129 := eq_true p129
                        replace q129 := eq_true q129
                        have ea_ := Option.some.inj (hx123_9.symm.trans hx129_9)
                        injection ea_ with ea_ en_ ec_
                        subst ea_
                        subst ec_
                        clear en_
                        go_wp2
                        go_ret
                        exact ⟨by first | rfl | (simp; done) | (simp [*]; done), by repeat (first | exact Drawn0.refl _ | apply Drawn0.step)⟩
                    · rw [if_neg c10] at H
                      have c10b0 : (((rd_T27 l0 x5_1).f5) == (wrap64 ((wrap64 ((wrap64 ((wrap64 ((wrap64 (x1_1 + 1)) + 1)) + 1)) + 1)) + 1))) = false := beq_eq_false_iff_ne.mpr c10
                      have c10b1 : (((rd_T27 l0 x5_1).f5) != (wrap64 ((wrap64 ((wrap64 ((wrap64 ((wrap64 (x1_1 + 1)) + 1)) + 1)) + 1)) + 1))) = true := bne_iff_ne.mpr c10
                      obtain rfl := Option.some.inj H
                      have p123 : 0 ≤ (x5_1 : Int) := of_decide_eq_true (by first | (with_reducible assumption) | assumption)
                      have q123 : x5_1 < (l0.length : Int) := of_decide_eq_true (by first | (with_reducible assumption) | assumption)
                      obtain ⟨ad123, A123_9, c123_9, e123, hx123_0, hx123_1, hx123_2, hx123_3, hx123_4, hx123_5, hx123_6, hx123_7, hx123_8, hx123_9, hl123_9, hi123_9⟩ := at_T27 HR0.out x5_1 p123 q123
                      cases e123
                      have HR123_9 := Aside0.mk hi123_9
                      have HC123_9 := Aside0.mk hl123_9
                      clear hi123_9 hl123_9
                      replace p123 := eq_true p123
                      replace q123 := eq_true q123
                      have p124 : 0 ≤ (x5_1 : Int) := of_decide_eq_true (by first | (with_reducible assumption) | assumption)
                      have q124 : x5_1 < (l0.length : Int) := of_decide_eq_true (by first | (with_reducible assumption) | assumption)
                      obtain ⟨ad124, A124_9, c124_9, e124, hx124_0, hx124_1, hx124_2, hx124_3, hx124_4, hx124_5, hx124_6, hx124_7, hx124_8, hx124_9, hl124_9, hi124_9⟩ := at_T27 HR0.out x5_1 p124 q124
                      obtain rfl : ad123 = ad124 := (by injection e124)
                      have HR124_9 := Aside0.mk hi124_9
                      have HC124_9 := Aside0.mk hl124_9
                      clear hi124_9 hl124_9
                      replace p124 := eq_true p124
                      replace q124 := eq_true q124
                      have ea_ := Option.some.inj (hx123_9.symm.trans hx124_9)
                      injection ea_ with ea_ en_ ec_
                      subst ea_
                      subst ec_
                      clear en_
                      have p125 : 0 ≤ (x5_1 : Int) := of_decide_eq_true (by first | (with_reducible assumption) | assumption)
                      have q125 : x5_1 < (l0.length : Int) := of_decide_eq_true (by first | (with_reducible assumption) | assumption)
                      obtain ⟨ad125, A125_9, c125_9, e125, hx125_0, hx125_1, hx125_2, hx125_3, hx125_4, hx125_5, hx125_6, hx125_7, hx125_8, hx125_9, hl125_9, hi125_9⟩ := at_T27 HR0.out x5_1 p125 q125
                      obtain rfl : ad123 = ad125 := (by injection e125)
                      have HR125_9 := Aside0.mk hi125_9
                      have HC125_9 := Aside0.mk hl125_9
                      clear hi125_9 hl125_9
                      replace p125 := eq_true p125
                      replace q125 := eq_true q125
                      have ea_ := Option.some.inj (hx123_9.symm.trans hx125_9)
                      injection ea_ with ea_ en_ ec_
                      subst ea_
                      subst ec_
                      clear en_
                      have p126 : 0 ≤ (x5_1 : Int) := of_decide_eq_true (by first | (with_reducible assumption) | assumption)
                      have q126 : x5_1 < (l0.length : Int) := of_decide_eq_true (by first | (with_reducible assumption) | assumption)
                      obtain ⟨ad126, A126_9, c126_9, e126, hx126_0, hx126_1, hx126_2, hx126_3, hx126_4, hx126_5, hx126_6, hx126_7, hx126_8, hx126_9, hl126_9, hi126_9⟩ := at_T27 HR0.out x5_1 p126 q126
                      obtain rfl : ad123 = ad126 := (by injection e126)
                      have HR126_9 := Aside0.mk hi126_9
                      have HC126_9 := Aside0.mk hl126_9
                      clear hi126_9 hl126_9
                      replace p126 := eq_true p126
                      replace q126 := eq_true q126
                      have ea_ := Option.some.inj (hx123_9.symm.trans hx126_9)
                      injection ea_ with ea_ en_ ec_
                      subst ea_
                      subst ec_
                      clear en_
                      have p127 : 0 ≤ (x5_1 : Int) := of_decide_eq_true (by first | (with_reducible assumption) | assumption)
                      have q127 : x5_1 < (l0.length : Int) := of_decide_eq_true (by first | (with_reducible assumption) | assumption)
                      obtain ⟨ad127, A127_9, c127_9, e127, hx127_0, hx127_1, hx127_2, hx127_3, hx127_4, hx127_5, hx127_6, hx127_7, hx127_8, hx127_9, hl127_9, hi127_9⟩ := at_T27 HR0.out x5_1 p127 q127
                      obtain rfl : ad123 = ad127 := (by injection e127)
                      have HR127_9 := Aside0.mk hi127_9
                      have HC127_9 := Aside0.mk hl127_9
                      clear hi127_9 hl127_9
                      replace p127 := eq_true p127
                      replace q127 := eq_true q127
                      have ea_ := Option.some.inj (hx123_9.symm.trans hx127_9)
                      injection ea_ with ea_ en_ ec_
                      subst ea_
                      subst ec_
                      clear en_
                      have p128 : 0 ≤ (x5_1 : Int) := of_decide_eq_true (by first | (with_reducible assumption) | assumption)
                      have q128 : x5_1 < (l0.length : Int) := of_decide_eq_true (by first | (with_reducible assumption) | assumption)
                      obtain ⟨ad128, A128_9, c128_9, e128, hx128_0, hx128_1, hx128_2, hx128_3, hx128_4, hx128_5, hx128_6, hx128_7, hx128_8, hx128_9, hl128_9, hi128_9⟩ := at_T27 HR0.out x5_1 p128 q128
                      obtain rfl : ad123 = ad128 := (by injection e128)
                      have HR128_9 := Aside0.mk hi128_9
                      have HC128_9 := Aside0.mk hl128_9
                      clear hi128_9 hl128_9
                      replace p128 := eq_true p128
                      replace q128 := eq_true q128
                      have ea_ := Option.some.inj (hx123_9.symm.trans hx128_9)
                      injection ea_ with ea_ en_ ec_
                      subst ea_
                      subst ec_
                      clear en_
                      go_wp2
                      go_ret
                      exact ⟨by first | rfl | (simp; done) | (simp [*]; done), by repeat (first | exact Drawn0.refl _ | apply Drawn0.step)⟩
                  · rw [if_neg c9] at H
                    have c9b0 : (((rd_T27 l0 x5_1).f4) == (wrap64 ((wrap64 ((wrap64 ((wrap64 (x1_1 + 1)) + 1)) + 1)) + 1))) = false := beq_eq_false_iff_ne.mpr c9
                    have c9b1 : (((rd_T27 l0 x5_1).f4) != (wrap64 ((wrap64 ((wrap64 ((wrap64 (x1_1 + 1)) + 1)) + 1)) + 1))) = true := bne_iff_ne.mpr c9
                    obtain rfl := Option.some.inj H
                    have p123 : 0 ≤ (x5_1 : Int) := of_decide_eq_true (by first | (with_reducible assumption) | assumption)
                    have q123 : x5_1 < (l0.length : Int) := of_decide_eq_true (by first | (with_reducible assumption) | assumption)
                    obtain ⟨ad123, A123_9, c123_9, e123, hx123_0, hx123_1, hx123_2, hx123_3, hx123_4, hx123_5, hx123_6, hx123_7, hx123_8, hx123_9, hl123_9, hi123_9⟩ := at_T27 HR0.out x5_1 p123 q123
                    cases e123
                    have HR123_9 := Aside0.mk hi123_9
                    have HC123_9 := Aside0.mk hl123_9
                    clear hi123_9 hl123_9
                    replace p123 := eq_true p123
                    replace q123 := eq_true q123
                    have p124 : 0 ≤ (x5_1 : Int) := of_decide_eq_true (by first | (with_reducible assumption) | assumption)
                    have q124 : x5_1 < (l0.length : Int) := of_decide_eq_true (by first | (with_reducible assumption) | assumption)
                    obtain ⟨ad124, A124_9, c124_9, e124, hx124_0, hx124_1, hx124_2, hx124_3, hx124_4, hx124_5, hx124_6, hx124_7, hx124_8, hx124_9, hl124_9, hi124_9⟩ := at_T27 HR0.out x5_1 p124 q124
                    obtain rfl : ad123 = ad124 := (by injection e124)
                    have HR124_9 := Aside0.mk hi124_9
                    have HC124_9 := Aside0.mk hl124_9
                    clear hi124_9 hl124_9
                    replace p124 := eq_true p124
                    replace q124 := eq_true q124
                    have ea_ := Option.some.inj (hx123_9.symm.trans hx124_9)
                    injection ea_ with ea_ en_ ec_
                    subst ea_
                    subst ec_
                    clear en_
                    have p125 : 0 ≤ (x5_1 : Int) := of_decide_eq_true (by first | (with_reducible assumption) | assumption)
                    have q125 : x5_1 < (l0.length : Int) := of_decide_eq_true (by first | (with_reducible assumption) | assumption)
                    obtain ⟨ad125, A125_9, c125_9, e125, hx125_0, hx125_1, hx125_2, hx125_3, hx125_4, hx125_5, hx125_6, hx125_7, hx125_8, hx125_9, hl125_9, hi125_9⟩ := at_T27 HR0.out x5_1 p125 q125
                    obtain rfl : ad123 = ad125 := (by injection e125)
                    have HR125_9 := Aside0.mk hi125_9
                    have HC125_9 := Aside0.mk hl125_9
                    clear hi125_9 hl125_9
                    replace p125 := eq_true p125
                    replace q125 := eq_true q125
                    have ea_ := Option.some.inj (hx123_9.symm.trans hx125_9)
                    injection ea_ with ea_ en_ ec_
                    subst ea_
                    subst ec_
                    clear en_
                    have p126 : 0 ≤ (x5_1 : Int) := of_decide_eq_true (by first | (with_reducible assumption) | assumption)
                    have q126 : x5_1 < (l0.length : Int) := of_decide_eq_true (by first | (with_reducible assumption) | assumption)
                    obtain ⟨ad126, A126_9, c126_9, e126, hx126_0, hx126_1, hx126_2, hx126_3, hx126_4, hx126_5, hx126_6, hx126_7, hx126_8, hx126_9, hl126_9, hi126_9⟩ := at_T27 HR0.out x5_1 p126 q126
                    obtain rfl : ad123 = ad126 := (by injection e126)
                    have HR126_9 := Aside0.mk hi126_9
                    have HC126_9 := Aside0.mk hl126_9
                    clear hi126_9 hl126_9
                    replace p126 := eq_true p126
                    replace q126 := eq_true q126
                    have ea_ := Option.some.inj (hx123_9.symm.trans hx126_9)
                    injection ea_ with ea_ en_ ec_
                    subst ea_
                    subst ec_
                    clear en_
                    have p127 : 0 ≤ (x5_1 : Int) := of_decide_eq_true (by first | (with_reducible assumption) | assumption)
                    have q127 : x5_1 < (l0.length : Int) := of_decide_eq_true (by first | (with_reducible assumption) | assumption)
                    obtain ⟨ad127, A127_9, c127_9, e127, hx127_0, hx127_1, hx127_2, hx127_3, hx127_4, hx127_5, hx127_6, hx127_7, hx127_8, hx127_9, hl127_9, hi127_9⟩ := at_T27 HR0.out x5_1 p127 q127
                    obtain rfl : ad123 = ad127 := (by injection e127)
                    have HR127_9 := Aside0.mk hi127_9
                    have HC127_9 := Aside0.mk hl127_9
                    clear hi127_9 hl127_9
                    replace p127 := eq_true p127
                    replace q127 := eq_true q127
                    have ea_ := Option.some.inj (hx123_9.symm.trans hx127_9)
                    injection ea_ with ea_ en_ ec_
                    subst ea_
                    subst ec_
                    clear en_
                    go_wp2
                    go_ret
                    exact ⟨by first | rfl | (simp; done) | (simp [*]; done), by repeat (first | exact Drawn0.refl _ | apply Drawn0.step)⟩
                · rw [if_neg c8] at H
                  have c8b0 : (((rd_T27 l0 x5_1).f3) == (wrap64 ((wrap64 ((wrap64 (x1_1 + 1)) + 1)) + 1))) = false := beq_eq_false_iff_ne.mpr c8
                  have c8b1 : (((rd_T27 l0 x5_1).f3) != (wrap64 ((wrap64 ((wrap64 (x1_1 + 1)) + 1)) + 1))) = true := bne_iff_ne.mpr c8
                  obtain rfl := Option.some.inj H
                  have p123 : 0 ≤ (x5_1 : Int) := of_decide_eq_true (by first | (with_reducible assumption) | assumption)
                  have q123 : x5_1 < (l0.length : Int) := of_decide_eq_true (by first | (with_reducible assumption) | assumption)
                  obtain ⟨ad123, A123_9, c123_9, e123, hx123_0, hx123_1, hx123_2, hx123_3, hx123_4, hx123_5, hx123_6, hx123_7, hx123_8, hx123_9, hl123_9, hi123_9⟩ := at_T27 HR0.out x5_1 p123 q123
                  cases e123
                  have HR123_9 := Aside0.mk hi123_9
                  have HC123_9 := Aside0.mk hl123_9
                  clear hi123_9 hl123_9
                  replace p123 := eq_true p123
                  replace q123 := eq_true q123
                  have p124 : 0 ≤ (x5_1 : Int) := of_decide_eq_true (by first | (with_reducible assumption) | assumption)
                  have q124 : x5_1 < (l0.length : Int) := of_decide_eq_true (by first | (with_reducible assumption) | assumption)
                  obtain ⟨ad124, A124_9, c124_9, e124, hx124_0, hx124_1, hx124_2, hx124_3, hx124_4, hx124_5, hx124_6, hx124_7, hx124_8, hx124_9, hl124_9, hi124_9⟩ := at_T27 HR0.out x5_1 p124 q124
                  obtain rfl : ad123 = ad124 := (by injection e124)
                  have HR124_9 := Aside0.mk hi124_9
                  have HC124_9 := Aside0.mk hl124_9
                  clear hi124_9 hl124_9
                  replace p124 := eq_true p124
                  replace q124 := eq_true q124
                  have ea_ := Option.some.inj (hx123_9.symm.trans hx124_9)
                  injection ea_ with ea_ en_ ec_
                  subst ea_
                  subst ec_
                  clear en_
                  have p125 : 0 ≤ (x5_1 : Int) := of_decide_eq_true (by first | (with_reducible assumption) | assumption)
                  have q125 : x5_1 < (l0.length : Int) := of_decide_eq_true (by first | (with_reducible assumption) | assumption)
                  obtain ⟨ad125, A125_9, c125_9, e125, hx125_0, hx125_1, hx125_2, hx125_3, hx125_4, hx125_5, hx125_6, hx125_7, hx125_8, hx125_9, hl125_9, hi125_9⟩ := at_T27 HR0.out x5_1 p125 q125
                  obtain rfl : ad123 = ad125 := (by injection e125)
                  have HR125_9 := Aside0.mk hi125_9
                  have HC125_9 := Aside0.mk hl125_9
                  clear hi125_9 hl125_9
                  replace p125 := eq_true p125
                  replace q125 := eq_true q125
                  have ea_ := Option.some.inj (hx123_9.symm.trans hx125_9)
                  injection ea_ with ea_ en_ ec_
                  subst ea_
                  subst ec_
                  clear en_
                  have p126 : 0 ≤ (x5_1 : Int) := of_decide_eq_true (by first | (with_reducible assumption) | assumption)
                  have q126 : x5_1 < (l0.length : Int) := of_decide_eq_true (by first | (with_reducible assumption) | assumption)
                  obtain ⟨ad126, A126_9, c126_9, e126, hx126_0, hx126_1, hx126_2, hx126_3, hx126_4, hx126_5, hx126_6, hx126_7, hx126_8, hx126_9, hl126_9, hi126_9⟩ := at_T27 HR0.out x5_1 p126 q126
                  obtain rfl : ad123 = ad126 := (by injection e126)
                  have HR126_9 := Aside0.mk hi126_9
                  have HC126_9 := Aside0.mk hl126_9
                  clear hi126_9 hl126_9
                  replace p126 := eq_true p126
                  replace q126 := eq_true q126
                  have ea_ := Option.some.inj (hx123_9.symm.trans hx126_9)
                  injection ea_ with ea_ en_ ec_
                  subst ea_
                  subst ec_
                  clear en_
                  go_wp2
                  go_ret
                  exact ⟨by first | rfl | (simp; done) | (simp [*]; done), by repeat (first | exact Drawn0.refl _ | apply Drawn0.step)⟩
              · rw [if_neg c7] at H
                have c7b0 : (((rd_T27 l0 x5_1).f2) == (wrap64 ((wrap64 (x1_1 + 1)) + 1))) = false := beq_eq_false_iff_ne.mpr c7
                have c7b1 : (((rd_T27 l0 x5_1).f2) != (wrap64 ((wrap64 (x1_1 + 1)) + 1))) = true := bne_iff_ne.mpr c7
                obtain rfl := Option.some.inj H
                have p123 : 0 ≤ (x5_1 : Int) := of_decide_eq_true (by first | (with_reducible assumption) | assumption)
                have q123 : x5_1 < (l0.length : Int) := of_decide_eq_true (by first | (with_reducible assumption) | assumption)
                obtain ⟨ad123, A123_9, c123_9, e123, hx123_0, hx123_1, hx123_2, hx123_3, hx123_4, hx123_5, hx123_6, hx123_7, hx123_8, hx123_9, hl123_9, hi123_9⟩ := at_T27 HR0.out x5_1 p123 q123
                cases e123
                have HR123_9 := Aside0.mk hi123_9
                have HC123_9 := Aside0.mk hl123_9
                clear hi123_9 hl123_9
                replace p123 := eq_true p123
                replace q123 := eq_true q123
                have p124 : 0 ≤ (x5_1 : Int) := of_decide_eq_true (by first | (with_reducible assumption) | assumption)
                have q124 : x5_1 < (l0.length : Int) := of_decide_eq_true (by first | (with_reducible assumption) | assumption)
                obtain ⟨ad124, A124_9, c124_9, e124, hx124_0, hx124_1, hx124_2, hx124_3, hx124_4, hx124_5, hx124_6, hx124_7, hx124_8, hx124_9, hl124_9, hi124_9⟩ := at_T27 HR0.out x5_1 p124 q124
                obtain rfl : ad123 = ad124 := (by injection e124)
                have HR124_9 := Aside0.mk hi124_9
                have HC124_9 := Aside0.mk hl124_9
                clear hi124_9 hl124_9
                replace p124 := eq_true p124
                replace q124 := eq_true q124
                have ea_ := Option.some.inj (hx123_9.symm.trans hx124_9)
                injection ea_ with ea_ en_ ec_
                subst ea_
                subst ec_
                clear en_
                have p125 : 0 ≤ (x5_1 : Int) := of_decide_eq_true (by first | (with_reducible assumption) | assumption)
                have q125 : x5_1 < (l0.length : Int) := of_decide_eq_true (by first | (with_reducible assumption) | assumption)
                obtain ⟨ad125, A125_9, c125_9, e125, hx125_0, hx125_1, hx125_2, hx125_3, hx125_4, hx125_5, hx125_6, hx125_7, hx125_8, hx125_9, hl125_9, hi125_9⟩ := at_T27 HR0.out x5_1 p125 q125
                obtain rfl : ad123 = ad125 := (by injection e125)
                have HR125_9 := Aside0.mk hi125_9
                have HC125_9 := Aside0.mk hl125_9
                clear hi125_9 hl125_9
                replace p125 := eq_true p125
                replace q125 := eq_true q125
                have ea_ := Option.some.inj (hx123_9.symm.trans hx125_9)
                injection ea_ with ea_ en_ ec_
                subst ea_
                subst ec_
                clear en_
                go_wp2
                go_ret
                exact ⟨by first | rfl | (simp; done) | (simp [*]; done), by repeat (first | exact Drawn0.refl _ | apply Drawn0.step)⟩
            · rw [if_neg c6] at H
              have c6b0 : (((rd_T27 l0 x5_1).f1) == (wrap64 (x1_1 + 1))) = false := beq_eq_false_iff_ne.mpr c6
              have c6b1 : (((rd_T27 l0 x5_1).f1) != (wrap64 (x1_1 + 1))) = true := bne_iff_ne.mpr c6
              obtain rfl := Option.some.inj H
              have p123 : 0 ≤ (x5_1 : Int) := of_decide_eq_true (by first | (with_reducible assumption) | assumption)
              have q123 : x5_1 < (l0.length : Int) := of_decide_eq_true (by first | (with_reducible assumption) | assumption)
              obtain ⟨ad123, A123_9, c123_9, e123, hx123_0, hx123_1, hx123_2, hx123_3, hx123_4, hx123_5, hx123_6, hx123_7, hx123_8, hx123_9, hl123_9, hi123_9⟩ := at_T27 HR0.out x5_1 p123 q123
              cases e123
              have HR123_9 := Aside0.mk hi123_9
              have HC123_9 := Aside0.mk hl123_9
              clear hi123_9 hl123_9
              replace p123 := eq_true p123
              replace q123 := eq_true q123
              have p124 : 0 ≤ (x5_1 : Int) := of_decide_eq_true (by first | (with_reducible assumption) | assumption)
              have q124 : x5_1 < (l0.length : Int) := of_decide_eq_true (by first | (with_reducible assumption) | assumption)
              obtain ⟨ad124, A124_9, c124_9, e124, hx124_0, hx124_1, hx124_2, hx124_3, hx124_4, hx124_5, hx124_6, hx124_7, hx124_8, hx124_9, hl124_9, hi124_9⟩ := at_T27 HR0.out x5_1 p124 q124
              obtain rfl : ad123 = ad124 := (by injection e124)
              have HR124_9 := Aside0.mk hi124_9
              have HC124_9 := Aside0.mk hl124_9
              clear hi124_9 hl124_9
              replace p124 := eq_true p124
              replace q124 := eq_true q124
              have ea_ := Option.some.inj (hx123_9.symm.trans hx124_9)
              injection ea_ with ea_ en_ ec_
              subst ea_
              subst ec_
              clear en_
              go_wp2
              go_ret
              exact ⟨by first | rfl | (simp; done) | (simp [*]; done), by repeat (first | exact Drawn0.refl _ | apply Drawn0.step)⟩
          · rw [if_neg c5] at H
            have c5b0 : (((rd_T27 l0 x5_1).f0) == x1_1) = false := beq_eq_false_iff_ne.mpr c5
            have c5b1 : (((rd_T27 l0 x5_1).f0) != x1_1) = true := bne_iff_ne.mpr c5
            obtain rfl := Option.some.inj H
            have p123 : 0 ≤ (x5_1 : Int) := of_decide_eq_true (by first | (with_reducible assumption) | assumption)
            have q123 : x5_1 < (l0.length : Int) := of_decide_eq_true (by first | (with_reducible assumption) | assumption)
            obtain ⟨ad123, A123_9, c123_9, e123, hx123_0, hx123_1, hx123_2, hx123_3, hx123_4, hx123_5, hx123_6, hx123_7, hx123_8, hx123_9, hl123_9, hi123_9⟩ := at_T27 HR0.out x5_1 p123 q123
            cases e123
            have HR123_9 := Aside0.mk hi123_9
            have HC123_9 := Aside0.mk hl123_9
            clear hi123_9 hl123_9
            replace p123 := eq_true p123
            replace q123 := eq_true q123
            go_wp2
            go_ret
            exact ⟨by first | rfl | (simp; done) | (simp [*]; done), by repeat (first | exact Drawn0.refl _ | apply Drawn0.step)⟩
        · rw [if_neg c4] at H
          exact absurd H (by simp)
      · rw [if_neg c3] at H
        have c3b0 : decide (x5_1 < (l0.length : Int)) = false := decide_eq_false c3
        clear c3
        obtain rfl := Option.some.inj H
        go_wp2
        go_ret
        exact ⟨by first | rfl | (simp; done) | (simp [*]; done), by repeat (first | exact Drawn0.refl _ | apply Drawn0.step)⟩

end Go.Proofs.Ytknlpjoidjgciaa.PFnExactNewState
