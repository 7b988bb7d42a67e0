-- Written by a program of this session (patch_print.py over the kit print)
import Derived.Test.YtkghgjehjchajaaDoorPFnExactDecodeSnapx0
namespace Go.Proofs.YtkghgjehjchajaaDoor.PFnExactDecodeSnap
open Go.RowKit Go.Proofs.YtkghgjehjchajaaDoorW.PrintWords Go.Proofs.YtkghgjehjchajaaDoorW.PrintLast Go.Proofs.YtkghgjehjchajaaDoorW.PrintMore
attribute [local go_sem] max2_int min2_int max_two min_two max_three min_three max_four min_four   -- for this text's walks alone
set_option linter.unusedVariables false
set_option linter.unusedSimpArgs false

/-! ### laws_eqByteS: function 13 -/
def laws_eqByteS.l0 : Nat → List Int → List Int → Int → Option (Bool)
  | 0, _, _, _ => none
  | k + 1, x0, x1, x5 => if x5 < (x0.length : Int) then (if 0 ≤ x5 then (if x5 < (x1.length : Int) then (if (rd x0 x5) = (rd x1 x5) then (laws_eqByteS.l0 k x0 x1 (wrap64 (x5 + 1))) else (some false)) else (none)) else (none)) else (some true)
def laws_eqByteS.f (k : Nat) (l0 : List Int) (l1 : List Int) : Option (Bool) := if (l0.length : Int) = (l1.length : Int) then (laws_eqByteS.l0 k l0 l1 0) else (some false)
theorem laws_eqByteS.mono_l : ∀ k, (∀ y0 y1 y2, LeO (laws_eqByteS.l0 k y0 y1 y2) (laws_eqByteS.l0 (k + 1) y0 y1 y2))
  | 0 => fun _ _ _ r h => by simp [laws_eqByteS.l0] at h
  | k + 1 => by
    have ih0 := laws_eqByteS.mono_l k
    · intro y0 y1 y2
      unfold laws_eqByteS.l0
      repeat' first
      | (with_reducible exact ih0 _ _ _)
      | (with_reducible exact LeO.refl _)
      | (with_reducible exact LeO.none _)
      | (with_reducible refine LeO.ite ?_ ?_)
      | (with_reducible refine LeO.bind ?_ (fun _ => ?_))
      | exact ih0 _ _ _
      | exact LeO.none _
      | refine LeO.ite ?_ ?_
      | refine LeO.bind ?_ (fun _ => ?_)
theorem laws_eqByteS.mono : ∀ a0 a1 k, LeO (laws_eqByteS.f k a0 a1) (laws_eqByteS.f (k + 1) a0 a1) := by
  intro a0 a1 k
  have ih0 := laws_eqByteS.mono_l k
  unfold laws_eqByteS.f
  repeat' first
      | (with_reducible exact ih0 _ _ _)
      | (with_reducible exact LeO.refl _)
      | (with_reducible exact LeO.none _)
      | (with_reducible refine LeO.ite ?_ ?_)
      | (with_reducible refine LeO.bind ?_ (fun _ => ?_))
      | exact ih0 _ _ _
      | exact LeO.none _
      | refine LeO.ite ?_ ?_
      | refine LeO.bind ?_ (fun _ => ?_)
set_option maxHeartbeats 8000000 in
set_option maxRecDepth 100000 in
theorem laws_eqByteS.calls (k : Nat) (A0 : Option Addr) (c0 : Nat) (l0 : List Int) (A1 : Option Addr) (c1 : Nat) (l1 : List Int) (r : Bool) (w : World) (hr0 : Kd.C (Kd.int .u8) w A0 l0.length l0) (hc0 : l0.length ≤ c0) (hr1 : Kd.C (Kd.int .u8) w A1 l1.length l1) (hc1 : l1.length ≤ c1) (h : laws_eqByteS.f k l0 l1 = some r) :
    Calls Tryd.prog 13 #[.slice A0 l0.length c0, .slice A1 l1.length c1] w fun e w' => e = .returned (.bool r) ∧ Drawn0 w w' := by
  have HR0 := Aside0.mk hr0
  have HC0 := Aside0.mk hc0
  clear hr0 hc0
  have HR1 := Aside0.mk hr1
  have HC1 := Aside0.mk hc1
  clear hr1 hc1
  have H : (if (l0.length : Int) = (l1.length : Int) then (laws_eqByteS.l0 k l0 l1 0) else (some false)) = some r := h
  clear h
  by_cases c3 : (l0.length : Int) = (l1.length : Int)
  · rw [if_pos c3] at H
    have c3b0 : ((l0.length : Int) == (l1.length : Int)) = true := beq_iff_eq.mpr c3
    have c3b1 : ((l0.length : Int) != (l1.length : Int)) = false := bne_eq_false_iff_eq.mpr c3
    have c3b2 : (l0.length == l1.length) = true := by first | simpa using c3 | (simp at c3 ⊢; omega)
    clear c3
    have H' := Aside0.mk H
    clear H
    go_enter Tryd.func13, Tryd.ntmps13
    go_wp2
    repeat (go_quiet (fail); try go_wp2)
    go_loopg [5] k (fun kq v5 w' => ∃ (x5_1 : Int), v5 = .int .i64 x5_1 ∧ Aside0 (laws_eqByteS.l0 kq l0 l1 x5_1 = some r) ∧ Aside0 (kq ≤ k) ∧ Drawn0 w w')
    case atStart => exact ⟨(0), (by first | rfl | (simp; done) | (simp [*]; done)), H', ⟨Nat.le_refl _⟩, by repeat (first | exact Drawn0.refl _ | apply Drawn0.step)⟩
    case round =>
      clear H'
      try clear c1
      try clear p2
      try clear c3
      try clear c3b0
      try clear c3b1
      try clear c3b2
      obtain ⟨x5_1, rfl, HA, HK1, ⟨m1, rfl⟩⟩ := hrel
      cases gk with
      | zero => exact absurd HA.out (by simp [laws_eqByteS.l0])
      | succ k1 =>
        have H := HA.out
        clear HA
        simp only [laws_eqByteS.l0] at H
        by_cases c4 : x5_1 < (l0.length : Int)
        · rw [if_pos c4] at H
          have c4b0 : decide (x5_1 < (l0.length : Int)) = true := decide_eq_true c4
          clear c4
          by_cases c5 : 0 ≤ x5_1
          · rw [if_pos c5] at H
            have c5b0 : decide (0 ≤ x5_1) = true := decide_eq_true c5
            clear c5
            by_cases c6 : x5_1 < (l1.length : Int)
            · rw [if_pos c6] at H
              have c6b0 : decide (x5_1 < (l1.length : Int)) = true := decide_eq_true c6
              clear c6
              by_cases c7 : (rd l0 x5_1) = (rd l1 x5_1)
              · rw [if_pos c7] at H
                have c7b0 : ((rd l0 x5_1) == (rd l1 x5_1)) = true := beq_iff_eq.mpr c7
                have c7b1 : ((rd l0 x5_1) != (rd l1 x5_1)) = false := bne_eq_false_iff_eq.mpr c7
                clear c7
                have H' := Aside0.mk H
                clear H
                have p101 : 0 ≤ (x5_1 : Int) := of_decide_eq_true (by first | (with_reducible assumption) | assumption)
                have q101 : x5_1 < (l0.length : Int) := of_decide_eq_true (by first | (with_reducible assumption) | assumption)
                obtain ⟨ad101, e101, hx101_0⟩ := Kd.at_int HR0.out x5_1 p101 q101
                cases e101
                replace p101 := eq_true p101
                replace q101 := eq_true q101
                have p102 : 0 ≤ (x5_1 : Int) := of_decide_eq_true (by first | (with_reducible assumption) | assumption)
                have q102 : x5_1 < (l1.length : Int) := of_decide_eq_true (by first | (with_reducible assumption) | assumption)
                obtain ⟨ad102, e102, hx102_0⟩ := Kd.at_int HR1.out x5_1 p102 q102
                cases e102
                replace p102 := eq_true p102
                replace q102 := eq_true q102
                go_wp2
                repeat (go_quiet (fail); try go_wp2)
                go_roundg k1
                case measure => have := HK1.out; omega
                case rel => exact ⟨(wrap64 (x5_1 + 1)), (by first | rfl | (simp; done) | (simp [*]; done)), H', ⟨by have := HK1.out; omega⟩, by repeat (first | exact Drawn0.refl _ | apply Drawn0.step)⟩
              · rw [if_neg c7] at H
                have c7b0 : ((rd l0 x5_1) == (rd l1 x5_1)) = false := beq_eq_false_iff_ne.mpr c7
                have c7b1 : ((rd l0 x5_1) != (rd l1 x5_1)) = true := bne_iff_ne.mpr c7
                obtain rfl := Option.some.inj H
                have p101 : 0 ≤ (x5_1 : Int) := of_decide_eq_true (by first | (with_reducible assumption) | assumption)
                have q101 : x5_1 < (l0.length : Int) := of_decide_eq_true (by first | (with_reducible assumption) | assumption)
                obtain ⟨ad101, e101, hx101_0⟩ := Kd.at_int HR0.out x5_1 p101 q101
                cases e101
                replace p101 := eq_true p101
                replace q101 := eq_true q101
                have p102 : 0 ≤ (x5_1 : Int) := of_decide_eq_true (by first | (with_reducible assumption) | assumption)
                have q102 : x5_1 < (l1.length : Int) := of_decide_eq_true (by first | (with_reducible assumption) | assumption)
                obtain ⟨ad102, e102, hx102_0⟩ := Kd.at_int HR1.out x5_1 p102 q102
                cases e102
                replace p102 := eq_true p102
                replace q102 := eq_true q102
                go_wp2
                repeat (go_quiet (fail); try go_wp2)
                go_ret
                exact ⟨by first | rfl | (simp; done) | (simp [*]; done), by repeat (first | exact Drawn0.refl _ | apply Drawn0.step)⟩
            · rw [if_neg c6] at H
              exact absurd H (by simp)
          · rw [if_neg c5] at H
            exact absurd H (by simp)
        · rw [if_neg c4] at H
          have c4b0 : decide (x5_1 < (l0.length : Int)) = false := decide_eq_false c4
          clear c4
          obtain rfl := Option.some.inj H
          go_wp2
          repeat (go_quiet (fail); try go_wp2)
          go_ret
          exact ⟨by first | rfl | (simp; done) | (simp [*]; done), by repeat (first | exact Drawn0.refl _ | apply Drawn0.step)⟩
  · rw [if_neg c3] at H
    have c3b0 : ((l0.length : Int) == (l1.length : Int)) = false := beq_eq_false_iff_ne.mpr c3
    have c3b1 : ((l0.length : Int) != (l1.length : Int)) = true := bne_iff_ne.mpr c3
    have c3b2 : (l0.length == l1.length) = false := by first | simpa using c3 | (simp at c3 ⊢; omega)
    obtain rfl := Option.some.inj H
    go_enter Tryd.func13, Tryd.ntmps13
    go_wp2
    repeat (go_quiet (fail); try go_wp2)
    go_ret
    exact ⟨by first | rfl | (simp; done) | (simp [*]; done), by repeat (first | exact Drawn0.refl _ | apply Drawn0.step)⟩

/-! ### spec_l02Within: function 37 -/
def spec_l02Within.f (a0 : Int) (a1 : Int) (a2 : Int) : Option (Bool) := if a0 ≥ a1 then (some (decide (a0 ≤ a2))) else (some false)
set_option maxHeartbeats 8000000 in
set_option maxRecDepth 100000 in
theorem spec_l02Within.calls (a0 : Int) (a1 : Int) (a2 : Int) (r : Bool) (w : World) (h : spec_l02Within.f a0 a1 a2 = some r) :
    Calls Tryd.prog 37 #[.int .i64 a0, .int .i64 a1, .int .i64 a2] w fun e w' => e = .returned (.bool r) ∧ Drawn0 w w' := by
  have H : (if a0 ≥ a1 then (some (decide (a0 ≤ a2))) else (some false)) = some r := h
  clear h
  by_cases c4 : a0 ≥ a1
  · rw [if_pos c4] at H
    have c4b0 : decide (a1 ≤ a0) = true := decide_eq_true c4
    clear c4
    obtain rfl := Option.some.inj H
    go_enter Tryd.func37, Tryd.ntmps37
    go_wp2
    go_ret
    exact ⟨by first | rfl | (simp; done) | (simp [*]; done), by repeat (first | exact Drawn0.refl _ | apply Drawn0.step)⟩
  · rw [if_neg c4] at H
    have c4b0 : decide (a1 ≤ a0) = false := decide_eq_false c4
    clear c4
    obtain rfl := Option.some.inj H
    go_enter Tryd.func37, Tryd.ntmps37
    go_wp2
    go_ret
    exact ⟨by first | rfl | (simp; done) | (simp [*]; done), by repeat (first | exact Drawn0.refl _ | apply Drawn0.step)⟩

/-! ### spec_CheckName: function 38 -/
mutual
def spec_CheckName.j0 : Nat → ByteArray → Bool → Option (Int)
  | 0, _, _ => none
  | k + 1, x0, x13 => if x13 = true then (some 7) else (if (x0.size : Int) > 26 then (some 12) else (spec_CheckName.l0 k x0 0))
def spec_CheckName.l0 : Nat → ByteArray → Int → Option (Int)
  | 0, _, _ => none
  | k + 1, x0, x3 => if x3 < (x0.size : Int) then (if 0 ≤ x3 then (if (bt x0 x3) = 47 then (some 7) else (if (bt x0 x3) = 0 then (some 7) else (spec_CheckName.l0 k x0 (wrap64 (x3 + 1))))) else (none)) else (some 0)
end
def spec_CheckName.f (k : Nat) (a0 : ByteArray) : Option (Int) := if a0.toList = ([] : List UInt8) then (spec_CheckName.j0 k a0 true) else (if a0.toList = ([46] : List UInt8) then (spec_CheckName.j0 k a0 true) else (spec_CheckName.j0 k a0 (a0.toList == ([46, 46] : List UInt8))))
theorem spec_CheckName.mono_l : ∀ k, (∀ y0 y1, LeO (spec_CheckName.j0 k y0 y1) (spec_CheckName.j0 (k + 1) y0 y1)) ∧ (∀ y0 y1, LeO (spec_CheckName.l0 k y0 y1) (spec_CheckName.l0 (k + 1) y0 y1))
  | 0 => ⟨fun _ _ r h => by simp [spec_CheckName.j0] at h, fun _ _ r h => by simp [spec_CheckName.l0] at h⟩
  | k + 1 => by
    obtain ⟨ih0, ih1⟩ := spec_CheckName.mono_l k
    refine ⟨?_, ?_⟩
    · intro y0 y1
      unfold spec_CheckName.j0
      repeat' first
      | (with_reducible exact ih0 _ _)
      | (with_reducible exact ih1 _ _)
      | (with_reducible exact LeO.refl _)
      | (with_reducible exact LeO.none _)
      | (with_reducible refine LeO.ite ?_ ?_)
      | (with_reducible refine LeO.bind ?_ (fun _ => ?_))
      | exact ih0 _ _
      | exact ih1 _ _
      | exact LeO.none _
      | refine LeO.ite ?_ ?_
      | refine LeO.bind ?_ (fun _ => ?_)
    · intro y0 y1
      unfold spec_CheckName.l0
      repeat' first
      | (with_reducible exact ih0 _ _)
      | (with_reducible exact ih1 _ _)
      | (with_reducible exact LeO.refl _)
      | (with_reducible exact LeO.none _)
      | (with_reducible refine LeO.ite ?_ ?_)
      | (with_reducible refine LeO.bind ?_ (fun _ => ?_))
      | exact ih0 _ _
      | exact ih1 _ _
      | exact LeO.none _
      | refine LeO.ite ?_ ?_
      | refine LeO.bind ?_ (fun _ => ?_)
theorem spec_CheckName.mono : ∀ a0 k, LeO (spec_CheckName.f k a0) (spec_CheckName.f (k + 1) a0) := by
  intro a0 k
  obtain ⟨ih0, ih1⟩ := spec_CheckName.mono_l k
  unfold spec_CheckName.f
  repeat' first
      | (with_reducible exact ih0 _ _)
      | (with_reducible exact ih1 _ _)
      | (with_reducible exact LeO.refl _)
      | (with_reducible exact LeO.none _)
      | (with_reducible refine LeO.ite ?_ ?_)
      | (with_reducible refine LeO.bind ?_ (fun _ => ?_))
      | exact ih0 _ _
      | exact ih1 _ _
      | exact LeO.none _
      | refine LeO.ite ?_ ?_
      | refine LeO.bind ?_ (fun _ => ?_)
set_option maxHeartbeats 8000000 in
set_option maxRecDepth 100000 in
theorem spec_CheckName.calls (k : Nat) (a0 : ByteArray) (r : Int) (w : World) (h : spec_CheckName.f k a0 = some r) :
    Calls Tryd.prog 38 #[.string a0] w fun e w' => e = .returned (.int .i64 r) ∧ Drawn0 w w' := by
  have H : (if a0.toList = ([] : List UInt8) then (spec_CheckName.j0 k a0 true) else (if a0.toList = ([46] : List UInt8) then (spec_CheckName.j0 k a0 true) else (spec_CheckName.j0 k a0 (a0.toList == ([46, 46] : List UInt8))))) = some r := h
  clear h
  have HC2 := Aside0.mk H
  clear H
  go_enter Tryd.func38, Tryd.ntmps38
  go_upto_region 1 with (fail)
  go_cut [13] (fun v13 wc => ∃ (kq : Nat) (x13_1 : Bool), v13 = .bool x13_1 ∧ Aside0 (spec_CheckName.j0 kq a0 x13_1 = some r) ∧ Aside0 (kq ≤ k) ∧ Drawn0 w wc)
  case first =>
    have H := HC2.out
    clear HC2
    by_cases c3 : a0.toList = ([] : List UInt8)
    · rw [if_pos c3] at H
      have c3b0 : (a0.toList == ([] : List UInt8)) = true := beq_iff_eq.mpr c3
      have c3b1 : (a0.toList != ([] : List UInt8)) = false := bne_eq_false_iff_eq.mpr c3
      clear c3
      (first | rw [c3b0] | (simp only [i64_w, i32_w]; rw [c3b0]) | skip)
      have H' := Aside0.mk H
      clear H
      go_wp2
      go_meet
      case rel => exact ⟨_, (true), (by first | rfl | (simp; done) | (simp [*]; done)), H', ⟨by first | omega | exact Nat.le_refl _⟩, by repeat (first | exact Drawn0.refl _ | apply Drawn0.step)⟩
    · rw [if_neg c3] at H
      have c3b0 : (a0.toList == ([] : List UInt8)) = false := beq_eq_false_iff_ne.mpr c3
      have c3b1 : (a0.toList != ([] : List UInt8)) = true := bne_iff_ne.mpr c3
      (first | rw [c3b0] | (simp only [i64_w, i32_w]; rw [c3b0]) | skip)
      by_cases c4 : a0.toList = ([46] : List UInt8)
      · rw [if_pos c4] at H
        have c4b0 : (a0.toList == ([46] : List UInt8)) = true := beq_iff_eq.mpr c4
        have c4b1 : (a0.toList != ([46] : List UInt8)) = false := bne_eq_false_iff_eq.mpr c4
        clear c4
        have H' := Aside0.mk H
        clear H
        go_wp2
        go_meet
        case rel => exact ⟨_, (true), (by first | rfl | (simp; done) | (simp [*]; done)), H', ⟨by first | omega | exact Nat.le_refl _⟩, by repeat (first | exact Drawn0.refl _ | apply Drawn0.step)⟩
      · rw [if_neg c4] at H
        have c4b0 : (a0.toList == ([46] : List UInt8)) = false := beq_eq_false_iff_ne.mpr c4
        have c4b1 : (a0.toList != ([46] : List UInt8)) = true := bne_iff_ne.mpr c4
        have H' := Aside0.mk H
        clear H
        go_wp2
        go_meet
        case rel => exact ⟨_, ((a0.toList == ([46, 46] : List UInt8))), (by first | rfl | (simp; done) | (simp [*]; done)), H', ⟨by first | omega | exact Nat.le_refl _⟩, by repeat (first | exact Drawn0.refl _ | apply Drawn0.step)⟩
  case rest =>
    clear HC2
    try clear p2
    try clear c3
    try clear c3b0
    try clear c3b1
    try clear c4
    try clear c4b0
    try clear c4b1
    obtain ⟨kq, x13_1, rfl, HA, HJ1, ⟨mc1, rfl⟩⟩ := hcut
    cases kq with
    | zero => exact absurd HA.out (by simp [spec_CheckName.j0])
    | succ kj1 =>
      have H := HA.out
      clear HA
      simp only [spec_CheckName.j0] at H
      by_cases c5 : x13_1 = true
      · subst c5
        have H1 : (some 7) = some r := by rw [if_pos rfl] at H; exact H
        clear H
        have H := H1
        clear H1
        obtain rfl := Option.some.inj H
        go_wp2
        go_ret
        exact ⟨by first | rfl | (simp; done) | (simp [*]; done), by repeat (first | exact Drawn0.refl _ | apply Drawn0.step)⟩
      · replace c5 := Bool.eq_false_iff.mpr c5
        subst c5
        have H1 : (if (a0.size : Int) > 26 then (some 12) else (spec_CheckName.l0 kj1 a0 0)) = some r := by rw [if_neg (show ¬ (false = true) by decide)] at H; exact H
        clear H
        have H := H1
        clear H1
        by_cases c6 : (a0.size : Int) > 26
        · rw [if_pos c6] at H
          have c6b0 : decide (26 < (a0.size : Int)) = true := decide_eq_true c6
          have c6b1 : decide (26 < a0.size) = true := decide_eq_true (by omega)
          clear c6
          obtain rfl := Option.some.inj H
          go_wp2
          go_ret
          exact ⟨by first | rfl | (simp; done) | (simp [*]; done), by repeat (first | exact Drawn0.refl _ | apply Drawn0.step)⟩
        · rw [if_neg c6] at H
          have c6b0 : decide (26 < (a0.size : Int)) = false := decide_eq_false c6
          have c6b1 : decide (26 < a0.size) = false := decide_eq_false (by omega)
          clear c6
          have H' := Aside0.mk H
          clear H
          go_wp2
          go_loopg [3] kj1 (fun kq v3 w' => ∃ (x3_2 : Int), v3 = .int .i64 x3_2 ∧ Aside0 (spec_CheckName.l0 kq a0 x3_2 = some r) ∧ Aside0 (kq ≤ kj1) ∧ Drawn0 w w')
          case atStart => exact ⟨(0), (by first | rfl | (simp; done) | (simp [*]; done)), H', ⟨Nat.le_refl _⟩, by repeat (first | exact Drawn0.refl _ | apply Drawn0.step)⟩
          case round =>
            clear H'
            try clear c1
            try clear p2
            try clear c3
            try clear c3b0
            try clear c3b1
            try clear c4
            try clear c4b0
            try clear c4b1
            try clear c5
            try clear c6
            try clear c6b0
            try clear c6b1
            try clear p2
            obtain ⟨x3_2, rfl, HA, HK2, ⟨m2, rfl⟩⟩ := hrel
            cases gk with
            | zero => exact absurd HA.out (by simp [spec_CheckName.l0])
            | succ k2 =>
              have H := HA.out
              clear HA
              simp only [spec_CheckName.l0] at H
              by_cases c7 : x3_2 < (a0.size : Int)
              · rw [if_pos c7] at H
                have c7b0 : decide (x3_2 < (a0.size : Int)) = true := decide_eq_true c7
                clear c7
                by_cases c8 : 0 ≤ x3_2
                · rw [if_pos c8] at H
                  have c8b0 : decide (0 ≤ x3_2) = true := decide_eq_true c8
                  clear c8
                  by_cases c10 : (bt a0 x3_2) = 47
                  · rw [if_pos c10] at H
                    have c10b0 : ((bt a0 x3_2) == 47) = true := beq_iff_eq.mpr c10
                    have c10b1 : ((bt a0 x3_2) != 47) = false := bne_eq_false_iff_eq.mpr c10
                    clear c10
                    obtain rfl := Option.some.inj H
                    have p9 : 0 ≤ (x3_2 : Int) := of_decide_eq_true (by first | (with_reducible assumption) | assumption)
                    have q9 : x3_2 < (a0.size : Int) := of_decide_eq_true (by first | (with_reducible assumption) | assumption)
                    have hx9 := bt_at a0 x3_2
                    replace p9 := eq_true p9
                    replace q9 := eq_true q9
                    go_wp2
                    go_ret
                    exact ⟨by first | rfl | (simp; done) | (simp [*]; done), by repeat (first | exact Drawn0.refl _ | apply Drawn0.step)⟩
                  · rw [if_neg c10] at H
                    have c10b0 : ((bt a0 x3_2) == 47) = false := beq_eq_false_iff_ne.mpr c10
                    have c10b1 : ((bt a0 x3_2) != 47) = true := bne_iff_ne.mpr c10
                    by_cases c12 : (bt a0 x3_2) = 0
                    · rw [if_pos c12] at H
                      have c12b0 : ((bt a0 x3_2) == 0) = true := beq_iff_eq.mpr c12
                      have c12b1 : ((bt a0 x3_2) != 0) = false := bne_eq_false_iff_eq.mpr c12
                      clear c12
                      obtain rfl := Option.some.inj H
                      have p9 : 0 ≤ (x3_2 : Int) := of_decide_eq_true (by first | (with_reducible assumption) | assumption)
                      have q9 : x3_2 < (a0.size : Int) := of_decide_eq_true (by first | (with_reducible assumption) | assumption)
                      have hx9 := bt_at a0 x3_2
                      replace p9 := eq_true p9
                      replace q9 := eq_true q9
                      have p11 : 0 ≤ (x3_2 : Int) := of_decide_eq_true (by first | (with_reducible assumption) | assumption)
                      have q11 : x3_2 < (a0.size : Int) := of_decide_eq_true (by first | (with_reducible assumption) | assumption)
                      have hx11 := bt_at a0 x3_2
                      replace p11 := eq_true p11
                      replace q11 := eq_true q11
                      go_wp2
                      go_ret
                      exact ⟨by first | rfl | (simp; done) | (simp [*]; done), by repeat (first | exact Drawn0.refl _ | apply Drawn0.step)⟩
                    · rw [if_neg c12] at H
                      have c12b0 : ((bt a0 x3_2) == 0) = false := beq_eq_false_iff_ne.mpr c12
                      have c12b1 : ((bt a0 x3_2) != 0) = true := bne_iff_ne.mpr c12
                      have H' := Aside0.mk H
                      clear H
                      have p9 : 0 ≤ (x3_2 : Int) := of_decide_eq_true (by first | (with_reducible assumption) | assumption)
                      have q9 : x3_2 < (a0.size : Int) := of_decide_eq_true (by first | (with_reducible assumption) | assumption)
                      have hx9 := bt_at a0 x3_2
                      replace p9 := eq_true p9
                      replace q9 := eq_true q9
                      have p11 : 0 ≤ (x3_2 : Int) := of_decide_eq_true (by first | (with_reducible assumption) | assumption)
                      have q11 : x3_2 < (a0.size : Int) := of_decide_eq_true (by first | (with_reducible assumption) | assumption)
                      have hx11 := bt_at a0 x3_2
                      replace p11 := eq_true p11
                      replace q11 := eq_true q11
                      go_wp2
                      go_roundg k2
                      case measure => have := HJ1.out; have := HK2.out; omega
                      case rel => exact ⟨(wrap64 (x3_2 + 1)), (by first | rfl | (simp; done) | (simp [*]; done)), H', ⟨by have := HJ1.out; have := HK2.out; omega⟩, by repeat (first | exact Drawn0.refl _ | apply Drawn0.step)⟩
                · rw [if_neg c8] at H
                  exact absurd H (by simp)
              · rw [if_neg c7] at H
                have c7b0 : decide (x3_2 < (a0.size : Int)) = false := decide_eq_false c7
                clear c7
                obtain rfl := Option.some.inj H
                go_wp2
                go_ret
                exact ⟨by first | rfl | (simp; done) | (simp [*]; done), by repeat (first | exact Drawn0.refl _ | apply Drawn0.step)⟩

open Go.Proofs.YtkghgjehjchajaaDoorW Go.Proofs.YtkghgjehjchajaaDoorW.PrintHand Go.Proofs.YtkghgjehjchajaaDoorW.PrintHx
/-! ### spec_l02Pointers: function 72 -/
def spec_l02Pointers.f (a0 : List Int) : Option (List Int) := if a0.length = 15 then some (seg a0 1 14) else none
set_option maxHeartbeats 8000000 in
set_option maxRecDepth 100000 in
theorem spec_l02Pointers.calls (a0 : List Int) (n0 : a0.length = 15) (r : List Int) (w : World) (h : spec_l02Pointers.f a0 = some r) :
    Calls Tryd.prog 72 #[.agg (nums .i64 a0).toArray] w fun e w' => ∃ v0_ : Value, e = .returned (v0_) ∧ Kd.R (Kd.int .i64) 3 w' w.heap.size (fun _ => True) v0_ r ∧ Below w.heap.size w w' := by
  unfold spec_l02Pointers.f at h
  rw [if_pos n0] at h
  obtain rfl := Option.some.inj h
  have N_ := Aside0.mk n0
  clear n0 h
  have info3_ : (Tryd.prog.info? 3).map (fun i => (i.zero, i.size, i.bytes)) = some (some (.int .i64 0), 1, 8) := by kernel_rfl
  have hu22 := Tryd.underlying22
  have HB0 : Aside0 (Below w.heap.size w w) := ⟨Below.refl _ _⟩
  obtain ⟨s0, Sz0⟩ : ∃ s0, Aside0 (w.heap.size = s0) := ⟨_, ⟨rfl⟩⟩
  have hw0 : w.heap.size ≤ s0 := Nat.le_of_eq Sz0.out
  have hw1 : s0 ≤ w.heap.size := Nat.le_of_eq Sz0.out.symm
  go_enter Tryd.func72, Tryd.ntmps72
  go_wp2_with (first | ((with_reducible refine gate_dst (N := 1) rfl ?_); refine hx_box rfl 1 rfl 31 (.tmp 0) rfl Sz0 (.agg (nums .i64 a0).toArray) (nums .i64 a0).toArray rfl rfl ?_; intro w1 s1 L1 Sz1 b1 g_; have H0 := Aside0.mk g_; have HB1 := Aside0.mk (below_then HB0.out HB0.out.size b1); clear g_ HB0 b1) | ((with_reducible refine gate_dst (N := 4) rfl ?_); refine Kd.R_lit (Kd.int .i64) (w0 := w) w.heap.size 3 rfl (N := 4) rfl (xs := ([] : List Int)) (inner := []) (ok := fun k => k ≠ s0) (okp := fun _ => False) ?hr (Reps.none _ _) (fun _ h_ => h_.elim) (by have := blk_lt H0.out; omega) HB1.out HB1.out.size (by simp) ?_; (case hr => first | (go_simp; done) | (go_simp; rfl)); intro v4 w2 ho hb hg_ hn_; have O4 := Aside0.mk ho; have HB2 := Aside0.mk hb; have H0_2 := Aside0.mk (blk_grown H0.out hg_ (by simp)); clear ho hb hg_ hn_ HB1 H0) | ((with_reducible refine gate_dst (N := 7) rfl ?_); refine Kd.R_append_rows (Kd.int .i64) (w0 := w) w.heap.size rfl (.tmp 4) (.tmp 6) 122 3 (.int .i64 0) 8 rfl Tryd.underlying122 info3_ rfl (by decide) (by omega) v4 [] (seg a0 1 12) (some ⟨s0, 1, none⟩) 12 12 (fun k => k ≠ s0) (fun _ => False) rfl rfl O4.out (part_reads H0_2.out 1 12 (le_len (n := 15) N_.out (by decide)) (by decide)) (fun _ _ h => h) (fun _ h => h.elim) (fun k hk => by have := blk_lt H0_2.out; omega) HB2.out HB2.out.size (by decide) ?_; intro v7 w3 ho hb hg_ hn_; have H0_3 := Aside0.mk (blk_grown H0_2.out hg_ (fun e_ => (O4.out.1 s0 e_.symm) rfl)); have O7 := Aside0.mk ho; have HB3 := Aside0.mk hb; clear ho hb hg_ hn_ HB2 H0_2 O4) | ((with_reducible refine gate_dst (N := 10) rfl ?_); refine hx_loadf rfl 3 (.tmp 9) rfl s0 13 rfl Tryd.underlying3 rfl H0_3.out (lt_len (n := 15) N_.out (by decide)) ?_) | ((with_reducible refine gate_dst (N := 12) rfl ?_); refine hx_loadf rfl 3 (.tmp 11) rfl s0 14 rfl Tryd.underlying3 rfl H0_3.out (lt_len (n := 15) N_.out (by decide)) ?_) | ((with_reducible refine gate_dst (N := 13) rfl ?_); refine Kd.R_lit (Kd.int .i64) (w0 := w) w.heap.size 3 rfl (N := 13) rfl (xs := ([a0.getD 13 0, a0.getD 14 0] : List Int)) (inner := (nums .i64 [a0.getD 13 0, a0.getD 14 0])) (ok := fun k => k ≠ s0) (okp := fun _ => False) ?hr (reps_ints _) (fun _ h_ => h_.elim) (by have := blk_lt H0_3.out; omega) HB3.out HB3.out.size (by simp) ?_; (case hr => first | (go_simp; done) | (go_simp; rfl)); intro v13 w4 ho hb hg_ hn_; have O13 := Aside0.mk ho; have HB4 := Aside0.mk hb; have O7_4 := Aside0.mk (Kd.R_grown O7.out hg_ (fun _ _ => by simp)); have H0_4 := Aside0.mk (blk_grown H0_3.out hg_ (by simp)); clear hb hg_ hn_ HB3 H0_3 O7; obtain ⟨A13, c13, rfl⟩ := Kd.R_slice ho; clear ho) | ((with_reducible refine gate_dst (N := 14) rfl ?_); refine Kd.R_append_rows (Kd.int .i64) (w0 := w) w.heap.size rfl (.tmp 8) (.tmp 13) 122 3 (.int .i64 0) 8 rfl Tryd.underlying122 info3_ rfl (by decide) (by omega) v7 ([] ++ seg a0 1 12) [a0.getD 13 0, a0.getD 14 0] _ _ _ (fun k => k ≠ s0) (fun _ => False) rfl rfl O7_4.out (Kd.R_reads' O13.out).2.2 (fun _ _ h => h) (fun _ h => h.elim) (fun k hk => by have := blk_lt H0_4.out; omega) HB4.out HB4.out.size (by rw [List.nil_append, part_len (n := 15) N_.out (by decide)]; show (12 + 2) * 8 ≤ 140737488355328; decide) ?_; intro v14 w5 ho hb hg_ hn_; have O14 := Aside0.mk ho; have HB5 := Aside0.mk hb; clear ho hb hg_ hn_ HB4 H0_4 O7_4 O13))
  go_ret
  have ho := O14.out
  rw [pointers_of a0 N_.out] at ho
  exact ⟨_, rfl, Kd.R_mono ho (fun _ _ => trivial), HB5.out⟩

/-! ### spec_l02Pointer: function 73 -/
def spec_l02Pointer.f (a0 : Int) : Option (Bool) := if a0 = 0 then (some true) else (if a0 ≥ 2 then (some (decide (a0 < 2048))) else (some false))
set_option maxHeartbeats 8000000 in
set_option maxRecDepth 100000 in
theorem spec_l02Pointer.calls (a0 : Int) (r : Bool) (w : World) (h : spec_l02Pointer.f a0 = some r) :
    Calls Tryd.prog 73 #[.int .i64 a0] w fun e w' => e = .returned (.bool r) ∧ Drawn0 w w' := by
  have H : (if a0 = 0 then (some true) else (if a0 ≥ 2 then (some (decide (a0 < 2048))) else (some false))) = some r := h
  clear h
  by_cases c2 : a0 = 0
  · rw [if_pos c2] at H
    have c2b0 : (a0 == 0) = true := beq_iff_eq.mpr c2
    have c2b1 : (a0 != 0) = false := bne_eq_false_iff_eq.mpr c2
    clear c2
    obtain rfl := Option.some.inj H
    go_enter Tryd.func73, Tryd.ntmps73
    go_wp2
    go_ret
    exact ⟨by first | rfl | (simp; done) | (simp [*]; done), by repeat (first | exact Drawn0.refl _ | apply Drawn0.step)⟩
  · rw [if_neg c2] at H
    have c2b0 : (a0 == 0) = false := beq_eq_false_iff_ne.mpr c2
    have c2b1 : (a0 != 0) = true := bne_iff_ne.mpr c2
    by_cases c3 : a0 ≥ 2
    · rw [if_pos c3] at H
      have c3b0 : decide (2 ≤ a0) = true := decide_eq_true c3
      clear c3
      obtain rfl := Option.some.inj H
      go_enter Tryd.func73, Tryd.ntmps73
      go_wp2
      go_ret
      exact ⟨by first | rfl | (simp; done) | (simp [*]; done), by repeat (first | exact Drawn0.refl _ | apply Drawn0.step)⟩
    · rw [if_neg c3] at H
      have c3b0 : decide (2 ≤ a0) = false := decide_eq_false c3
      clear c3
      obtain rfl := Option.some.inj H
      go_enter Tryd.func73, Tryd.ntmps73
      go_wp2
      go_ret
      exact ⟨by first | rfl | (simp; done) | (simp [*]; done), by repeat (first | exact Drawn0.refl _ | apply Drawn0.step)⟩

open Go.Proofs.YtkghgjehjchajaaDoorW Go.Proofs.YtkghgjehjchajaaDoorW.PrintHand Go.Proofs.YtkghgjehjchajaaDoorW.PrintHx
/-! ### spec_l02Root: function 39 -/
def spec_l02Root.f (a0 : List Int) : Option Bool := some (rootGood a0)
theorem spec_l02Root.ptr (p : Int) : spec_l02Pointer.f p = some (ptrOk p) := by
  unfold spec_l02Pointer.f ptrOk
  by_cases h : p = 0
  · simp [h]
  · by_cases h2 : p ≥ 2
    · simp [h, h2]
    · simp [h, h2]
theorem spec_l02Root.fits {a : List Int} (j : Nat) (h : ptrOk ((seg a 1 14).getD j 0) = true) (h2 : (seg a 1 14).getD j 0 = 0 ∨ least j < (a.getD 0 0 + 511) / 512) : ptrFits a j = true := by
  unfold ptrFits
  rw [h]
  rcases h2 with h2 | h2
  · rw [decide_eq_true h2]; rfl
  · rw [decide_eq_true h2]; simp
theorem spec_l02Root.unfit {a : List Int} (j : Nat) (h : ¬ (seg a 1 14).getD j 0 = 0) (h2 : ¬ least j < (a.getD 0 0 + 511) / 512) : ptrFits a j = false := by
  unfold ptrFits
  rw [decide_eq_false h, decide_eq_false h2]
  simp
set_option maxHeartbeats 8000000 in
set_option maxRecDepth 100000 in
theorem spec_l02Root.calls (a0 : List Int) (n0 : a0.length = 15) (r : Bool) (w : World) (h : spec_l02Root.f a0 = some r) :
    Calls Tryd.prog 39 #[.agg (nums .i64 a0).toArray] w fun e w' => e = .returned (.bool r) ∧ Below w.heap.size w w' := by
  have H := Aside0.mk (Option.some.inj h)
  have N_ := Aside0.mk n0
  clear n0 h
  obtain ⟨s, hs⟩ : ∃ s, s = a0.getD 0 0 := ⟨_, rfl⟩
  have HS := Aside0.mk hs
  clear hs
  obtain ⟨xs, hxs⟩ : ∃ xs, xs = seg a0 1 14 := ⟨_, rfl⟩
  have HP := Aside0.mk (show spec_l02Pointers.f a0 = some xs by rw [hxs]; exact if_pos N_.out)
  have HXL := Aside0.mk (show xs.length = 14 by rw [hxs]; exact part_len (n := 15) N_.out (by decide))
  have HXS := Aside0.mk hxs
  clear hxs
  have HB0 : Aside0 (Below w.heap.size w w) := ⟨Below.refl _ _⟩
  obtain ⟨s0, Sz0⟩ : ∃ s0, Aside0 (w.heap.size = s0) := ⟨_, ⟨rfl⟩⟩
  have hw0 : w.heap.size ≤ s0 := Nat.le_of_eq Sz0.out
  have hw1 : s0 ≤ w.heap.size := Nat.le_of_eq Sz0.out.symm
  by_cases c1 : s < 0
  · have c1_ : decide (s < 0) = true := decide_eq_true c1
    have C1 := Aside0.mk c1
    clear c1
    go_enter Tryd.func39, Tryd.ntmps39
    go_wp2_with (first | ((with_reducible refine gate_dst (N := 1) rfl ?_); refine hx_box rfl 1 rfl 31 (.tmp 0) rfl Sz0 (.agg (nums .i64 a0).toArray) (nums .i64 a0).toArray rfl rfl ?_; intro w1 s1 L1 Sz1 b1 g_; have H0 := Aside0.mk g_; have HB1 := Aside0.mk (below_then HB0.out HB0.out.size b1); clear g_ HB0 b1; have c0_ := row_cell H0.out 0 (lt_len (n := 15) N_.out (by decide)); rw [← HS.out] at c0_))
    go_ret
    refine ⟨?_, HB1.out⟩
    rw [← H.out, rootGood_low (by rw [← HS.out]; exact C1.out)]; rfl
  have c1_ : decide (s < 0) = false := decide_eq_false c1
  have c1n : 0 ≤ s := by omega
  clear c1
  by_cases c2 : 262144 < s
  · have c2_ : decide (262144 < s) = true := decide_eq_true c2
    have C2 := Aside0.mk c2
    clear c2
    go_enter Tryd.func39, Tryd.ntmps39
    go_wp2_with (first | ((with_reducible refine gate_dst (N := 1) rfl ?_); refine hx_box rfl 1 rfl 31 (.tmp 0) rfl Sz0 (.agg (nums .i64 a0).toArray) (nums .i64 a0).toArray rfl rfl ?_; intro w1 s1 L1 Sz1 b1 g_; have H0 := Aside0.mk g_; have HB1 := Aside0.mk (below_then HB0.out HB0.out.size b1); clear g_ HB0 b1; have c0_ := row_cell H0.out 0 (lt_len (n := 15) N_.out (by decide)); rw [← HS.out] at c0_))
    go_ret
    refine ⟨?_, HB1.out⟩
    rw [← H.out, rootGood_high (by rw [← HS.out]; exact C2.out)]; rfl
  have c2_ : decide (262144 < s) = false := decide_eq_false c2
  have c2n : s ≤ 262144 := by omega
  clear c2
  go_enter Tryd.func39, Tryd.ntmps39
  go_wp2_with (first | ((with_reducible refine gate_dst (N := 1) rfl ?_); refine hx_box rfl 1 rfl 31 (.tmp 0) rfl Sz0 (.agg (nums .i64 a0).toArray) (nums .i64 a0).toArray rfl rfl ?_; intro w1 s1 L1 Sz1 b1 g_; have H0 := Aside0.mk g_; have HB1 := Aside0.mk (below_then HB0.out HB0.out.size b1); clear g_ HB0 b1; have c0_ := row_cell H0.out 0 (lt_len (n := 15) N_.out (by decide)); rw [← HS.out] at c0_) | ((with_reducible refine gate_dst (N := 20) rfl ?_); refine hx_load rfl 31 (.tmp 1) rfl s0 15 rfl Tryd.underlying31 rfl (by kernel_rfl) H0.out (nums_size _ _ _ N_.out) ?_) | ((with_reducible refine gate_dst (N := 21) rfl ?_); refine goesL_ (some 21) rfl rfl Tryd.func72 (by kernel_rfl) rfl #[.agg (nums .i64 a0).toArray] rfl (by (try simp only [List.map_toArray, List.map_cons, List.map_nil]); first | done | rfl) ?_; refine (spec_l02Pointers.calls a0 N_.out xs _ HP.out).mono ?_; rintro e_ w3 ⟨v0_, rfl, R_, b_⟩; obtain ⟨A21, c21, rfl⟩ := Kd.R_slice R_; refine ⟨_, rfl, ?_⟩; have O := Aside0.mk R_; have HB := Aside0.mk (below_then HB1.out HB1.out.size b_); clear R_ b_ HB1 H0 c0_))
  (try simp only [Act.put, List.setIfInBounds_toArray, List.set_cons_succ, List.set_cons_zero])
  go_loopw [23] (fun v23 wr => ∃ j : Nat, v23 = .int .i64 (j : Int) ∧ Aside0 (j ≤ 14) ∧ Aside0 (∀ i, i < j → ptrFits a0 i = true) ∧ Drawn0 w3 wr) (fun v23 _ => 14 - (intOf v23).toNat)
  case atStart => exact ⟨0, rfl, ⟨by omega⟩, ⟨fun i hi => absurd hi (Nat.not_lt_zero i)⟩, Drawn0.refl _⟩
  case round =>
    obtain ⟨j, rfl, hj, hall, ⟨m2, rfl⟩⟩ := hrel
    by_cases c9 : j < 14
    · have c9b0 : decide ((j : Int) < (xs.length : Int)) = true := decide_eq_true (by rw [HXL.out]; omega)
      have c9b1 : decide (j < xs.length) = true := decide_eq_true (by rw [HXL.out]; omega)
      have p112 : 0 ≤ (j : Int) := by omega
      have q112 : (j : Int) < (xs.length : Int) := by rw [HXL.out]; omega
      obtain ⟨ad112, e112, hx112⟩ := Kd.at_int (Kd.C_drewN (Kd.R_reads' O.out).2.2 m2) (j : Int) p112 q112
      cases e112
      rw [Int.toNat_natCast] at hx112
      replace p112 := eq_true p112
      replace q112 := eq_true q112
      have q113 : (j < xs.length) = True := eq_true (by rw [HXL.out]; omega)
      obtain ⟨p, hp⟩ : ∃ p, p = rd xs (j : Int) := ⟨_, rfl⟩
      rw [← hp] at hx112
      have HPV := Aside0.mk (show p = (seg a0 1 14).getD j 0 by rw [hp, HXS.out, rd, Int.toNat_natCast])
      have C9 := Aside0.mk c9
      clear hp c9
      by_cases cj : j = 12
      · have hlst : least j = 12 := by rw [least, if_pos cj]
        have cj0_ : ((j : Int) == 12) = true := beq_iff_eq.mpr (by omega)
        have cj1_ : ((j : Int) == 13) = false := beq_eq_false_iff_ne.mpr (by omega)
        have CJ := Aside0.mk cj
        have HLS := Aside0.mk hlst
        clear cj hlst
        by_cases cq : ptrOk p = true
        · have HQ := Aside0.mk ((spec_l02Root.ptr p).trans (by rw [cq]))
          have CQ := Aside0.mk cq
          clear cq
          by_cases cz : p = 0
          · have cz_ : (p != 0) = false := bne_eq_false_iff_eq.mpr cz
            have CZ := Aside0.mk cz
            clear cz
            go_wp2_with (first | (go_at_call 73; refine (spec_l02Pointer.calls p true _ HQ.out).mono ?_; rintro e_ w_ ⟨rfl, ⟨nd, rfl⟩⟩))
            have hg := Aside0.mk (show ptrFits a0 j = true from spec_l02Root.fits j (by rw [← HPV.out]; exact CQ.out) (.inl (by rw [← HPV.out]; exact CZ.out)))
            go_roundw
            case rel =>
              refine ⟨j + 1, by rw [show wrap64 ((j : Int) + 1) = ((j + 1 : Nat) : Int) by (have := C9.out; unfold wrap64; omega)], ⟨by have := C9.out; omega⟩, ⟨fun i hi => ?_⟩, by repeat (first | exact Drawn0.refl _ | apply Drawn0.step)⟩
              by_cases hij : i = j
              · subst hij; exact hg.out
              · exact hall.out i (by omega)
            case measure =>
              rw [show wrap64 ((j : Int) + 1) = ((j + 1 : Nat) : Int) by (have := C9.out; unfold wrap64; omega)]
              simp only [intOf, Int.toNat_natCast]
              have := C9.out
              omega
          · have cz_ : (p != 0) = true := bne_iff_ne.mpr cz
            have CZ := Aside0.mk cz
            clear cz
            by_cases cb : (s + 512 - 1) / 512 ≤ 12
            · have cb_ : decide ((s + 512 - 1) / 512 ≤ 12) = true := decide_eq_true cb
              have CB := Aside0.mk cb
              clear cb
              go_wp2_with (first | (go_at_call 73; refine (spec_l02Pointer.calls p true _ HQ.out).mono ?_; rintro e_ w_ ⟨rfl, ⟨nd, rfl⟩⟩))
              go_ret
              refine ⟨?_, by first | exact pw_below_drewN HB.out _ | exact pw_below_drewN (pw_below_drewN HB.out _) _⟩
              have e_ : rootGood a0 = false := rootGood_bad j (by have := C9.out; omega) (spec_l02Root.unfit j (by rw [← HPV.out]; exact CZ.out) (by rw [HLS.out, ← HS.out]; have := CB.out; omega))
              rw [← H.out, e_]; rfl
            · have cb_ : decide ((s + 512 - 1) / 512 ≤ 12) = false := decide_eq_false cb
              have CB := Aside0.mk cb
              clear cb
              go_wp2_with (first | (go_at_call 73; refine (spec_l02Pointer.calls p true _ HQ.out).mono ?_; rintro e_ w_ ⟨rfl, ⟨nd, rfl⟩⟩))
              have hg := Aside0.mk (show ptrFits a0 j = true from spec_l02Root.fits j (by rw [← HPV.out]; exact CQ.out) (.inr (by rw [HLS.out, ← HS.out]; have := CB.out; omega)))
              go_roundw
              case rel =>
                refine ⟨j + 1, by rw [show wrap64 ((j : Int) + 1) = ((j + 1 : Nat) : Int) by (have := C9.out; unfold wrap64; omega)], ⟨by have := C9.out; omega⟩, ⟨fun i hi => ?_⟩, by repeat (first | exact Drawn0.refl _ | apply Drawn0.step)⟩
                by_cases hij : i = j
                · subst hij; exact hg.out
                · exact hall.out i (by omega)
              case measure =>
                rw [show wrap64 ((j : Int) + 1) = ((j + 1 : Nat) : Int) by (have := C9.out; unfold wrap64; omega)]
                simp only [intOf, Int.toNat_natCast]
                have := C9.out
                omega
        · have cq2 : ptrOk p = false := by simpa using cq
          have HQ := Aside0.mk ((spec_l02Root.ptr p).trans (by rw [cq2]))
          have CQ := Aside0.mk cq2
          clear cq cq2
          go_wp2_with (first | (go_at_call 73; refine (spec_l02Pointer.calls p false _ HQ.out).mono ?_; rintro e_ w_ ⟨rfl, ⟨nd, rfl⟩⟩))
          go_ret
          refine ⟨?_, by first | exact pw_below_drewN HB.out _ | exact pw_below_drewN (pw_below_drewN HB.out _) _⟩
          have e_ : rootGood a0 = false := rootGood_bad j (by have := C9.out; omega) (by rw [ptrFits, ← HPV.out, CQ.out]; rfl)
          rw [← H.out, e_]; rfl
      · by_cases cj2 : j = 13
        · have cj := cj2
          clear cj2
          have hlst : least j = 140 := by rw [least, if_neg (by omega), if_pos cj]
          have cj0_ : ((j : Int) == 12) = false := beq_eq_false_iff_ne.mpr (by omega)
          have cj1_ : ((j : Int) == 13) = true := beq_iff_eq.mpr (by omega)
          have CJ := Aside0.mk cj
          have HLS := Aside0.mk hlst
          clear cj hlst
          by_cases cq : ptrOk p = true
          · have HQ := Aside0.mk ((spec_l02Root.ptr p).trans (by rw [cq]))
            have CQ := Aside0.mk cq
            clear cq
            by_cases cz : p = 0
            · have cz_ : (p != 0) = false := bne_eq_false_iff_eq.mpr cz
              have CZ := Aside0.mk cz
              clear cz
              go_wp2_with (first | (go_at_call 73; refine (spec_l02Pointer.calls p true _ HQ.out).mono ?_; rintro e_ w_ ⟨rfl, ⟨nd, rfl⟩⟩))
              have hg := Aside0.mk (show ptrFits a0 j = true from spec_l02Root.fits j (by rw [← HPV.out]; exact CQ.out) (.inl (by rw [← HPV.out]; exact CZ.out)))
              go_roundw
              case rel =>
                refine ⟨j + 1, by rw [show wrap64 ((j : Int) + 1) = ((j + 1 : Nat) : Int) by (have := C9.out; unfold wrap64; omega)], ⟨by have := C9.out; omega⟩, ⟨fun i hi => ?_⟩, by repeat (first | exact Drawn0.refl _ | apply Drawn0.step)⟩
                by_cases hij : i = j
                · subst hij; exact hg.out
                · exact hall.out i (by omega)
              case measure =>
                rw [show wrap64 ((j : Int) + 1) = ((j + 1 : Nat) : Int) by (have := C9.out; unfold wrap64; omega)]
                simp only [intOf, Int.toNat_natCast]
                have := C9.out
                omega
            · have cz_ : (p != 0) = true := bne_iff_ne.mpr cz
              have CZ := Aside0.mk cz
              clear cz
              by_cases cb : (s + 512 - 1) / 512 ≤ 140
              · have cb_ : decide ((s + 512 - 1) / 512 ≤ 140) = true := decide_eq_true cb
                have CB := Aside0.mk cb
                clear cb
                go_wp2_with (first | (go_at_call 73; refine (spec_l02Pointer.calls p true _ HQ.out).mono ?_; rintro e_ w_ ⟨rfl, ⟨nd, rfl⟩⟩))
                go_ret
                refine ⟨?_, by first | exact pw_below_drewN HB.out _ | exact pw_below_drewN (pw_below_drewN HB.out _) _⟩
                have e_ : rootGood a0 = false := rootGood_bad j (by have := C9.out; omega) (spec_l02Root.unfit j (by rw [← HPV.out]; exact CZ.out) (by rw [HLS.out, ← HS.out]; have := CB.out; omega))
                rw [← H.out, e_]; rfl
              · have cb_ : decide ((s + 512 - 1) / 512 ≤ 140) = false := decide_eq_false cb
                have CB := Aside0.mk cb
                clear cb
                go_wp2_with (first | (go_at_call 73; refine (spec_l02Pointer.calls p true _ HQ.out).mono ?_; rintro e_ w_ ⟨rfl, ⟨nd, rfl⟩⟩))
                have hg := Aside0.mk (show ptrFits a0 j = true from spec_l02Root.fits j (by rw [← HPV.out]; exact CQ.out) (.inr (by rw [HLS.out, ← HS.out]; have := CB.out; omega)))
                go_roundw
                case rel =>
                  refine ⟨j + 1, by rw [show wrap64 ((j : Int) + 1) = ((j + 1 : Nat) : Int) by (have := C9.out; unfold wrap64; omega)], ⟨by have := C9.out; omega⟩, ⟨fun i hi => ?_⟩, by repeat (first | exact Drawn0.refl _ | apply Drawn0.step)⟩
                  by_cases hij : i = j
                  · subst hij; exact hg.out
                  · exact hall.out i (by omega)
                case measure =>
                  rw [show wrap64 ((j : Int) + 1) = ((j + 1 : Nat) : Int) by (have := C9.out; unfold wrap64; omega)]
                  simp only [intOf, Int.toNat_natCast]
                  have := C9.out
                  omega
          · have cq2 : ptrOk p = false := by simpa using cq
            have HQ := Aside0.mk ((spec_l02Root.ptr p).trans (by rw [cq2]))
            have CQ := Aside0.mk cq2
            clear cq cq2
            go_wp2_with (first | (go_at_call 73; refine (spec_l02Pointer.calls p false _ HQ.out).mono ?_; rintro e_ w_ ⟨rfl, ⟨nd, rfl⟩⟩))
            go_ret
            refine ⟨?_, by first | exact pw_below_drewN HB.out _ | exact pw_below_drewN (pw_below_drewN HB.out _) _⟩
            have e_ : rootGood a0 = false := rootGood_bad j (by have := C9.out; omega) (by rw [ptrFits, ← HPV.out, CQ.out]; rfl)
            rw [← H.out, e_]; rfl
        · have cj := And.intro cj cj2
          clear cj2
          have hlst : least j = (j : Int) := by rw [least, if_neg cj.1, if_neg cj.2]
          have cj0_ : ((j : Int) == 12) = false := beq_eq_false_iff_ne.mpr (by omega)
          have cj1_ : ((j : Int) == 13) = false := beq_eq_false_iff_ne.mpr (by omega)
          have CJ := Aside0.mk cj
          have HLS := Aside0.mk hlst
          clear cj hlst
          by_cases cq : ptrOk p = true
          · have HQ := Aside0.mk ((spec_l02Root.ptr p).trans (by rw [cq]))
            have CQ := Aside0.mk cq
            clear cq
            by_cases cz : p = 0
            · have cz_ : (p != 0) = false := bne_eq_false_iff_eq.mpr cz
              have CZ := Aside0.mk cz
              clear cz
              go_wp2_with (first | (go_at_call 73; refine (spec_l02Pointer.calls p true _ HQ.out).mono ?_; rintro e_ w_ ⟨rfl, ⟨nd, rfl⟩⟩))
              have hg := Aside0.mk (show ptrFits a0 j = true from spec_l02Root.fits j (by rw [← HPV.out]; exact CQ.out) (.inl (by rw [← HPV.out]; exact CZ.out)))
              go_roundw
              case rel =>
                refine ⟨j + 1, by rw [show wrap64 ((j : Int) + 1) = ((j + 1 : Nat) : Int) by (have := C9.out; unfold wrap64; omega)], ⟨by have := C9.out; omega⟩, ⟨fun i hi => ?_⟩, by repeat (first | exact Drawn0.refl _ | apply Drawn0.step)⟩
                by_cases hij : i = j
                · subst hij; exact hg.out
                · exact hall.out i (by omega)
              case measure =>
                rw [show wrap64 ((j : Int) + 1) = ((j + 1 : Nat) : Int) by (have := C9.out; unfold wrap64; omega)]
                simp only [intOf, Int.toNat_natCast]
                have := C9.out
                omega
            · have cz_ : (p != 0) = true := bne_iff_ne.mpr cz
              have CZ := Aside0.mk cz
              clear cz
              by_cases cb : (s + 512 - 1) / 512 ≤ (j : Int)
              · have cb_ : decide ((s + 512 - 1) / 512 ≤ (j : Int)) = true := decide_eq_true cb
                have CB := Aside0.mk cb
                clear cb
                go_wp2_with (first | (go_at_call 73; refine (spec_l02Pointer.calls p true _ HQ.out).mono ?_; rintro e_ w_ ⟨rfl, ⟨nd, rfl⟩⟩))
                go_ret
                refine ⟨?_, by first | exact pw_below_drewN HB.out _ | exact pw_below_drewN (pw_below_drewN HB.out _) _⟩
                have e_ : rootGood a0 = false := rootGood_bad j (by have := C9.out; omega) (spec_l02Root.unfit j (by rw [← HPV.out]; exact CZ.out) (by rw [HLS.out, ← HS.out]; have := CB.out; omega))
                rw [← H.out, e_]; rfl
              · have cb_ : decide ((s + 512 - 1) / 512 ≤ (j : Int)) = false := decide_eq_false cb
                have CB := Aside0.mk cb
                clear cb
                go_wp2_with (first | (go_at_call 73; refine (spec_l02Pointer.calls p true _ HQ.out).mono ?_; rintro e_ w_ ⟨rfl, ⟨nd, rfl⟩⟩))
                have hg := Aside0.mk (show ptrFits a0 j = true from spec_l02Root.fits j (by rw [← HPV.out]; exact CQ.out) (.inr (by rw [HLS.out, ← HS.out]; have := CB.out; omega)))
                go_roundw
                case rel =>
                  refine ⟨j + 1, by rw [show wrap64 ((j : Int) + 1) = ((j + 1 : Nat) : Int) by (have := C9.out; unfold wrap64; omega)], ⟨by have := C9.out; omega⟩, ⟨fun i hi => ?_⟩, by repeat (first | exact Drawn0.refl _ | apply Drawn0.step)⟩
                  by_cases hij : i = j
                  · subst hij; exact hg.out
                  · exact hall.out i (by omega)
                case measure =>
                  rw [show wrap64 ((j : Int) + 1) = ((j + 1 : Nat) : Int) by (have := C9.out; unfold wrap64; omega)]
                  simp only [intOf, Int.toNat_natCast]
                  have := C9.out
                  omega
          · have cq2 : ptrOk p = false := by simpa using cq
            have HQ := Aside0.mk ((spec_l02Root.ptr p).trans (by rw [cq2]))
            have CQ := Aside0.mk cq2
            clear cq cq2
            go_wp2_with (first | (go_at_call 73; refine (spec_l02Pointer.calls p false _ HQ.out).mono ?_; rintro e_ w_ ⟨rfl, ⟨nd, rfl⟩⟩))
            go_ret
            refine ⟨?_, by first | exact pw_below_drewN HB.out _ | exact pw_below_drewN (pw_below_drewN HB.out _) _⟩
            have e_ : rootGood a0 = false := rootGood_bad j (by have := C9.out; omega) (by rw [ptrFits, ← HPV.out, CQ.out]; rfl)
            rw [← H.out, e_]; rfl
    · obtain rfl : j = 14 := by have := hj.out; omega
      have c9b0 : decide ((14 : Int) < (xs.length : Int)) = false := decide_eq_false (by rw [HXL.out]; decide)
      have c9b1 : decide (14 < xs.length) = false := decide_eq_false (by rw [HXL.out]; decide)
      go_wp2
      go_ret
      refine ⟨?_, pw_below_drewN HB.out _⟩
      rw [← H.out, rootGood_ok (by rw [← HS.out]; exact c1n) (by rw [← HS.out]; exact c2n) hall.out]; rfl

/-! ### spec_l02TableSize: function 40 -/
def spec_l02TableSize.f (a0 : Int) : Option (Bool) := if a0 ≥ 256 then (if (Int.tmod a0 128) = 0 then (some (decide (a0 ≤ 128128))) else (some false)) else (some false)
set_option maxHeartbeats 8000000 in
set_option maxRecDepth 100000 in
theorem spec_l02TableSize.calls (a0 : Int) (r : Bool) (w : World) (h : spec_l02TableSize.f a0 = some r) :
    Calls Tryd.prog 40 #[.int .i64 a0] w fun e w' => e = .returned (.bool r) ∧ Drawn0 w w' := by
  have H : (if a0 ≥ 256 then (if (Int.tmod a0 128) = 0 then (some (decide (a0 ≤ 128128))) else (some false)) else (some false)) = some r := h
  clear h
  by_cases c2 : a0 ≥ 256
  · rw [if_pos c2] at H
    have c2b0 : decide (256 ≤ a0) = true := decide_eq_true c2
    clear c2
    by_cases c3 : (Int.tmod a0 128) = 0
    · rw [if_pos c3] at H
      have c3b0 : ((Int.tmod a0 128) == 0) = true := beq_iff_eq.mpr c3
      have c3b1 : ((Int.tmod a0 128) != 0) = false := bne_eq_false_iff_eq.mpr c3
      clear c3
      obtain rfl := Option.some.inj H
      go_enter Tryd.func40, Tryd.ntmps40
      go_wp2
      go_ret
      exact ⟨by first | rfl | (simp; done) | (simp [*]; done), by repeat (first | exact Drawn0.refl _ | apply Drawn0.step)⟩
    · rw [if_neg c3] at H
      have c3b0 : ((Int.tmod a0 128) == 0) = false := beq_eq_false_iff_ne.mpr c3
      have c3b1 : ((Int.tmod a0 128) != 0) = true := bne_iff_ne.mpr c3
      obtain rfl := Option.some.inj H
      go_enter Tryd.func40, Tryd.ntmps40
      go_wp2
      go_ret
      exact ⟨by first | rfl | (simp; done) | (simp [*]; done), by repeat (first | exact Drawn0.refl _ | apply Drawn0.step)⟩
  · rw [if_neg c2] at H
    have c2b0 : decide (256 ≤ a0) = false := decide_eq_false c2
    clear c2
    obtain rfl := Option.some.inj H
    go_enter Tryd.func40, Tryd.ntmps40
    go_wp2
    go_ret
    exact ⟨by first | rfl | (simp; done) | (simp [*]; done), by repeat (first | exact Drawn0.refl _ | apply Drawn0.step)⟩

/-! ### spec_l02Join: function 41 -/
def spec_l02Join.l0 : Nat → List Int → List (List Int) → Int → Int → Option (List Int)
  | 0, _, _, _, _ => none
  | k + 1, x3, x7, x8, x9 => if x9 < x8 then (if 0 ≤ x9 then (if x9 < (x7.length : Int) then (if x3.length + (rd_L1 x7 x9).length < 140737488355328 then (spec_l02Join.l0 k (x3 ++ (rd_L1 x7 x9)) x7 x8 (wrap64 (x9 + 1))) else (none)) else (none)) else (none)) else (some x3)
def spec_l02Join.f (k : Nat) (l0 : List (List Int)) : Option (List Int) := spec_l02Join.l0 k (([] : List Int)) l0 (l0.length : Int) 0
theorem spec_l02Join.mono_l : ∀ k, (∀ y0 y1 y2 y3, LeO (spec_l02Join.l0 k y0 y1 y2 y3) (spec_l02Join.l0 (k + 1) y0 y1 y2 y3))
  | 0 => fun _ _ _ _ r h => by simp [spec_l02Join.l0] at h
  | k + 1 => by
    have ih0 := spec_l02Join.mono_l k
    · intro y0 y1 y2 y3
      unfold spec_l02Join.l0
      repeat' first
      | (with_reducible exact ih0 _ _ _ _)
      | (with_reducible exact LeO.refl _)
      | (with_reducible exact LeO.none _)
      | (with_reducible refine LeO.ite ?_ ?_)
      | (with_reducible refine LeO.bind ?_ (fun _ => ?_))
      | exact ih0 _ _ _ _
      | exact LeO.none _
      | refine LeO.ite ?_ ?_
      | refine LeO.bind ?_ (fun _ => ?_)
theorem spec_l02Join.mono : ∀ a0 k, LeO (spec_l02Join.f k a0) (spec_l02Join.f (k + 1) a0) := by
  intro a0 k
  have ih0 := spec_l02Join.mono_l k
  unfold spec_l02Join.f
  repeat' first
      | (with_reducible exact ih0 _ _ _ _)
      | (with_reducible exact LeO.refl _)
      | (with_reducible exact LeO.none _)
      | (with_reducible refine LeO.ite ?_ ?_)
      | (with_reducible refine LeO.bind ?_ (fun _ => ?_))
      | exact ih0 _ _ _ _
      | exact LeO.none _
      | refine LeO.ite ?_ ?_
      | refine LeO.bind ?_ (fun _ => ?_)
set_option maxHeartbeats 8000000 in
set_option maxRecDepth 100000 in
theorem spec_l02Join.calls (k : Nat) (A0 : Option Addr) (c0 : Nat) (l0 : List (List Int)) (r : List Int) (w : World) (hr0 : Kd.C (Kd.slice 5 (Kd.int .u8)) w A0 l0.length l0) (hc0 : l0.length ≤ c0) (h : spec_l02Join.f k l0 = some r) :
    Calls Tryd.prog 41 #[.slice A0 l0.length c0] w fun e w' => ∃ v0_ : Value, e = .returned (v0_) ∧ Kd.R (Kd.int .u8) 5 w' w.heap.size (fun _ => True) v0_ r ∧ Below w.heap.size w w' := by
  have HR0 := Aside0.mk hr0
  have HC0 := Aside0.mk hc0
  clear hr0 hc0
  have HB := Aside0.mk (Below.refl w.heap.size w)
  have H : (spec_l02Join.l0 k (([] : List Int)) l0 (l0.length : Int) 0) = some r := h
  clear h
  obtain ⟨y103, hy103⟩ : ∃ y_ : List Int, y_ = (([] : List Int)) := ⟨_, rfl⟩
  replace H : (spec_l02Join.l0 k y103 l0 (l0.length : Int) 0) = some r := by first | (rw [hy103]; with_reducible exact H) | (have H2_ := (Option.bind_some _ _).symm.trans H; rw [hy103]; with_reducible exact H2_) | (have H2_ := (Option.bind_some _ _).symm.trans H; with_reducible exact H2_) | with_reducible exact H | (rw [hy103]; exact H) | exact H
  have Ny103 := Aside0.mk hy103
  clear hy103
  have H' := Aside0.mk H
  clear H
  go_enter Tryd.func41, Tryd.ntmps41
  go_wp2_with (first | ((with_reducible refine gate_dst (N := 6) rfl ?_); refine Kd.R_lit (Kd.int .u8) _ 5 ?hg (N := 6) ?hd (xs := ([] : List Int)) (inner := []) (ok := fun _ => True) (okp := fun _ => True) ?hr ?hp (fun _ hk => hk) trivial (Below.refl _ _) (Nat.le_refl _) (by simp) ?_; (case hd => rfl); (case hg => rfl); (case hr => first | (go_simp; done) | (go_simp; rfl)); (case hp => exact (Reps.none _ _)); intro v104 w2 ho3 hb hg_ hnew_; clear hg_ hnew_; (first | rw [← Ny103.out] at ho3 | (simp only [Int.reduceToNat] at ho3; rw [← Ny103.out] at ho3)); have n0_ := Aside0.mk (Kd.R_lower ho3 (below_size (by repeat (first | (with_reducible first | exact HB.out | apply below_alloc | apply pw_below_drewN | apply below_drew1) | exact HB.out)))); have n1_ := Aside0.mk (below_step (by repeat (first | (with_reducible first | exact HB.out | apply below_alloc | apply pw_below_drewN | apply below_drew1) | exact HB.out)) hb); clear HB; have HO105 := n0_; have HB := n1_; clear n0_ n1_; clear hb ho3))
  go_loopg [3, 9] k (fun kq v3 v9 w' => ∃ (x3_1 : List Int) (x9_1 : Int), v9 = .int .i64 x9_1 ∧ Aside0 (spec_l02Join.l0 kq x3_1 l0 (l0.length : Int) x9_1 = some r) ∧ Aside0 (kq ≤ k) ∧ Aside0 (Kd.R (Kd.int .u8) 5 w' w.heap.size (fun _ => True) v3 x3_1) ∧ Aside0 (Below w.heap.size w w'))
  case atStart => exact ⟨(y103), (0), (by first | rfl | (simp; done) | (simp [*]; done)), H', ⟨Nat.le_refl _⟩, ⟨by (with_reducible repeat (first | apply Kd.R_alloc | apply Kd.R_drewN | apply Kd.R_drew)); exact HO105.out⟩, ⟨by repeat (first | (with_reducible first | exact HB.out | apply below_alloc | apply pw_below_drewN | apply below_drew1) | exact HB.out)⟩⟩
  case round =>
    clear H'
    try clear p2
    obtain ⟨x3_1, x9_1, rfl, HA, HK1, HO_3, HB⟩ := hrel
    cases gk with
    | zero => exact absurd HA.out (by simp [spec_l02Join.l0])
    | succ k1 =>
      have H := HA.out
      clear HA
      simp only [spec_l02Join.l0] at H
      by_cases c4 : x9_1 < (l0.length : Int)
      · rw [if_pos c4] at H
        have c4b0 : decide (x9_1 < (l0.length : Int)) = true := decide_eq_true c4
        clear c4
        by_cases c5 : 0 ≤ x9_1
        · rw [if_pos c5] at H
          have c5b0 : decide (0 ≤ x9_1) = true := decide_eq_true c5
          clear c5
          by_cases c6 : x9_1 < (l0.length : Int)
          · rw [if_pos c6] at H
            have c6b0 : decide (x9_1 < (l0.length : Int)) = true := decide_eq_true c6
            clear c6
            by_cases c7 : x3_1.length + (rd_L1 l0 x9_1).length < 140737488355328
            · rw [if_pos c7] at H
              have LMc7 := Aside0.mk c7
              clear c7
              obtain ⟨y107, hy107⟩ : ∃ y_ : List Int, y_ = (x3_1 ++ (rd_L1 l0 x9_1)) := ⟨_, rfl⟩
              replace H : (spec_l02Join.l0 k1 y107 l0 (l0.length : Int) (wrap64 (x9_1 + 1))) = some r := by first | (rw [hy107]; with_reducible exact H) | (have H2_ := (Option.bind_some _ _).symm.trans H; rw [hy107]; with_reducible exact H2_) | (have H2_ := (Option.bind_some _ _).symm.trans H; with_reducible exact H2_) | with_reducible exact H | (rw [hy107]; exact H) | exact H
              have Ny107 := Aside0.mk hy107
              clear hy107
              have H' := Aside0.mk H
              clear H
              have p106 : 0 ≤ (x9_1 : Int) := of_decide_eq_true (by first | (with_reducible assumption) | assumption)
              have q106 : x9_1 < (l0.length : Int) := of_decide_eq_true (by first | (with_reducible assumption) | assumption)
              obtain ⟨ad106, A106_0, c106_0, e106, hx106_0, hl106_0, hi106_0⟩ := at_L1 HR0.out x9_1 p106 q106
              cases e106
              replace hx106_0 := (HB.out.cell (World.block_lt_of_cell? w _ hx106_0)).trans hx106_0
              have HR106_0 := Aside0.mk hi106_0
              have HC106_0 := Aside0.mk hl106_0
              clear hi106_0 hl106_0
              replace p106 := eq_true p106
              replace q106 := eq_true q106
              go_wp2_with (first | ((with_reducible refine gate_builtin (b := .append) (xs := #[.tmp 13, .tmp 14]) rfl ?_); at_builtin; refine Kd.R_append_rows (Kd.int .u8) (w0 := w) w.heap.size rfl (.tmp 13) (.tmp 14) 28 5 (.int .u8 0) 1 rfl Tryd.underlying28 info5 rfl (by decide) (by omega) u3 x3_1 (rd_L1 l0 x9_1) _ _ _ (fun _ => True) (fun _ => False) rfl rfl ?aO ?aR (fun _ _ h => h) (fun _ h => h.elim) ?aF ?aB ?aS ?aL ?_; (case aR => repeat (first | exact (Kd.C_below HR106_0.out HB.out) | (with_reducible refine Kd.C_alloc ?_ _) | (with_reducible refine Kd.C_drewN ?_ _) | (with_reducible refine Kd.C_drew ?_))); (case aB => exact (by repeat (first | (with_reducible first | exact HB.out | apply below_alloc | apply pw_below_drewN | apply below_drew1) | exact HB.out))); (case aF => exact (fun _ _ => trivial)); (case aO => exact (by (with_reducible repeat (first | apply Kd.R_alloc | apply Kd.R_drewN | apply Kd.R_drew)); exact HO_3.out)); (case aS => exact (below_size (by repeat (first | (with_reducible first | exact HB.out | apply below_alloc | apply pw_below_drewN | apply below_drew1) | exact HB.out)))); (case aL => have := LMc7.out; omega); intro v108 w8 ho hb hg hat; rw [← Ny107.out] at ho; have n0_ := Aside0.mk (hb); have n1_ := Aside0.mk (ho); clear HB; clear HO_3; have HB := n0_; have HO109 := n1_; clear n0_ n1_; clear ho hb hg hat))
              go_roundg k1
              case measure => have := HK1.out; omega
              case rel => exact ⟨(y107), (wrap64 (x9_1 + 1)), (by first | rfl | (simp; done) | (simp [*]; done)), H', ⟨by have := HK1.out; omega⟩, ⟨by (with_reducible repeat (first | apply Kd.R_alloc | apply Kd.R_drewN | apply Kd.R_drew)); exact HO109.out⟩, ⟨by repeat (first | (with_reducible first | exact HB.out | apply below_alloc | apply pw_below_drewN | apply below_drew1) | exact HB.out)⟩⟩
            · rw [if_neg c7] at H
              exact absurd H (by simp)
          · rw [if_neg c6] at H
            exact absurd H (by simp)
        · rw [if_neg c5] at H
          exact absurd H (by simp)
      · rw [if_neg c4] at H
        have c4b0 : decide (x9_1 < (l0.length : Int)) = false := decide_eq_false c4
        clear c4
        obtain rfl := Option.some.inj H
        go_wp2
        go_ret
        exact ⟨_, by first | rfl | (simp [errW_none, errW_some] <;> rfl) | (simp [*, errW_none, errW_some] <;> rfl), by (with_reducible repeat (first | apply Kd.R_alloc | apply Kd.R_drewN | apply Kd.R_drew)); exact HO_3.out, by repeat (first | (with_reducible first | exact HB.out | apply below_alloc | apply pw_below_drewN | apply below_drew1) | exact HB.out)⟩

/-! ### spec_l02Put: function 42 -/
def spec_l02Put.l0 : Nat → Int → Int → List Int → Int → Option (List Int)
  | 0, _, _, _, _ => none
  | k + 1, x0, x1, x5, x6 => if x6 < x1 then (if x5.length < 140737488355328 then (spec_l02Put.l0 k (wrap64 (Int.tdiv x0 256)) x1 (x5 ++ [(Int.tmod x0 256) % 256]) (wrap64 (x6 + 1))) else (none)) else (some x5)
def spec_l02Put.f (k : Nat) (a0 : Int) (a1 : Int) : Option (List Int) := spec_l02Put.l0 k a0 a1 (([] : List Int)) 0
theorem spec_l02Put.mono_l : ∀ k, (∀ y0 y1 y2 y3, LeO (spec_l02Put.l0 k y0 y1 y2 y3) (spec_l02Put.l0 (k + 1) y0 y1 y2 y3))
  | 0 => fun _ _ _ _ r h => by simp [spec_l02Put.l0] at h
  | k + 1 => by
    have ih0 := spec_l02Put.mono_l k
    · intro y0 y1 y2 y3
      unfold spec_l02Put.l0
      repeat' first
      | (with_reducible exact ih0 _ _ _ _)
      | (with_reducible exact LeO.refl _)
      | (with_reducible exact LeO.none _)
      | (with_reducible refine LeO.ite ?_ ?_)
      | (with_reducible refine LeO.bind ?_ (fun _ => ?_))
      | exact ih0 _ _ _ _
      | exact LeO.none _
      | refine LeO.ite ?_ ?_
      | refine LeO.bind ?_ (fun _ => ?_)
theorem spec_l02Put.mono : ∀ a0 a1 k, LeO (spec_l02Put.f k a0 a1) (spec_l02Put.f (k + 1) a0 a1) := by
  intro a0 a1 k
  have ih0 := spec_l02Put.mono_l k
  unfold spec_l02Put.f
  repeat' first
      | (with_reducible exact ih0 _ _ _ _)
      | (with_reducible exact LeO.refl _)
      | (with_reducible exact LeO.none _)
      | (with_reducible refine LeO.ite ?_ ?_)
      | (with_reducible refine LeO.bind ?_ (fun _ => ?_))
      | exact ih0 _ _ _ _
      | exact LeO.none _
      | refine LeO.ite ?_ ?_
      | refine LeO.bind ?_ (fun _ => ?_)
set_option maxHeartbeats 8000000 in
set_option maxRecDepth 100000 in
theorem spec_l02Put.calls (k : Nat) (a0 : Int) (a1 : Int) (r : List Int) (w : World) (h : spec_l02Put.f k a0 a1 = some r) :
    Calls Tryd.prog 42 #[.int .i64 a0, .int .i64 a1] w fun e w' => ∃ v0_ : Value, e = .returned (v0_) ∧ Kd.R (Kd.int .u8) 5 w' w.heap.size (fun _ => True) v0_ r ∧ Below w.heap.size w w' := by
  have HB := Aside0.mk (Below.refl w.heap.size w)
  have H : (spec_l02Put.l0 k a0 a1 (([] : List Int)) 0) = some r := h
  clear h
  obtain ⟨y110, hy110⟩ : ∃ y_ : List Int, y_ = (([] : List Int)) := ⟨_, rfl⟩
  replace H : (spec_l02Put.l0 k a0 a1 y110 0) = some r := by first | (rw [hy110]; with_reducible exact H) | (have H2_ := (Option.bind_some _ _).symm.trans H; rw [hy110]; with_reducible exact H2_) | (have H2_ := (Option.bind_some _ _).symm.trans H; with_reducible exact H2_) | with_reducible exact H | (rw [hy110]; exact H) | exact H
  have Ny110 := Aside0.mk hy110
  clear hy110
  have H' := Aside0.mk H
  clear H
  go_enter Tryd.func42, Tryd.ntmps42
  go_wp2_with (first | ((with_reducible refine gate_dst (N := 7) rfl ?_); refine Kd.R_lit (Kd.int .u8) _ 5 ?hg (N := 7) ?hd (xs := ([] : List Int)) (inner := []) (ok := fun _ => True) (okp := fun _ => True) ?hr ?hp (fun _ hk => hk) trivial (Below.refl _ _) (Nat.le_refl _) (by simp) ?_; (case hd => rfl); (case hg => rfl); (case hr => first | (go_simp; done) | (go_simp; rfl)); (case hp => exact (Reps.none _ _)); intro v111 w3 ho4 hb hg_ hnew_; clear hg_ hnew_; (first | rw [← Ny110.out] at ho4 | (simp only [Int.reduceToNat] at ho4; rw [← Ny110.out] at ho4)); have n0_ := Aside0.mk (Kd.R_lower ho4 (below_size (by repeat (first | (with_reducible first | exact HB.out | apply below_alloc | apply pw_below_drewN | apply below_drew1) | exact HB.out)))); have n1_ := Aside0.mk (below_step (by repeat (first | (with_reducible first | exact HB.out | apply below_alloc | apply pw_below_drewN | apply below_drew1) | exact HB.out)) hb); clear HB; have HO112 := n0_; have HB := n1_; clear n0_ n1_; clear hb ho4))
  go_loopg [0, 5, 6] k (fun kq v0 v5 v6 w' => ∃ (x0_1 : Int) (x5_1 : List Int) (x6_1 : Int), v0 = .int .i64 x0_1 ∧ v6 = .int .i64 x6_1 ∧ Aside0 (spec_l02Put.l0 kq x0_1 a1 x5_1 x6_1 = some r) ∧ Aside0 (kq ≤ k) ∧ Aside0 (Kd.R (Kd.int .u8) 5 w' w.heap.size (fun _ => True) v5 x5_1) ∧ Aside0 (Below w.heap.size w w'))
  case atStart => exact ⟨(a0), (y110), (0), (by first | rfl | (simp; done) | (simp [*]; done)), (by first | rfl | (simp; done) | (simp [*]; done)), H', ⟨Nat.le_refl _⟩, ⟨by (with_reducible repeat (first | apply Kd.R_alloc | apply Kd.R_drewN | apply Kd.R_drew)); exact HO112.out⟩, ⟨by repeat (first | (with_reducible first | exact HB.out | apply below_alloc | apply pw_below_drewN | apply below_drew1) | exact HB.out)⟩⟩
  case round =>
    clear H'
    try clear p2
    try clear c4
    obtain ⟨x0_1, x5_1, x6_1, rfl, rfl, HA, HK1, HO_5, HB⟩ := hrel
    cases gk with
    | zero => exact absurd HA.out (by simp [spec_l02Put.l0])
    | succ k1 =>
      have H := HA.out
      clear HA
      simp only [spec_l02Put.l0] at H
      by_cases c5 : x6_1 < a1
      · rw [if_pos c5] at H
        have c5b0 : decide (x6_1 < a1) = true := decide_eq_true c5
        clear c5
        by_cases c6 : x5_1.length < 140737488355328
        · rw [if_pos c6] at H
          have LMc6 := Aside0.mk c6
          clear c6
          obtain ⟨y113, hy113⟩ : ∃ y_ : List Int, y_ = (x5_1 ++ [(Int.tmod x0_1 256) % 256]) := ⟨_, rfl⟩
          replace H : (spec_l02Put.l0 k1 (wrap64 (Int.tdiv x0_1 256)) a1 y113 (wrap64 (x6_1 + 1))) = some r := by first | (rw [hy113]; with_reducible exact H) | (have H2_ := (Option.bind_some _ _).symm.trans H; rw [hy113]; with_reducible exact H2_) | (have H2_ := (Option.bind_some _ _).symm.trans H; with_reducible exact H2_) | with_reducible exact H | (rw [hy113]; exact H) | exact H
          have Ny113 := Aside0.mk hy113
          clear hy113
          have H' := Aside0.mk H
          clear H
          go_wp2_with (first | ((with_reducible refine gate_builtin (b := .append) (xs := #[.tmp 13, .tmp 17]) rfl ?_); at_builtin; refine Kd.R_append (Kd.int .u8) (w0 := w) w.heap.size rfl (.tmp 13) (.tmp 17) 28 5 (.int .u8 0) 1 rfl Tryd.underlying28 info5 rfl (by decide) (by omega) u5 x5_1 ((Int.tmod x0_1 256) % 256) [.int .u8 ((Int.tmod x0_1 256) % 256)] (fun _ => True) (fun _ => False) rfl rfl ?aP (fun _ hk => hk.elim) ?aF ?aO ?aB ?aS ?aL ?_; (case aP => exact rfl); (case aB => exact (by repeat (first | (with_reducible first | exact HB.out | apply below_alloc | apply pw_below_drewN | apply below_drew1) | exact HB.out))); (case aF => exact (fun _ _ => trivial)); (case aO => exact (by (with_reducible repeat (first | apply Kd.R_alloc | apply Kd.R_drewN | apply Kd.R_drew)); exact HO_5.out)); (case aS => exact (below_size (by repeat (first | (with_reducible first | exact HB.out | apply below_alloc | apply pw_below_drewN | apply below_drew1) | exact HB.out)))); (case aL => have := LMc6.out; omega); intro v114 w7 ho hb hg hat; rw [← Ny113.out] at ho; have n0_ := Aside0.mk (hb); have n1_ := Aside0.mk (ho); clear HB; clear HO_5; have HB := n0_; have HO115 := n1_; clear n0_ n1_; clear ho hb hg hat))
          go_roundg k1
          case measure => have := HK1.out; omega
          case rel => exact ⟨(wrap64 (Int.tdiv x0_1 256)), (y113), (wrap64 (x6_1 + 1)), (by first | rfl | (simp; done) | (simp [*]; done)), (by first | rfl | (simp; done) | (simp [*]; done)), H', ⟨by have := HK1.out; omega⟩, ⟨by (with_reducible repeat (first | apply Kd.R_alloc | apply Kd.R_drewN | apply Kd.R_drew)); exact HO115.out⟩, ⟨by repeat (first | (with_reducible first | exact HB.out | apply below_alloc | apply pw_below_drewN | apply below_drew1) | exact HB.out)⟩⟩
        · rw [if_neg c6] at H
          exact absurd H (by simp)
      · rw [if_neg c5] at H
        have c5b0 : decide (x6_1 < a1) = false := decide_eq_false c5
        clear c5
        obtain rfl := Option.some.inj H
        go_wp2
        go_ret
        exact ⟨_, by first | rfl | (simp [errW_none, errW_some] <;> rfl) | (simp [*, errW_none, errW_some] <;> rfl), by (with_reducible repeat (first | apply Kd.R_alloc | apply Kd.R_drewN | apply Kd.R_drew)); exact HO_5.out, by repeat (first | (with_reducible first | exact HB.out | apply below_alloc | apply pw_below_drewN | apply below_drew1) | exact HB.out)⟩

/-! ### spec_l02Fill: function 43 -/
def spec_l02Fill.l0 : Nat → Int → List Int → Option (List Int)
  | 0, _, _ => none
  | k + 1, x1, x5 => if (x5.length : Int) < x1 then (if x5.length < 140737488355328 then (spec_l02Fill.l0 k x1 (x5 ++ [0])) else (none)) else (some x5)
def spec_l02Fill.f (k : Nat) (l0 : List Int) (a1 : Int) : Option (List Int) := (some (([] : List Int) : List Int)).bind fun y116 => (if y116.length + l0.length < 140737488355328 then (spec_l02Fill.l0 k a1 (y116 ++ l0)) else (none))
theorem spec_l02Fill.mono_l : ∀ k, (∀ y0 y1, LeO (spec_l02Fill.l0 k y0 y1) (spec_l02Fill.l0 (k + 1) y0 y1))
  | 0 => fun _ _ r h => by simp [spec_l02Fill.l0] at h
  | k + 1 => by
    have ih0 := spec_l02Fill.mono_l k
    · intro y0 y1
      unfold spec_l02Fill.l0
      repeat' first
      | (with_reducible exact ih0 _ _)
      | (with_reducible exact LeO.refl _)
      | (with_reducible exact LeO.none _)
      | (with_reducible refine LeO.ite ?_ ?_)
      | (with_reducible refine LeO.bind ?_ (fun _ => ?_))
      | exact ih0 _ _
      | exact LeO.none _
      | refine LeO.ite ?_ ?_
      | refine LeO.bind ?_ (fun _ => ?_)
theorem spec_l02Fill.mono : ∀ a0 a1 k, LeO (spec_l02Fill.f k a0 a1) (spec_l02Fill.f (k + 1) a0 a1) := by
  intro a0 a1 k
  have ih0 := spec_l02Fill.mono_l k
  unfold spec_l02Fill.f
  repeat' first
      | (with_reducible exact ih0 _ _)
      | (with_reducible exact LeO.refl _)
      | (with_reducible exact LeO.none _)
      | (with_reducible refine LeO.ite ?_ ?_)
      | (with_reducible refine LeO.bind ?_ (fun _ => ?_))
      | exact ih0 _ _
      | exact LeO.none _
      | refine LeO.ite ?_ ?_
      | refine LeO.bind ?_ (fun _ => ?_)
set_option maxHeartbeats 8000000 in
set_option maxRecDepth 100000 in
theorem spec_l02Fill.calls (k : Nat) (A0 : Option Addr) (c0 : Nat) (l0 : List Int) (a1 : Int) (r : List Int) (w : World) (hr0 : Kd.C (Kd.int .u8) w A0 l0.length l0) (hc0 : l0.length ≤ c0) (h : spec_l02Fill.f k l0 a1 = some r) :
    Calls Tryd.prog 43 #[.slice A0 l0.length c0, .int .i64 a1] w fun e w' => ∃ v0_ : Value, e = .returned (v0_) ∧ Kd.R (Kd.int .u8) 5 w' w.heap.size (fun _ => True) v0_ r ∧ Below w.heap.size w w' := by
  have HR0 := Aside0.mk hr0
  have HC0 := Aside0.mk hc0
  clear hr0 hc0
  have HB := Aside0.mk (Below.refl w.heap.size w)
  have H : ((some (([] : List Int) : List Int)).bind fun y116 => (if y116.length + l0.length < 140737488355328 then (spec_l02Fill.l0 k a1 (y116 ++ l0)) else (none))) = some r := h
  clear h
  obtain ⟨y116, hy116⟩ : ∃ y_ : List Int, y_ = (([] : List Int)) := ⟨_, rfl⟩
  replace H : (if y116.length + l0.length < 140737488355328 then (spec_l02Fill.l0 k a1 (y116 ++ l0)) else (none)) = some r := by first | (rw [hy116]; with_reducible exact H) | (have H2_ := (Option.bind_some _ _).symm.trans H; rw [hy116]; with_reducible exact H2_) | (have H2_ := (Option.bind_some _ _).symm.trans H; with_reducible exact H2_) | with_reducible exact H | (rw [hy116]; exact H) | exact H
  have Ny116 := Aside0.mk hy116
  clear hy116
  by_cases c3 : y116.length + l0.length < 140737488355328
  · rw [if_pos c3] at H
    have LMc3 := Aside0.mk c3
    clear c3
    obtain ⟨y119, hy119⟩ : ∃ y_ : List Int, y_ = (y116 ++ l0) := ⟨_, rfl⟩
    replace H : (spec_l02Fill.l0 k a1 y119) = some r := by first | (rw [hy119]; with_reducible exact H) | (have H2_ := (Option.bind_some _ _).symm.trans H; rw [hy119]; with_reducible exact H2_) | (have H2_ := (Option.bind_some _ _).symm.trans H; with_reducible exact H2_) | with_reducible exact H | (rw [hy119]; exact H) | exact H
    have Ny119 := Aside0.mk hy119
    clear hy119
    have H' := Aside0.mk H
    clear H
    go_enter Tryd.func43, Tryd.ntmps43
    go_wp2_with (first | ((with_reducible refine gate_dst (N := 6) rfl ?_); refine Kd.R_lit (Kd.int .u8) _ 5 ?hg (N := 6) ?hd (xs := ([] : List Int)) (inner := []) (ok := fun _ => True) (okp := fun _ => True) ?hr ?hp (fun _ hk => hk) trivial (Below.refl _ _) (Nat.le_refl _) (by simp) ?_; (case hd => rfl); (case hg => rfl); (case hr => first | (go_simp; done) | (go_simp; rfl)); (case hp => exact (Reps.none _ _)); intro v117 w4 ho5 hb hg_ hnew_; clear hg_ hnew_; (first | rw [← Ny116.out] at ho5 | (simp only [Int.reduceToNat] at ho5; rw [← Ny116.out] at ho5)); have n0_ := Aside0.mk (Kd.R_lower ho5 (below_size (by repeat (first | (with_reducible first | exact HB.out | apply below_alloc | apply pw_below_drewN | apply below_drew1) | exact HB.out)))); have n1_ := Aside0.mk (below_step (by repeat (first | (with_reducible first | exact HB.out | apply below_alloc | apply pw_below_drewN | apply below_drew1) | exact HB.out)) hb); clear HB; have HO118 := n0_; have HB := n1_; clear n0_ n1_; clear hb ho5) | ((with_reducible refine gate_builtin (b := .append) (xs := #[.tmp 6, .tmp 7]) rfl ?_); at_builtin; refine Kd.R_append_rows (Kd.int .u8) (w0 := w) w.heap.size rfl (.tmp 6) (.tmp 7) 28 5 (.int .u8 0) 1 rfl Tryd.underlying28 info5 rfl (by decide) (by omega) v117 y116 l0 _ _ _ (fun _ => True) (fun _ => False) rfl rfl ?aO ?aR (fun _ _ h => h) (fun _ h => h.elim) ?aF ?aB ?aS ?aL ?_; (case aR => repeat (first | exact (Kd.C_below HR0.out HB.out) | (with_reducible refine Kd.C_alloc ?_ _) | (with_reducible refine Kd.C_drewN ?_ _) | (with_reducible refine Kd.C_drew ?_))); (case aB => exact (by repeat (first | (with_reducible first | exact HB.out | apply below_alloc | apply pw_below_drewN | apply below_drew1) | exact HB.out))); (case aF => exact (fun _ _ => trivial)); (case aO => exact (by (with_reducible repeat (first | apply Kd.R_alloc | apply Kd.R_drewN | apply Kd.R_drew)); exact HO118.out)); (case aS => exact (below_size (by repeat (first | (with_reducible first | exact HB.out | apply below_alloc | apply pw_below_drewN | apply below_drew1) | exact HB.out)))); (case aL => have := LMc3.out; omega); intro v120 w6 ho hb hg hat; rw [← Ny119.out] at ho; have n0_ := Aside0.mk (hb); have n1_ := Aside0.mk (ho); clear HB; clear HO118; have HB := n0_; have HO121 := n1_; clear n0_ n1_; clear ho hb hg hat))
    go_loopg [5] k (fun kq v5 w' => ∃ (x5_1 : List Int), Aside0 (spec_l02Fill.l0 kq a1 x5_1 = some r) ∧ Aside0 (kq ≤ k) ∧ Aside0 (Kd.R (Kd.int .u8) 5 w' w.heap.size (fun _ => True) v5 x5_1) ∧ Aside0 (Below w.heap.size w w'))
    case atStart => exact ⟨(y119), H', ⟨Nat.le_refl _⟩, ⟨by (with_reducible repeat (first | apply Kd.R_alloc | apply Kd.R_drewN | apply Kd.R_drew)); exact HO121.out⟩, ⟨by repeat (first | (with_reducible first | exact HB.out | apply below_alloc | apply pw_below_drewN | apply below_drew1) | exact HB.out)⟩⟩
    case round =>
      clear H'
      try clear p2
      try clear c3
      try clear c4
      obtain ⟨x5_1, HA, HK1, HO_5, HB⟩ := hrel
      cases gk with
      | zero => exact absurd HA.out (by simp [spec_l02Fill.l0])
      | succ k1 =>
        have H := HA.out
        clear HA
        simp only [spec_l02Fill.l0] at H
        by_cases c7 : (x5_1.length : Int) < a1
        · rw [if_pos c7] at H
          have c7b0 : decide ((x5_1.length : Int) < a1) = true := decide_eq_true c7
          clear c7
          by_cases c8 : x5_1.length < 140737488355328
          · rw [if_pos c8] at H
            have LMc8 := Aside0.mk c8
            clear c8
            obtain ⟨y122, hy122⟩ : ∃ y_ : List Int, y_ = (x5_1 ++ [0]) := ⟨_, rfl⟩
            replace H : (spec_l02Fill.l0 k1 a1 y122) = some r := by first | (rw [hy122]; with_reducible exact H) | (have H2_ := (Option.bind_some _ _).symm.trans H; rw [hy122]; with_reducible exact H2_) | (have H2_ := (Option.bind_some _ _).symm.trans H; with_reducible exact H2_) | with_reducible exact H | (rw [hy122]; exact H) | exact H
            have Ny122 := Aside0.mk hy122
            clear hy122
            have H' := Aside0.mk H
            clear H
            obtain ⟨Ao9, co9, eo9⟩ := Kd.R_slice HO_5.out
            subst eo9
            go_wp2_with (first | ((with_reducible refine gate_builtin (b := .append) (xs := #[.tmp 13, .tmp 14]) rfl ?_); at_builtin; refine Kd.R_append (Kd.int .u8) (w0 := w) w.heap.size rfl (.tmp 13) (.tmp 14) 28 5 (.int .u8 0) 1 rfl Tryd.underlying28 info5 rfl (by decide) (by omega) (.slice Ao9 x5_1.length co9) x5_1 0 [.int .u8 0] (fun _ => True) (fun _ => False) rfl rfl ?aP (fun _ hk => hk.elim) ?aF ?aO ?aB ?aS ?aL ?_; (case aP => exact rfl); (case aB => exact (by repeat (first | (with_reducible first | exact HB.out | apply below_alloc | apply pw_below_drewN | apply below_drew1) | exact HB.out))); (case aF => exact (fun _ _ => trivial)); (case aO => exact (by (with_reducible repeat (first | apply Kd.R_alloc | apply Kd.R_drewN | apply Kd.R_drew)); exact HO_5.out)); (case aS => exact (below_size (by repeat (first | (with_reducible first | exact HB.out | apply below_alloc | apply pw_below_drewN | apply below_drew1) | exact HB.out)))); (case aL => have := LMc8.out; omega); intro v123 w10 ho hb hg hat; rw [← Ny122.out] at ho; have n0_ := Aside0.mk (hb); have n1_ := Aside0.mk (ho); clear HB; clear HO_5; have HB := n0_; have HO124 := n1_; clear n0_ n1_; clear ho hb hg hat))
            go_roundg k1
            case measure => have := HK1.out; omega
            case rel => exact ⟨(y122), H', ⟨by have := HK1.out; omega⟩, ⟨by (with_reducible repeat (first | apply Kd.R_alloc | apply Kd.R_drewN | apply Kd.R_drew)); exact HO124.out⟩, ⟨by repeat (first | (with_reducible first | exact HB.out | apply below_alloc | apply pw_below_drewN | apply below_drew1) | exact HB.out)⟩⟩
          · rw [if_neg c8] at H
            exact absurd H (by simp)
        · rw [if_neg c7] at H
          have c7b0 : decide ((x5_1.length : Int) < a1) = false := decide_eq_false c7
          clear c7
          obtain rfl := Option.some.inj H
          obtain ⟨Ao11, co11, eo11⟩ := Kd.R_slice HO_5.out
          subst eo11
          go_wp2
          go_ret
          exact ⟨_, by first | rfl | (simp [errW_none, errW_some] <;> rfl) | (simp [*, errW_none, errW_some] <;> rfl), by (with_reducible repeat (first | apply Kd.R_alloc | apply Kd.R_drewN | apply Kd.R_drew)); exact HO_5.out, by repeat (first | (with_reducible first | exact HB.out | apply below_alloc | apply pw_below_drewN | apply below_drew1) | exact HB.out)⟩
  · rw [if_neg c3] at H
    exact absurd H (by simp)

/-! ### spec_l02Table: function 94 -/
def spec_l02Table.l0 : Nat → Int → Int → Option (Int)
  | 0, _, _ => none
  | k + 1, x0, x3 => if x3 < 8 then (if (Int.tmod x0 2) = 1 then (spec_l02Table.l0 k (Go.bits .xor .u32 ((Int.tdiv x0 2) % 4294967296) 3988292384) (wrap64 (x3 + 1))) else (spec_l02Table.l0 k ((Int.tdiv x0 2) % 4294967296) (wrap64 (x3 + 1)))) else (some x0)
def spec_l02Table.f (k : Nat) (a0 : Int) : Option (Int) := spec_l02Table.l0 k a0 0
theorem spec_l02Table.mono_l : ∀ k, (∀ y0 y1, LeO (spec_l02Table.l0 k y0 y1) (spec_l02Table.l0 (k + 1) y0 y1))
  | 0 => fun _ _ r h => by simp [spec_l02Table.l0] at h
  | k + 1 => by
    have ih0 := spec_l02Table.mono_l k
    · intro y0 y1
      unfold spec_l02Table.l0
      repeat' first
      | (with_reducible exact ih0 _ _)
      | (with_reducible exact LeO.refl _)
      | (with_reducible exact LeO.none _)
      | (with_reducible refine LeO.ite ?_ ?_)
      | (with_reducible refine LeO.bind ?_ (fun _ => ?_))
      | exact ih0 _ _
      | exact LeO.none _
      | refine LeO.ite ?_ ?_
      | refine LeO.bind ?_ (fun _ => ?_)
theorem spec_l02Table.mono : ∀ a0 k, LeO (spec_l02Table.f k a0) (spec_l02Table.f (k + 1) a0) := by
  intro a0 k
  have ih0 := spec_l02Table.mono_l k
  unfold spec_l02Table.f
  repeat' first
      | (with_reducible exact ih0 _ _)
      | (with_reducible exact LeO.refl _)
      | (with_reducible exact LeO.none _)
      | (with_reducible refine LeO.ite ?_ ?_)
      | (with_reducible refine LeO.bind ?_ (fun _ => ?_))
      | exact ih0 _ _
      | exact LeO.none _
      | refine LeO.ite ?_ ?_
      | refine LeO.bind ?_ (fun _ => ?_)
set_option maxHeartbeats 8000000 in
set_option maxRecDepth 100000 in
theorem spec_l02Table.calls (k : Nat) (a0 : Int) (r : Int) (w : World) (h : spec_l02Table.f k a0 = some r) :
    Calls Tryd.prog 94 #[.int .u32 a0] w fun e w' => e = .returned (.int .u32 r) ∧ Drawn0 w w' := by
  have H : (spec_l02Table.l0 k a0 0) = some r := h
  clear h
  have H' := Aside0.mk H
  clear H
  go_enter Tryd.func94, Tryd.ntmps94
  go_wp2
  go_loopg [0, 3] k (fun kq v0 v3 w' => ∃ (x0_1 : Int) (x3_1 : Int), v0 = .int .u32 x0_1 ∧ v3 = .int .i64 x3_1 ∧ Aside0 (spec_l02Table.l0 kq x0_1 x3_1 = some r) ∧ Aside0 (kq ≤ k) ∧ Drawn0 w w')
  case atStart => exact ⟨(a0), (0), (by first | rfl | (simp; done) | (simp [*]; done)), (by first | rfl | (simp; done) | (simp [*]; done)), H', ⟨Nat.le_refl _⟩, by repeat (first | exact Drawn0.refl _ | apply Drawn0.step)⟩
  case round =>
    clear H'
    obtain ⟨x0_1, x3_1, rfl, rfl, HA, HK1, ⟨m1, rfl⟩⟩ := hrel
    cases gk with
    | zero => exact absurd HA.out (by simp [spec_l02Table.l0])
    | succ k1 =>
      have H := HA.out
      clear HA
      simp only [spec_l02Table.l0] at H
      by_cases c2 : x3_1 < 8
      · rw [if_pos c2] at H
        have c2b0 : decide (x3_1 < 8) = true := decide_eq_true c2
        clear c2
        by_cases c3 : (Int.tmod x0_1 2) = 1
        · rw [if_pos c3] at H
          have c3b0 : ((Int.tmod x0_1 2) == 1) = true := beq_iff_eq.mpr c3
          have c3b1 : ((Int.tmod x0_1 2) != 1) = false := bne_eq_false_iff_eq.mpr c3
          clear c3
          have H' := Aside0.mk H
          clear H
          go_wp2
          go_roundg k1
          case measure => have := HK1.out; omega
          case rel => exact ⟨(Go.bits .xor .u32 ((Int.tdiv x0_1 2) % 4294967296) 3988292384), (wrap64 (x3_1 + 1)), (by first | rfl | (simp; done) | (simp [*]; done)), (by first | rfl | (simp; done) | (simp [*]; done)), H', ⟨by have := HK1.out; omega⟩, by repeat (first | exact Drawn0.refl _ | apply Drawn0.step)⟩
        · rw [if_neg c3] at H
          have c3b0 : ((Int.tmod x0_1 2) == 1) = false := beq_eq_false_iff_ne.mpr c3
          have c3b1 : ((Int.tmod x0_1 2) != 1) = true := bne_iff_ne.mpr c3
          have H' := Aside0.mk H
          clear H
          go_wp2
          go_roundg k1
          case measure => have := HK1.out; omega
          case rel => exact ⟨((Int.tdiv x0_1 2) % 4294967296), (wrap64 (x3_1 + 1)), (by first | rfl | (simp; done) | (simp [*]; done)), (by first | rfl | (simp; done) | (simp [*]; done)), H', ⟨by have := HK1.out; omega⟩, by repeat (first | exact Drawn0.refl _ | apply Drawn0.step)⟩
      · rw [if_neg c2] at H
        have c2b0 : decide (x3_1 < 8) = false := decide_eq_false c2
        clear c2
        obtain rfl := Option.some.inj H
        go_wp2
        go_ret
        exact ⟨by first | rfl | (simp; done) | (simp [*]; done), by repeat (first | exact Drawn0.refl _ | apply Drawn0.step)⟩

/-! ### spec_Crc32: function 74 -/
def spec_Crc32.l0 : Nat → Int → List Int → Int → Int → Option (Int)
  | 0, _, _, _, _ => none
  | k + 1, x3, x6, x7, x8 => if x8 < x7 then (if 0 ≤ x8 then (if x8 < (x6.length : Int) then ((spec_l02Table.f k (Int.tmod (Go.bits .xor .u32 x3 ((rd x6 x8) % 4294967296)) 256)).bind fun t126 => (spec_Crc32.l0 k (Go.bits .xor .u32 ((Int.tdiv x3 256) % 4294967296) t126) x6 x7 (wrap64 (x8 + 1)))) else (none)) else (none)) else (some (Go.bits .xor .u32 x3 4294967295))
def spec_Crc32.f (k : Nat) (l0 : List Int) : Option (Int) := spec_Crc32.l0 k 4294967295 l0 (l0.length : Int) 0
theorem spec_Crc32.mono_l : ∀ k, (∀ y0 y1 y2 y3, LeO (spec_Crc32.l0 k y0 y1 y2 y3) (spec_Crc32.l0 (k + 1) y0 y1 y2 y3))
  | 0 => fun _ _ _ _ r h => by simp [spec_Crc32.l0] at h
  | k + 1 => by
    have ih0 := spec_Crc32.mono_l k
    · intro y0 y1 y2 y3
      unfold spec_Crc32.l0
      repeat' first
      | (with_reducible exact ih0 _ _ _ _)
      | (with_reducible exact spec_l02Table.mono _ _)
      | (with_reducible exact LeO.refl _)
      | (with_reducible exact LeO.none _)
      | (with_reducible refine LeO.ite ?_ ?_)
      | (with_reducible refine LeO.bind ?_ (fun _ => ?_))
      | exact ih0 _ _ _ _
      | exact spec_l02Table.mono _ _
      | exact LeO.none _
      | refine LeO.ite ?_ ?_
      | refine LeO.bind ?_ (fun _ => ?_)
theorem spec_Crc32.mono : ∀ a0 k, LeO (spec_Crc32.f k a0) (spec_Crc32.f (k + 1) a0) := by
  intro a0 k
  have ih0 := spec_Crc32.mono_l k
  unfold spec_Crc32.f
  repeat' first
      | (with_reducible exact ih0 _ _ _ _)
      | (with_reducible exact spec_l02Table.mono _ _)
      | (with_reducible exact LeO.refl _)
      | (with_reducible exact LeO.none _)
      | (with_reducible refine LeO.ite ?_ ?_)
      | (with_reducible refine LeO.bind ?_ (fun _ => ?_))
      | exact ih0 _ _ _ _
      | exact spec_l02Table.mono _ _
      | exact LeO.none _
      | refine LeO.ite ?_ ?_
      | refine LeO.bind ?_ (fun _ => ?_)
set_option maxHeartbeats 8000000 in
set_option maxRecDepth 100000 in
theorem spec_Crc32.calls (k : Nat) (A0 : Option Addr) (c0 : Nat) (l0 : List Int) (r : Int) (w : World) (hr0 : Kd.C (Kd.int .u8) w A0 l0.length l0) (hc0 : l0.length ≤ c0) (h : spec_Crc32.f k l0 = some r) :
    Calls Tryd.prog 74 #[.slice A0 l0.length c0] w fun e w' => e = .returned (.int .u32 r) ∧ Drawn0 w w' := by
  have HR0 := Aside0.mk hr0
  have HC0 := Aside0.mk hc0
  clear hr0 hc0
  have H : (spec_Crc32.l0 k 4294967295 l0 (l0.length : Int) 0) = some r := h
  clear h
  have H' := Aside0.mk H
  clear H
  go_enter Tryd.func74, Tryd.ntmps74
  go_wp2
  go_loopg [3, 8] k (fun kq v3 v8 w' => ∃ (x3_1 : Int) (x8_1 : Int), v3 = .int .u32 x3_1 ∧ v8 = .int .i64 x8_1 ∧ Aside0 (spec_Crc32.l0 kq x3_1 l0 (l0.length : Int) x8_1 = some r) ∧ Aside0 (kq ≤ k) ∧ Drawn0 w w')
  case atStart => exact ⟨(4294967295), (0), (by first | rfl | (simp; done) | (simp [*]; done)), (by first | rfl | (simp; done) | (simp [*]; done)), H', ⟨Nat.le_refl _⟩, by repeat (first | exact Drawn0.refl _ | apply Drawn0.step)⟩
  case round =>
    clear H'
    obtain ⟨x3_1, x8_1, rfl, rfl, HA, HK1, ⟨m1, rfl⟩⟩ := hrel
    cases gk with
    | zero => exact absurd HA.out (by simp [spec_Crc32.l0])
    | succ k1 =>
      have H := HA.out
      clear HA
      simp only [spec_Crc32.l0] at H
      by_cases c2 : x8_1 < (l0.length : Int)
      · rw [if_pos c2] at H
        have c2b0 : decide (x8_1 < (l0.length : Int)) = true := decide_eq_true c2
        clear c2
        by_cases c3 : 0 ≤ x8_1
        · rw [if_pos c3] at H
          have c3b0 : decide (0 ≤ x8_1) = true := decide_eq_true c3
          clear c3
          by_cases c4 : x8_1 < (l0.length : Int)
          · rw [if_pos c4] at H
            have c4b0 : decide (x8_1 < (l0.length : Int)) = true := decide_eq_true c4
            clear c4
            replace H := Option.bind_eq_some_iff.mp H
            obtain ⟨t126, A50, H⟩ := H
            replace H : (spec_Crc32.l0 k1 (Go.bits .xor .u32 ((Int.tdiv x3_1 256) % 4294967296) t126) l0 (l0.length : Int) (wrap64 (x8_1 + 1))) = some r := H
            have A5 := Aside0.mk A50
            clear A50
            have H' := Aside0.mk H
            clear H
            have p125 : 0 ≤ (x8_1 : Int) := of_decide_eq_true (by first | (with_reducible assumption) | assumption)
            have q125 : x8_1 < (l0.length : Int) := of_decide_eq_true (by first | (with_reducible assumption) | assumption)
            obtain ⟨ad125, e125, hx125_0⟩ := Kd.at_int HR0.out x8_1 p125 q125
            cases e125
            replace p125 := eq_true p125
            replace q125 := eq_true q125
            go_wp2_with (first | ((with_reducible refine gate_callee (f := 94) rfl ?_); refine goesL_ (some 19) rfl rfl Tryd.func94 (by kernel_rfl) rfl #[.int .u32 (Int.tmod (Go.bits .xor .u32 x3_1 ((rd l0 x8_1) % 4294967296)) 256)] rfl (by (try simp only [List.map_toArray, List.map_cons, List.map_nil]); first | done | rfl | (simp only [List.length_drop, List.length_take]; rfl)) ?_; (with_reducible refine (spec_l02Table.calls k1 (Int.tmod (Go.bits .xor .u32 x3_1 ((rd l0 x8_1) % 4294967296)) 256) t126 _ A5.out).mono ?_); rintro e w' ⟨rfl, ⟨nd, rfl⟩⟩; refine ⟨_, rfl, ?_⟩))
            go_roundg k1
            case measure => have := HK1.out; omega
            case rel => exact ⟨(Go.bits .xor .u32 ((Int.tdiv x3_1 256) % 4294967296) t126), (wrap64 (x8_1 + 1)), (by first | rfl | (simp; done) | (simp [*]; done)), (by first | rfl | (simp; done) | (simp [*]; done)), H', ⟨by have := HK1.out; omega⟩, by repeat (first | exact Drawn0.refl _ | apply Drawn0.step)⟩
          · rw [if_neg c4] at H
            exact absurd H (by simp)
        · rw [if_neg c3] at H
          exact absurd H (by simp)
      · rw [if_neg c2] at H
        have c2b0 : decide (x8_1 < (l0.length : Int)) = false := decide_eq_false c2
        clear c2
        obtain rfl := Option.some.inj H
        go_wp2
        go_ret
        exact ⟨by first | rfl | (simp; done) | (simp [*]; done), by repeat (first | exact Drawn0.refl _ | apply Drawn0.step)⟩

/-! ### spec_l02Sealed: function 44 -/
def spec_l02Sealed.f (k : Nat) (l0 : List Int) : Option (List Int) := (spec_l02Fill.f k l0 508).bind fun t127 => ((spec_Crc32.f k t127).bind fun t130 => ((spec_l02Put.f k (wrap64 (t130)) 4).bind fun t131 => (if t127.length + t131.length < 140737488355328 then (some (t127 ++ t131)) else (none))))
theorem spec_l02Sealed.mono : ∀ a0 k, LeO (spec_l02Sealed.f k a0) (spec_l02Sealed.f (k + 1) a0) := by
  intro a0 k
  unfold spec_l02Sealed.f
  repeat' first
      | (with_reducible exact spec_Crc32.mono _ _)
      | (with_reducible exact spec_l02Fill.mono _ _ _)
      | (with_reducible exact spec_l02Put.mono _ _ _)
      | (with_reducible exact LeO.refl _)
      | (with_reducible exact LeO.none _)
      | (with_reducible refine LeO.ite ?_ ?_)
      | (with_reducible refine LeO.bind ?_ (fun _ => ?_))
      | exact spec_Crc32.mono _ _
      | exact spec_l02Fill.mono _ _ _
      | exact spec_l02Put.mono _ _ _
      | exact LeO.none _
      | refine LeO.ite ?_ ?_
      | refine LeO.bind ?_ (fun _ => ?_)
set_option maxHeartbeats 8000000 in
set_option maxRecDepth 100000 in
theorem spec_l02Sealed.calls (k : Nat) (A0 : Option Addr) (c0 : Nat) (l0 : List Int) (r : List Int) (w : World) (hr0 : Kd.C (Kd.int .u8) w A0 l0.length l0) (hc0 : l0.length ≤ c0) (h : spec_l02Sealed.f k l0 = some r) :
    Calls Tryd.prog 44 #[.slice A0 l0.length c0] w fun e w' => ∃ v0_ : Value, e = .returned (v0_) ∧ Kd.R (Kd.int .u8) 5 w' w.heap.size (fun _ => True) v0_ r ∧ Below w.heap.size w w' := by
  have HR0 := Aside0.mk hr0
  have HC0 := Aside0.mk hc0
  clear hr0 hc0
  have HB := Aside0.mk (Below.refl w.heap.size w)
  have H : ((spec_l02Fill.f k l0 508).bind fun t127 => ((spec_Crc32.f k t127).bind fun t130 => ((spec_l02Put.f k (wrap64 (t130)) 4).bind fun t131 => (if t127.length + t131.length < 140737488355328 then (some (t127 ++ t131)) else (none))))) = some r := h
  clear h
  replace H := Option.bind_eq_some_iff.mp H
  obtain ⟨t127, A20, H⟩ := H
  replace H : ((spec_Crc32.f k t127).bind fun t130 => ((spec_l02Put.f k (wrap64 (t130)) 4).bind fun t131 => (if t127.length + t131.length < 140737488355328 then (some (t127 ++ t131)) else (none)))) = some r := H
  have A2 := Aside0.mk A20
  clear A20
  replace H := Option.bind_eq_some_iff.mp H
  obtain ⟨t130, A30, H⟩ := H
  replace H : ((spec_l02Put.f k (wrap64 (t130)) 4).bind fun t131 => (if t127.length + t131.length < 140737488355328 then (some (t127 ++ t131)) else (none))) = some r := H
  have A3 := Aside0.mk A30
  clear A30
  replace H := Option.bind_eq_some_iff.mp H
  obtain ⟨t131, A40, H⟩ := H
  replace H : (if t127.length + t131.length < 140737488355328 then (some (t127 ++ t131)) else (none)) = some r := H
  have A4 := Aside0.mk A40
  clear A40
  by_cases c5 : t127.length + t131.length < 140737488355328
  · rw [if_pos c5] at H
    have LMc5 := Aside0.mk c5
    clear c5
    obtain ⟨y134, hy134⟩ : ∃ y_ : List Int, y_ = (t127 ++ t131) := ⟨_, rfl⟩
    replace H : (some y134) = some r := by first | (rw [hy134]; with_reducible exact H) | (have H2_ := (Option.bind_some _ _).symm.trans H; rw [hy134]; with_reducible exact H2_) | (have H2_ := (Option.bind_some _ _).symm.trans H; with_reducible exact H2_) | with_reducible exact H | (rw [hy134]; exact H) | exact H
    have Ny134 := Aside0.mk hy134
    clear hy134
    obtain rfl := Option.some.inj H
    go_enter Tryd.func44, Tryd.ntmps44
    go_wp2_with (first | ((with_reducible refine gate_callee (f := 43) rfl ?_); refine goesL_ (some 5) rfl rfl Tryd.func43 (by kernel_rfl) rfl #[.slice A0 l0.length c0, .int .i64 508] rfl (by (try simp only [List.map_toArray, List.map_cons, List.map_nil]); first | done | rfl | (simp only [List.length_drop, List.length_take]; rfl)) ?_; (with_reducible refine (spec_l02Fill.calls k _ _ l0 508 t127 _ ?side1 ?side2 A2.out).mono ?_); (case side1 => repeat (first | exact HR0.out | (with_reducible refine Kd.C_alloc ?_ _) | (with_reducible refine Kd.C_drewN ?_ _) | (with_reducible refine Kd.C_drew ?_))); (case side2 => exact HC0.out); rintro e w6 ⟨v128, rfl, ho0, hb⟩; refine ⟨_, rfl, ?_⟩; have n0_ := Aside0.mk (Kd.R_lower ho0 (below_size (by repeat (first | (with_reducible first | exact HB.out | apply below_alloc | apply pw_below_drewN | apply below_drew1) | exact HB.out)))); have n1_ := Aside0.mk (below_step (by repeat (first | (with_reducible first | exact HB.out | apply below_alloc | apply pw_below_drewN | apply below_drew1) | exact HB.out)) hb); clear HB; have HO129 := n0_; have HB := n1_; clear n0_ n1_; (try clear hb); (try clear hb2); (try clear hk); (try clear hi); (try clear ho0); obtain ⟨Ao7, co7, eo7⟩ := Kd.R_slice HO129.out; subst eo7) | ((with_reducible refine gate_callee (f := 74) rfl ?_); refine goesL_ (some 8) rfl rfl Tryd.func74 (by kernel_rfl) rfl #[.slice Ao7 t127.length co7] rfl (by (try simp only [List.map_toArray, List.map_cons, List.map_nil]); first | done | rfl | (simp only [List.length_drop, List.length_take]; rfl)) ?_; (with_reducible refine (spec_Crc32.calls k _ _ t127 t130 _ ?side1 ?side2 A3.out).mono ?_); (case side1 => repeat (first | exact (Kd.R_reads' HO129.out).2.2 | (with_reducible refine Kd.C_alloc ?_ _) | (with_reducible refine Kd.C_drewN ?_ _) | (with_reducible refine Kd.C_drew ?_))); (case side2 => exact (Kd.R_reads' HO129.out).2.1); rintro e w' ⟨rfl, ⟨nd, rfl⟩⟩; refine ⟨_, rfl, ?_⟩) | ((with_reducible refine gate_callee (f := 42) rfl ?_); refine goesL_ (some 10) rfl rfl Tryd.func42 (by kernel_rfl) rfl #[.int .i64 (wrap64 (t130)), .int .i64 4] rfl (by (try simp only [List.map_toArray, List.map_cons, List.map_nil]); first | done | rfl | (simp only [List.length_drop, List.length_take]; rfl)) ?_; (with_reducible refine (spec_l02Put.calls k (wrap64 (t130)) 4 t131 _ A4.out).mono ?_); rintro e w8 ⟨v132, rfl, ho0, hb⟩; refine ⟨_, rfl, ?_⟩; have n0_ := Aside0.mk (Kd.R_elder' (by (with_reducible repeat (first | apply Kd.R_alloc | apply Kd.R_drewN | apply Kd.R_drew)); exact HO129.out) (Kd.R_base ho0) hb); have n1_ := Aside0.mk (Kd.R_lower (Kd.R_new' ho0 (Kd.R_lt (by (with_reducible repeat (first | apply Kd.R_alloc | apply Kd.R_drewN | apply Kd.R_drew)); exact HO129.out))) (below_size (by repeat (first | (with_reducible first | exact HB.out | apply below_alloc | apply pw_below_drewN | apply below_drew1) | exact HB.out)))); have n2_ := Aside0.mk (below_step (by repeat (first | (with_reducible first | exact HB.out | apply below_alloc | apply pw_below_drewN | apply below_drew1) | exact HB.out)) hb); clear HO129; clear HB; have HO129 := n0_; have HO133 := n1_; have HB := n2_; clear n0_ n1_ n2_; (try clear hb); (try clear hb2); (try clear hk); (try clear hi); (try clear ho0); obtain ⟨Ao10, co10, eo10⟩ := Kd.R_slice HO133.out; subst eo10) | ((with_reducible refine gate_builtin (b := .append) (xs := #[.tmp 6, .tmp 10]) rfl ?_); at_builtin; refine Kd.R_append_rows (Kd.int .u8) (w0 := w) w.heap.size rfl (.tmp 6) (.tmp 10) 28 5 (.int .u8 0) 1 rfl Tryd.underlying28 info5 rfl (by decide) (by omega) (.slice Ao7 t127.length co7) t127 t131 _ _ _ (fun k_ => some k_ ≠ (.slice Ao10 t131.length co10 : Value).ownBlock) (fun _ => False) rfl rfl ?aO ?aR (fun _ _ h => h) (fun _ h => h.elim) ?aF ?aB ?aS ?aL ?_; (case aR => repeat (first | exact (Kd.R_reads' HO133.out).2.2 | (with_reducible refine Kd.C_alloc ?_ _) | (with_reducible refine Kd.C_drewN ?_ _) | (with_reducible refine Kd.C_drew ?_))); (case aB => exact (by repeat (first | (with_reducible first | exact HB.out | apply below_alloc | apply pw_below_drewN | apply below_drew1) | exact HB.out))); (case aF => exact (fun k_ hk => Kd.fresh' (Kd.R_lt (by (with_reducible repeat (first | apply Kd.R_alloc | apply Kd.R_drewN | apply Kd.R_drew)); exact HO133.out)) k_ hk)); (case aO => exact (by (with_reducible repeat (first | apply Kd.R_alloc | apply Kd.R_drewN | apply Kd.R_drew)); exact Kd.R_mono HO129.out (fun _ hk => hk.2))); (case aS => exact (below_size (by repeat (first | (with_reducible first | exact HB.out | apply below_alloc | apply pw_below_drewN | apply below_drew1) | exact HB.out)))); (case aL => have := LMc5.out; omega); intro v135 w9 ho hb hg hat; rw [← Ny134.out] at ho; have n0_ := Aside0.mk (Kd.R_after (ok := (fun _ => True)) (by (with_reducible repeat (first | apply Kd.R_alloc | apply Kd.R_drewN | apply Kd.R_drew)); exact HO133.out) hg hat); have n1_ := Aside0.mk (hb); have n2_ := Aside0.mk (ho); clear HO133; clear HB; clear HO129; have HO133 := n0_; have HB := n1_; have HO136 := n2_; clear n0_ n1_ n2_; clear ho hb hg hat))
    go_ret
    exact ⟨_, by first | rfl | (simp [errW_none, errW_some] <;> rfl) | (simp [*, errW_none, errW_some] <;> rfl), by (with_reducible repeat (first | apply Kd.R_alloc | apply Kd.R_drewN | apply Kd.R_drew)); exact Kd.R_mono HO136.out (fun _ hk => trivial), by repeat (first | (with_reducible first | exact HB.out | apply below_alloc | apply pw_below_drewN | apply below_drew1) | exact HB.out)⟩
  · rw [if_neg c5] at H
    exact absurd H (by simp)

open Go.Proofs.YtkghgjehjchajaaDoorW Go.Proofs.YtkghgjehjchajaaDoorW.PrintHand Go.Proofs.YtkghgjehjchajaaDoorW.PrintHx
/-! ### spec_l02RootBytes: function 45 -/
open Go.Proofs.YtkghgjehjchajaaDoorW.PrintLe
theorem l02Put_l0 (n : Nat) (hn : n ≤ 4096) : ∀ (d i k : Nat) (v : Int) (x5 : List Int), i + d = n → d < k → 0 ≤ v → v ≤ 9223372036854775807 → x5.length ≤ 4096 + i → spec_l02Put.l0 k v (n : Int) x5 (i : Int) = some (x5 ++ leB v d)
  | 0, i, k, v, x5, h1, h2, h3, h4, h5 => by
    obtain ⟨k, rfl⟩ := sucK h2
    simp only [spec_l02Put.l0]
    rw [if_neg (by omega)]
    simp [leB]
  | d + 1, i, k, v, x5, h1, h2, h3, h4, h5 => by
    obtain ⟨k, rfl⟩ := sucK h2
    simp only [spec_l02Put.l0]
    rw [if_pos (by omega), if_pos (by omega), w64n (by omega), Int.tdiv_eq_ediv_of_nonneg h3, Int.tmod_eq_emod_of_nonneg h3, w64 (by omega) (by omega), l02Put_l0 n hn d (i + 1) k _ _ (by omega) (by omega) (by omega) (by omega) (by simp; omega), List.append_assoc]
    simp only [leB, List.cons_append, List.nil_append]
    rw [Int.emod_emod_of_dvd _ (by decide)]
theorem l02Put_f (v : Int) (n k : Nat) (hn : n ≤ 4096) (h0 : 0 ≤ v) (h1 : v ≤ 9223372036854775807) (hk : n < k) : spec_l02Put.f k v (n : Int) = some (leB v n) := by
  unfold spec_l02Put.f
  have h := l02Put_l0 n hn n 0 k v [] (by omega) hk h0 h1 (by simp)
  rw [List.nil_append] at h
  exact h

def spec_l02RootBytes.f (a0 : List Int) : Option (List Int) := if rootGood a0 = true then some (rootBytes a0) else none
set_option maxHeartbeats 8000000 in
set_option maxRecDepth 100000 in
theorem spec_l02RootBytes.calls (a0 : List Int) (n0 : a0.length = 15) (r : List Int) (w : World) (h : spec_l02RootBytes.f a0 = some r) :
    Calls Tryd.prog 45 #[.agg (nums .i64 a0).toArray] w fun e w' => ∃ v0_ : Value, e = .returned (v0_) ∧ Kd.R (Kd.int .u8) 5 w' w.heap.size (fun _ => True) v0_ r ∧ Below w.heap.size w w' := by
  unfold spec_l02RootBytes.f at h
  by_cases hgood : rootGood a0 = true
  case neg => rw [if_neg hgood] at h; cases h
  rw [if_pos hgood] at h
  obtain rfl := Option.some.inj h
  have N_ := Aside0.mk n0
  have HG := Aside0.mk hgood
  clear n0 h hgood
  obtain ⟨s, hs⟩ : ∃ s, s = a0.getD 0 0 := ⟨_, rfl⟩
  have hs1 : 0 ≤ s ∧ s ≤ 262144 := by rw [hs]; exact rootGood_size HG.out
  have HS := Aside0.mk hs
  have HP8 := Aside0.mk (show spec_l02Put.f 20 s 8 = some (leB s 8) from l02Put_f s 8 20 (by decide) hs1.1 (by omega) (by decide))
  clear hs hs1
  obtain ⟨xs, hxs⟩ : ∃ xs, xs = seg a0 1 14 := ⟨_, rfl⟩
  have HP := Aside0.mk (show spec_l02Pointers.f a0 = some xs by rw [hxs]; exact if_pos N_.out)
  have HXL := Aside0.mk (show xs.length = 14 by rw [hxs]; exact part_len (n := 15) N_.out (by decide))
  have HXS := Aside0.mk hxs
  have HXR := Aside0.mk (show ∀ j, j < 14 → 0 ≤ xs.getD j 0 ∧ xs.getD j 0 < 2048 by rw [hxs]; exact fun j hj => rootGood_ptr HG.out j hj)
  have info5_ : (Tryd.prog.info? 5).map (fun i => (i.zero, i.size, i.bytes)) = some (some (.int .u8 0), 1, 1) := by kernel_rfl
  clear hxs
  have HB0 : Aside0 (Below w.heap.size w w) := ⟨Below.refl _ _⟩
  obtain ⟨s0, Sz0⟩ : ∃ s0, Aside0 (w.heap.size = s0) := ⟨_, ⟨rfl⟩⟩
  have hw0 : w.heap.size ≤ s0 := Nat.le_of_eq Sz0.out
  have hw1 : s0 ≤ w.heap.size := Nat.le_of_eq Sz0.out.symm
  go_enter Tryd.func45, Tryd.ntmps45
  go_wp2_with (first | ((with_reducible refine gate_dst (N := 1) rfl ?_); refine hx_box rfl 1 rfl 31 (.tmp 0) rfl Sz0 (.agg (nums .i64 a0).toArray) (nums .i64 a0).toArray rfl rfl ?_; intro w1 s1 L1 Sz1 b1 g_; have H0 := Aside0.mk g_; have HB1 := Aside0.mk (below_then HB0.out HB0.out.size b1); clear g_ HB0 b1) | ((with_reducible refine gate_dst (N := 7) rfl ?_); refine hx_loadf rfl 3 (.tmp 6) rfl s0 0 rfl Tryd.underlying3 rfl H0.out (lt_len (n := 15) N_.out (by decide)) ?_; rw [← HS.out]) | ((with_reducible refine gate_dst (N := 8) rfl ?_); refine goesL_ (some 8) rfl rfl Tryd.func42 (by kernel_rfl) rfl #[.int .i64 s, .int .i64 8] rfl (by (try simp only [List.map_toArray, List.map_cons, List.map_nil]); first | done | rfl) ?_; refine (spec_l02Put.calls _ _ _ _ _ HP8.out).mono ?_; rintro e_ w2 ⟨v8, rfl, R_, b_⟩; refine ⟨_, rfl, ?_⟩; obtain ⟨s2, L2, Sz2⟩ := size_letter Sz1 (kept_below b_); have O2 := own_btw R_ Sz1.out Sz2 HB1.out.size; have HB2 := Aside0.mk (below_then HB1.out HB1.out.size b_); have H2 := Aside0.mk (blk_below H0.out b_); clear R_ b_ HB1 H0) | ((with_reducible refine gate_dst (N := 9) rfl ?_); refine hx_load rfl 31 (.tmp 1) rfl s0 15 rfl Tryd.underlying31 rfl (by kernel_rfl) H2.out (nums_size _ _ _ N_.out) ?_) | ((with_reducible refine gate_dst (N := 10) rfl ?_); refine goesL_ (some 10) rfl rfl Tryd.func72 (by kernel_rfl) rfl #[.agg (nums .i64 a0).toArray] rfl (by (try simp only [List.map_toArray, List.map_cons, List.map_nil]); first | done | rfl) ?_; refine (spec_l02Pointers.calls a0 N_.out xs _ HP.out).mono ?_; rintro e_ w3 ⟨v0_, rfl, R_, b_⟩; obtain ⟨A10, c10, rfl⟩ := Kd.R_slice R_; refine ⟨_, rfl, ?_⟩; obtain ⟨s3, L3, Sz3⟩ := size_letter Sz2 (kept_below b_); have OP := own_btw R_ Sz2.out Sz3 HB2.out.size; have HB3 := Aside0.mk (below_then HB2.out HB2.out.size b_); have OO := Aside0.mk (Kd.R_mono (Kd.R_below O2.out b_) (fun k hk h2 => by have h1_ := hk.2; have h3_ := h2.1; omega : ∀ k, Btw s1 s2 k → ¬ Btw s2 s3 k)); have HS3 : s3 ≤ w3.heap.size := Nat.le_of_eq Sz3.out.symm; clear R_ b_ HB2 H2 O2))
  (try simp only [Act.put, List.setIfInBounds_toArray, List.set_cons_succ, List.set_cons_zero])
  go_loopw [3, 12] (fun v3 v12 wr => ∃ (j : Nat) (u : Value), u = v3 ∧ v12 = .int .i64 (j : Int) ∧ Aside0 (j ≤ 14) ∧ Aside0 (Kd.R (Kd.int .u8) 5 wr w.heap.size (fun k => ¬ Btw s2 s3 k) v3 (leB s 8 ++ flat4 (xs.take j))) ∧ Aside0 (Kd.R (Kd.int .i64) 3 wr w.heap.size (Btw s2 s3) (.slice A10 xs.length c10) xs) ∧ Aside0 (Below w.heap.size w wr) ∧ s3 ≤ wr.heap.size) (fun _ v12 _ => 14 - (intOf v12).toNat)
  case atStart => exact ⟨0, _, rfl, rfl, ⟨by omega⟩, ⟨by rw [List.take_zero, flat4, List.append_nil]; exact OO.out⟩, OP, HB3, HS3⟩
  case round =>
    clear OO OP HB3 HS3
    obtain ⟨j, v3, rfl, rfl, hj, OO0, OP, HB, HS3⟩ := hrel
    by_cases c9 : j < 14
    · have c9b0 : decide ((j : Int) < (xs.length : Int)) = true := decide_eq_true (by rw [HXL.out]; omega)
      have c9b1 : decide (j < xs.length) = true := decide_eq_true (by rw [HXL.out]; omega)
      have p112 : 0 ≤ (j : Int) := by omega
      have q112 : (j : Int) < (xs.length : Int) := by rw [HXL.out]; omega
      obtain ⟨ad112, e112, hx112⟩ := Kd.at_int (Kd.R_reads' OP.out).2.2 (j : Int) p112 q112
      cases e112
      rw [Int.toNat_natCast] at hx112
      replace p112 := eq_true p112
      replace q112 := eq_true q112
      have q113 : (j < xs.length) = True := eq_true (by rw [HXL.out]; omega)
      obtain ⟨p, hp⟩ : ∃ p, p = rd xs (j : Int) := ⟨_, rfl⟩
      rw [← hp] at hx112
      have HPV := Aside0.mk (show p = xs.getD j 0 by rw [hp, rd, Int.toNat_natCast])
      have hpr : 0 ≤ p ∧ p < 2048 := by rw [HPV.out]; exact HXR.out j c9
      have HP4 := Aside0.mk (show spec_l02Put.f 20 p 4 = some (leB p 4) from l02Put_f p 4 20 (by decide) hpr.1 (by omega) (by decide))
      have C9 := Aside0.mk c9
      obtain ⟨bs, hbs⟩ : ∃ bs, bs = leB s 8 ++ flat4 (xs.take j) := ⟨_, rfl⟩
      have oo := OO0.out
      rw [← hbs] at oo
      have OO := Aside0.mk oo
      have HBL := Aside0.mk (show bs.length = 8 + 4 * j by rw [hbs, List.length_append, leB_length, flat4_length, List.length_take, HXL.out, Nat.min_eq_left (by omega)])
      have HBS := Aside0.mk hbs
      clear hp c9 hpr hbs oo OO0
      go_wp2_with (first | ((with_reducible refine gate_dst (N := 18) rfl ?_); refine goesL_ (some 18) rfl rfl Tryd.func42 (by kernel_rfl) rfl #[.int .i64 p, .int .i64 4] rfl (by (try simp only [List.map_toArray, List.map_cons, List.map_nil]); first | done | rfl) ?_; refine (spec_l02Put.calls _ _ _ _ _ HP4.out).mono ?_; rintro e_ w4 ⟨v0_, rfl, R_, b_⟩; obtain ⟨A18, c18, rfl⟩ := Kd.R_slice R_; refine ⟨_, rfl, ?_⟩; have O18 := Aside0.mk R_; have HBn := Aside0.mk (below_then HB.out HB.out.size b_); have OOn := Aside0.mk (Kd.R_below OO.out b_); have OPn := Aside0.mk (Kd.R_below OP.out b_); have HS4 : s3 ≤ w4.heap.size := Nat.le_trans HS3 b_.size; clear R_ b_ HB OO OP) | ((with_reducible refine gate_dst (N := 19) rfl ?_); refine Kd.R_append_rows (Kd.int .u8) (w0 := w) w.heap.size rfl (.tmp 16) (.tmp 18) 28 5 (.int .u8 0) 1 rfl Tryd.underlying28 info5_ rfl (by decide) (by omega) v3 bs (leB p 4) _ _ _ (fun k => ¬ Btw s2 s3 k) (fun _ => False) rfl rfl OOn.out (Kd.R_reads' O18.out).2.2 (fun _ _ h => h) (fun _ h => h.elim) (fun k hk h2 => by have h3_ := h2.2; omega) HBn.out HBn.out.size (by have h1_ := HBL.out; have h2_ := C9.out; show (bs.length + (leB p 4).length) * 1 ≤ _; rw [leB_length, h1_]; omega) ?_; intro v19 w5 ho hb hg_ hn_; have OO5 := Aside0.mk ho; have HB5 := Aside0.mk hb; have OP5 := Aside0.mk (Kd.R_grown OPn.out hg_ (fun k hk e_ => OOn.out.1 k e_.symm hk)); have HS5 : s3 ≤ w5.heap.size := Nat.le_trans HS4 hg_.size; clear ho hb hg_ hn_ HBn OOn OPn O18))
      go_roundw
      case rel =>
        refine ⟨j + 1, _, rfl, by rw [show wrap64 ((j : Int) + 1) = ((j + 1 : Nat) : Int) by (have := C9.out; unfold wrap64; omega)], ⟨by have := C9.out; omega⟩, ⟨?_⟩, OP5, HB5, HS5⟩
        have ho := OO5.out
        have e_ : bs ++ leB p 4 = leB s 8 ++ flat4 (xs.take (j + 1)) := by rw [HBS.out, flat4_take xs j (by rw [HXL.out]; exact C9.out), ← HPV.out, List.append_assoc]
        rw [e_] at ho
        exact ho
      case measure =>
        rw [show wrap64 ((j : Int) + 1) = ((j + 1 : Nat) : Int) by (have := C9.out; unfold wrap64; omega)]
        simp only [intOf, Int.toNat_natCast]
        have := C9.out
        omega
    · obtain rfl : j = 14 := by have := hj.out; omega
      have c9b0 : decide ((14 : Int) < (xs.length : Int)) = false := decide_eq_false (by rw [HXL.out]; decide)
      have c9b1 : decide (14 < xs.length) = false := decide_eq_false (by rw [HXL.out]; decide)
      go_wp2
      go_ret
      have ho := OO0.out
      rw [List.take_of_length_le (by rw [HXL.out]; exact Nat.le_refl _), HXS.out, HS.out] at ho
      exact ⟨_, rfl, Kd.R_mono ho (fun _ _ => trivial), HB.out⟩

open Go.Proofs.YtkghgjehjchajaaDoorW Go.Proofs.YtkghgjehjchajaaDoorW.PrintHand Go.Proofs.YtkghgjehjchajaaDoorW.PrintHx
/-! ### spec_EncodeSnap: function 10 -/
open Go.Proofs.YtkghgjehjchajaaDoorW.PrintLe Go.Proofs.YtkghgjehjchajaaDoorW.PrintGrow Go.Proofs.YtkghgjehjchajaaDoorW.PrintDec Go.Proofs.YtkghgjehjchajaaDoorW.PrintIno Go.Proofs.YtkghgjehjchajaaDoorW.PrintTab2 Go.Proofs.YtkghgjehjchajaaDoorW.PrintTab3 Go.Proofs.YtkghgjehjchajaaDoorW.PrintFsi Go.Proofs.YtkghgjehjchajaaDoorW.PrintFsb Go.Proofs.YtkghgjehjchajaaDoorW.PrintFsd Go.Proofs.YtkghgjehjchajaaDoorW.PrintCrc Go.Proofs.YtkghgjehjchajaaDoorW.PrintSnp
theorem l02Fill_l0 (n : Nat) (hn : n ≤ 1048576) : ∀ (d k : Nat) (l : List Int), l.length + d = n → d < k → spec_l02Fill.l0 k (n : Int) l = some (l ++ List.replicate d 0)
  | 0, k, l, h1, h2 => by
    obtain ⟨k, rfl⟩ := sucK h2
    simp only [spec_l02Fill.l0]
    rw [if_neg (by omega)]
    simp
  | d + 1, k, l, h1, h2 => by
    obtain ⟨k, rfl⟩ := sucK h2
    simp only [spec_l02Fill.l0]
    rw [if_pos (by omega), if_pos (by omega), l02Fill_l0 n hn d k _ (by rw [List.length_append, List.length_singleton]; omega) (by omega), List.append_assoc]
    rfl
theorem l02Fill_f (l : List Int) (n d k : Nat) (hn : n ≤ 1048576) (hl : l.length + d = n) (hk : d < k) : spec_l02Fill.f k l (n : Int) = some (l ++ List.replicate d 0) := by
  unfold spec_l02Fill.f
  simp only [Option.bind_some]
  rw [if_pos (by simp; omega), List.nil_append]
  exact l02Fill_l0 n hn d k l hl hk
def sumL : List (List Int) → Nat
  | [] => 0
  | x :: r => x.length + sumL r
theorem sumL_append (a b : List (List Int)) : sumL (a ++ b) = sumL a + sumL b := by
  induction a with
  | nil => simp [sumL]
  | cons x a ih => simp [sumL, ih]; omega
theorem sumL_flatten (a : List (List Int)) : sumL a = a.flatten.length := by
  induction a with
  | nil => simp [sumL]
  | cons x a ih => simp [sumL, ih]
theorem l02Join_l0 (xs : List (List Int)) (hx : xs.length ≤ 1048576) : ∀ (d i k : Nat) (out : List Int), i + d = xs.length → d < k → out.length + sumL (xs.drop i) < 140737488355328 → spec_l02Join.l0 k out xs (xs.length : Int) (i : Int) = some (out ++ (xs.drop i).flatten)
  | 0, i, k, out, h1, h2, h3 => by
    obtain ⟨k, rfl⟩ := sucK h2
    simp only [spec_l02Join.l0]
    rw [if_neg (by omega), List.drop_eq_nil_of_le (by omega)]
    simp
  | d + 1, i, k, out, h1, h2, h3 => by
    obtain ⟨k, rfl⟩ := sucK h2
    simp only [spec_l02Join.l0]
    have hi : i < xs.length := by omega
    have hr : rd_L1 xs (i : Int) = xs[i] := by simp [rd_L1, hi]
    have hd := List.drop_eq_getElem_cons hi
    rw [hd, sumL] at h3
    rw [if_pos (by omega), if_pos (by omega), if_pos (by omega), hr, if_pos (by omega), w64n (by omega), l02Join_l0 xs hx d (i + 1) k _ (by omega) (by omega) (by rw [List.length_append]; omega), List.append_assoc]
    conv => rhs; rw [hd, List.flatten_cons]
theorem l02Join_f (xs : List (List Int)) (k : Nat) (hx : xs.length ≤ 1048576) (hk : xs.length < k) (hl : sumL xs < 140737488355328) : spec_l02Join.f k xs = some xs.flatten := by
  unfold spec_l02Join.f
  have h := l02Join_l0 xs hx xs.length 0 k [] (by omega) hk (by simpa using hl)
  simpa using h
theorem table_l0 : ∀ (d i k n : Nat), i + d = 8 → d < k → n < 4294967296 → spec_l02Table.l0 k (n : Int) (i : Int) = some ((stepN d n : Nat) : Int)
  | 0, i, k, n, h1, h2, h3 => by
    obtain ⟨k, rfl⟩ := sucK h2
    simp only [spec_l02Table.l0]
    rw [if_neg (by omega)]
    rfl
  | d + 1, i, k, n, h1, h2, h3 => by
    obtain ⟨k, rfl⟩ := sucK h2
    have e1 : Int.tmod (n : Int) 2 = ((n % 2 : Nat) : Int) := by rw [Int.tmod_eq_emod_of_nonneg (by omega)]; omega
    have e2 : Int.tdiv (n : Int) 2 % 4294967296 = ((n / 2 : Nat) : Int) := by rw [Int.tdiv_eq_ediv_of_nonneg (by omega)]; omega
    have e3 : (3988292384 : Int) = ((3988292384 : Nat) : Int) := rfl
    simp only [spec_l02Table.l0]
    rw [if_pos (by omega), e1, e2, w64n (by omega)]
    by_cases hp : n % 2 = 1
    · rw [if_pos (by omega), e3, xor_nat _ _ (by omega) (by omega), table_l0 d (i + 1) k _ (by omega) (by omega) (by have := stepB_lt h3; unfold stepB at this; rw [if_pos hp] at this; exact this)]
      simp only [stepN, stepB, if_pos hp]
    · rw [if_neg (by omega), table_l0 d (i + 1) k _ (by omega) (by omega) (by omega)]
      simp only [stepN, stepB, if_neg hp, Nat.xor_zero]
theorem table_f (n k : Nat) (hk : 8 < k) (hn : n < 4294967296) : spec_l02Table.f k (n : Int) = some ((stepN 8 n : Nat) : Int) := table_l0 8 0 k n rfl hk hn
theorem specCrc_l0 (l : List Int) (hb : ∀ x ∈ l, 0 ≤ x ∧ x ≤ 255) (hl : l.length ≤ 1048576) : ∀ (d i k n : Nat), i + d = l.length → d + 10 < k → n < 4294967296 → spec_Crc32.l0 k (n : Int) l (l.length : Int) (i : Int) = some (Go.bits .xor .u32 ((crcS n (nats (l.drop i)) : Nat) : Int) 4294967295)
  | 0, i, k, n, h1, h2, h3 => by
    obtain ⟨k, rfl⟩ := sucK h2
    simp only [spec_Crc32.l0]
    rw [if_neg (by omega), List.drop_eq_nil_of_le (by omega)]
    rfl
  | d + 1, i, k, n, h1, h2, h3 => by
    obtain ⟨k, rfl⟩ := sucK h2
    have hi : i < l.length := by omega
    have hx := hb _ (List.getElem_mem hi)
    obtain ⟨c, hc⟩ := Int.eq_ofNat_of_zero_le hx.1
    have hc8 : c < 256 := by omega
    simp only [spec_Crc32.l0]
    have hlt : n ^^^ c < 2 ^ 32 := Nat.xor_lt_two_pow (by omega) (by omega)
    rw [if_pos (by omega), if_pos (by omega), if_pos (by omega), rd_some hi, hc, show (c : Int) % 4294967296 = (c : Int) by omega, xor_nat _ _ h3 (by omega), Int.tmod_eq_emod_of_nonneg (by omega), show (((n ^^^ c : Nat) : Int) % 256) = (((n ^^^ c) % 256 : Nat) : Int) by omega, table_f _ k (by omega) (by omega), Option.bind_some, Int.tdiv_eq_ediv_of_nonneg (by omega), show ((n : Int) / 256 % 4294967296) = ((n / 256 : Nat) : Int) by omega, xor_nat _ _ (by omega) (stepN_lt 8 (by omega)), w64n (by omega), specCrc_l0 l hb hl d (i + 1) k _ (by omega) (by omega) (by rw [byte_step n c hc8]; exact stepN_lt 8 (by omega)), List.drop_eq_getElem_cons hi]
    simp only [nats, List.map_cons, hc, Int.toNat_natCast, crcS]
theorem specCrc_f (l : List Int) (hb : ∀ x ∈ l, 0 ≤ x ∧ x ≤ 255) (hl : l.length ≤ 1048576) (k : Nat) (hk : l.length + 10 < k) : spec_Crc32.f k l = some (Go.bits .xor .u32 ((crcS 4294967295 (nats l) : Nat) : Int) 4294967295) := by
  unfold spec_Crc32.f
  exact specCrc_l0 l hb hl l.length 0 k 4294967295 (by omega) hk (by omega)
theorem specCrc_v (l : List Int) (hb : ∀ x ∈ l, 0 ≤ x ∧ x ≤ 255) (hl : l.length ≤ 1048576) (k : Nat) (hk : l.length + 10 < k) : spec_Crc32.f k l = some (crcV l) := by
  have hlt := crcI_lt (nats l) (nats_byt hb) 4294967295 (by omega)
  have e : (4294967295 : Int) = ((4294967295 : Nat) : Int) := rfl
  rw [specCrc_f l hb hl k hk, crc_eq _ (nats_byt hb), e, xor_nat _ _ hlt (by omega)]
  rfl
theorem spec_EncodeSnap.sealed {x : Int} {s : ByteArray} {p q : Int} {r : List Int} (hs : s.size ≤ 26) (hr : r.length = 15) : spec_l02Sealed.f 2000 (snapBody x s p q r) = some (snapBytes x s p q r) := by
  have hb := snapFill_byt x s p q r
  have hl : (snapFill x s p q r).length = 508 := snapFill_length hs hr
  have hc := crcV_range hb
  unfold spec_l02Sealed.f
  rw [show spec_l02Fill.f 2000 (snapBody x s p q r) 508 = some (snapFill x s p q r) from l02Fill_f (snapBody x s p q r) 508 388 2000 (by decide) (by rw [snapBody_length hs hr]) (by decide)]
  simp only [Option.bind_some]
  rw [specCrc_v (snapFill x s p q r) hb (by rw [hl]; decide) 2000 (by rw [hl]; decide)]
  simp only [Option.bind_some]
  rw [w64 (by omega) (by omega), show spec_l02Put.f 2000 (crcV (snapFill x s p q r)) 4 = some (leB (crcV (snapFill x s p q r)) 4) from l02Put_f _ 4 2000 (by decide) hc.1 (by omega) (by decide)]
  simp only [Option.bind_some]
  rw [if_pos (by rw [hl, leB_length]; decide)]
  rfl
set_option maxHeartbeats 8000000 in
set_option maxRecDepth 100000 in
theorem spec_EncodeSnap.calls (x : Int) (s : ByteArray) (p q : Int) (r : List Int) (nr : r.length = 15) (k : Nat) (c : Int) (hc : spec_CheckName.f k s = some c) (hsz : c = 0 → s.size ≤ 26) (r1 : List Int) (r2 : Int) (w : World) (h : (if snapGood x c p q r = true then (snapBytes x s p q r, (0 : Int)) else ([], 7)) = (r1, r2)) :
    Calls Tryd.prog 10 #[.agg (snapC x s p q r).toArray] w fun e w' => ∃ v0_ : Value, e = .returned (.tuple #[v0_, .int .i64 r2]) ∧ Kd.R (Kd.int .u8) 5 w' w.heap.size (fun _ => True) v0_ r1 ∧ Below w.heap.size w w' := by
  have H := Aside0.mk h
  have HSZ := Aside0.mk hsz
  clear h hsz
  have NR := Aside0.mk nr
  have WC := Aside0.mk hc
  clear nr hc
  obtain ⟨y0, hy0⟩ : ∃ y, y = r.getD 0 0 := ⟨_, rfl⟩
  obtain ⟨b0, hb0⟩ : ∃ b, b = rng x 1 31 := ⟨_, rfl⟩
  have Wb0 := Aside0.mk (show spec_l02Within.f x 1 31 = some b0 by rw [hb0]; exact within_i _ _ _)
  obtain ⟨b2, hb2⟩ : ∃ b, b = rng p 1 1099511627776 := ⟨_, rfl⟩
  have Wb2 := Aside0.mk (show spec_l02Within.f p 1 1099511627776 = some b2 by rw [hb2]; exact within_i _ _ _)
  obtain ⟨b3, hb3⟩ : ∃ b, b = rng q 1 1099511627776 := ⟨_, rfl⟩
  have Wb3 := Aside0.mk (show spec_l02Within.f q 1 1099511627776 = some b3 by rw [hb3]; exact within_i _ _ _)
  obtain ⟨b4, hb4⟩ : ∃ b, b = rootGood r := ⟨_, rfl⟩
  have Wb4 := Aside0.mk (show spec_l02Root.f r = some b4 by rw [hb4]; rfl)
  obtain ⟨b5, hb5⟩ : ∃ b, b = sizeI y0 := ⟨_, rfl⟩
  have Wb5 := Aside0.mk (show spec_l02TableSize.f y0 = some b5 by rw [hb5]; exact size_i _)
  obtain ⟨b1, hb1⟩ : ∃ b, b = decide (c = 0) := ⟨_, rfl⟩
  have HIN := Aside0.mk (show snapGood x c p q r = (b0 && (b1 && (b2 && (b3 && (b4 && b5))))) by rw [hb0, hb1, hb2, hb3, hb4, hb5, hy0]; rfl)
  have HY0 := Aside0.mk hy0
  have HB1_ := Aside0.mk (show (c == 0) = b1 by rw [hb1]; rfl)
  clear hb0 hb1 hb2 hb3 hb4 hb5 hy0
  have HB0 : Aside0 (Below w.heap.size w w) := ⟨Below.refl _ _⟩
  obtain ⟨s0, Sz0⟩ : ∃ s0, Aside0 (w.heap.size = s0) := ⟨_, ⟨rfl⟩⟩
  have hw0 : w.heap.size ≤ s0 := Nat.le_of_eq Sz0.out
  have hw1 : s0 ≤ w.heap.size := Nat.le_of_eq Sz0.out.symm
  have HBN := Aside0.mk (show (c != 0) = !b1 by rw [← HB1_.out]; rfl)
  have info5_ : (Tryd.prog.info? 5).map (fun i => (i.zero, i.size, i.bytes)) = some (some (.int .u8 0), 1, 1) := by kernel_rfl
  go_enter Tryd.func10, Tryd.ntmps10
  go_wp2_with (first | ((with_reducible refine gate_dst (N := 1) rfl ?_); refine hx_box rfl 1 rfl 33 (.tmp 0) rfl Sz0 (.agg (snapC x s p q r).toArray) (snapC x s p q r).toArray rfl (by simp [Value.cells]) ?_; intro w1 s1 L1 Sz1 b1_ g_; have H1 := Aside0.mk g_; have HB := Aside0.mk (below_then HB0.out HB0.out.size b1_); clear g_ HB0 b1_) | ((with_reducible refine gate_dst (N := 6) rfl ?_); refine wpList_ld1 rfl 3 (.tmp 5) rfl s0 0 rfl (.int .i64 x) Tryd.underlying3 rfl H1.out rfl ?_) | ((with_reducible refine gate_dst (N := 7) rfl ?_); refine goesL_ (some 7) rfl rfl Tryd.func37 (by kernel_rfl) rfl #[.int .i64 x, .int .i64 1, .int .i64 31] rfl (by (try simp only [List.map_toArray, List.map_cons, List.map_nil]); first | done | rfl) ?_; refine (spec_l02Within.calls x 1 31 b0 _ Wb0.out).mono ?_; rintro e_ w_ ⟨rfl, d_⟩; have b_ := kept_drawn d_; refine ⟨_, rfl, ?_⟩; have Hn := Aside0.mk (blk_below H1.out b_); have HBn := Aside0.mk (below_then HB.out HB.out.size b_); clear b_ d_ H1 HB; have H1 := Hn; have HB := HBn; clear Hn HBn; cases b0) | ((with_reducible refine gate_dst (N := 11) rfl ?_); refine Go.Proofs.YtkghgjehjchajaaDoorW.PrintTab2.ungd (by rfl) ?_; refine wpList_ld1 rfl 9 (.tmp 10) rfl s0 1 rfl (.string s) Tryd.underlying9 rfl H1.out rfl ?_) | ((with_reducible refine gate_dst (N := 12) rfl ?_); refine Go.Proofs.YtkghgjehjchajaaDoorW.PrintTab2.ungd (by rfl) ?_; refine goesL_ (some 12) rfl rfl Tryd.func38 (by kernel_rfl) rfl #[.string s] rfl (by (try simp only [List.map_toArray, List.map_cons, List.map_nil]); first | done | rfl) ?_; refine (spec_CheckName.calls k s c _ WC.out).mono ?_; rintro e_ w_ ⟨rfl, d_⟩; have b_ := kept_drawn d_; refine ⟨_, rfl, ?_⟩; have Hn := Aside0.mk (blk_below H1.out b_); have HBn := Aside0.mk (below_then HB.out HB.out.size b_); clear b_ d_ H1 HB; have H1 := Hn; have HB := HBn; clear Hn HBn) | ((with_reducible refine gate_dst (N := 13) rfl ?_); refine Go.Proofs.YtkghgjehjchajaaDoorW.PrintTab2.ungd (by rfl) ?_; refine hx_neqi rfl 3 3 (.tmp 12) _ rfl Tryd.underlying3 c 0 rfl rfl (!b1) HBN ?_; cases b1) | ((with_reducible refine gate_dst (N := 17) rfl ?_); refine Go.Proofs.YtkghgjehjchajaaDoorW.PrintTab2.ungd (by rfl) ?_; refine wpList_ld1 rfl 3 (.tmp 16) rfl s0 2 rfl (.int .i64 p) Tryd.underlying3 rfl H1.out rfl ?_) | ((with_reducible refine gate_dst (N := 18) rfl ?_); refine Go.Proofs.YtkghgjehjchajaaDoorW.PrintTab2.ungd (by rfl) ?_; refine goesL_ (some 18) rfl rfl Tryd.func37 (by kernel_rfl) rfl #[.int .i64 p, .int .i64 1, .int .i64 1099511627776] rfl (by (try simp only [List.map_toArray, List.map_cons, List.map_nil]); first | done | rfl) ?_; refine (spec_l02Within.calls p 1 1099511627776 b2 _ Wb2.out).mono ?_; rintro e_ w_ ⟨rfl, d_⟩; have b_ := kept_drawn d_; refine ⟨_, rfl, ?_⟩; have Hn := Aside0.mk (blk_below H1.out b_); have HBn := Aside0.mk (below_then HB.out HB.out.size b_); clear b_ d_ H1 HB; have H1 := Hn; have HB := HBn; clear Hn HBn; cases b2) | ((with_reducible refine gate_dst (N := 23) rfl ?_); refine Go.Proofs.YtkghgjehjchajaaDoorW.PrintTab2.ungd (by rfl) ?_; refine wpList_ld1 rfl 3 (.tmp 22) rfl s0 3 rfl (.int .i64 q) Tryd.underlying3 rfl H1.out rfl ?_) | ((with_reducible refine gate_dst (N := 24) rfl ?_); refine Go.Proofs.YtkghgjehjchajaaDoorW.PrintTab2.ungd (by rfl) ?_; refine goesL_ (some 24) rfl rfl Tryd.func37 (by kernel_rfl) rfl #[.int .i64 q, .int .i64 1, .int .i64 1099511627776] rfl (by (try simp only [List.map_toArray, List.map_cons, List.map_nil]); first | done | rfl) ?_; refine (spec_l02Within.calls q 1 1099511627776 b3 _ Wb3.out).mono ?_; rintro e_ w_ ⟨rfl, d_⟩; have b_ := kept_drawn d_; refine ⟨_, rfl, ?_⟩; have Hn := Aside0.mk (blk_below H1.out b_); have HBn := Aside0.mk (below_then HB.out HB.out.size b_); clear b_ d_ H1 HB; have H1 := Hn; have HB := HBn; clear Hn HBn; cases b3) | ((with_reducible refine gate_dst (N := 29) rfl ?_); refine Go.Proofs.YtkghgjehjchajaaDoorW.PrintTab2.ungd (by rfl) ?_; refine wpList_ld rfl 31 (.tmp 28) rfl s0 4 15 rfl (nums .i64 r).toArray Tryd.underlying31 rfl (by kernel_rfl) H1.out (by rw [snapC_size NR.out]; decide) (snapC_root NR.out) ?_) | ((with_reducible refine gate_dst (N := 30) rfl ?_); refine Go.Proofs.YtkghgjehjchajaaDoorW.PrintTab2.ungd (by rfl) ?_; refine goesL_ (some 30) rfl rfl Tryd.func39 (by kernel_rfl) rfl #[.agg (nums .i64 r).toArray] rfl (by (try simp only [List.map_toArray, List.map_cons, List.map_nil]); first | done | rfl) ?_; refine (spec_l02Root.calls r NR.out b4 _ Wb4.out).mono ?_; rintro e_ w_ ⟨rfl, d_⟩; have b_ := d_; refine ⟨_, rfl, ?_⟩; have Hn := Aside0.mk (blk_below H1.out b_); have HBn := Aside0.mk (below_then HB.out HB.out.size b_); clear b_ d_ H1 HB; have H1 := Hn; have HB := HBn; clear Hn HBn; cases b4) | ((with_reducible refine gate_dst (N := 36) rfl ?_); refine Go.Proofs.YtkghgjehjchajaaDoorW.PrintTab2.ungd (by rfl) ?_; refine wpList_ld1 rfl 3 (.tmp 35) rfl s0 4 rfl (.int .i64 y0) Tryd.underlying3 rfl H1.out (by rw [HY0.out]; exact snapC_at4 NR.out) ?_) | ((with_reducible refine gate_dst (N := 37) rfl ?_); refine Go.Proofs.YtkghgjehjchajaaDoorW.PrintTab2.ungd (by rfl) ?_; refine goesL_ (some 37) rfl rfl Tryd.func40 (by kernel_rfl) rfl #[.int .i64 y0] rfl (by (try simp only [List.map_toArray, List.map_cons, List.map_nil]); first | done | rfl) ?_; refine (spec_l02TableSize.calls y0 b5 _ Wb5.out).mono ?_; rintro e_ w_ ⟨rfl, d_⟩; have b_ := kept_drawn d_; refine ⟨_, rfl, ?_⟩; have Hn := Aside0.mk (blk_below H1.out b_); have HBn := Aside0.mk (below_then HB.out HB.out.size b_); clear b_ d_ H1 HB; have H1 := Hn; have HB := HBn; clear Hn HBn; cases b5))
  all_goals (try (have hh := H.out; rw [HIN.out] at hh; obtain ⟨rfl, rfl⟩ := Prod.mk.inj hh; go_ret2; exact ⟨_, rfl, Kd.R_nil _ _ _ _ _, HB.out⟩))
  have hg_ : snapGood x c p q r = true := by rw [HIN.out]; rfl
  have hh := H.out
  rw [if_pos hg_] at hh
  obtain ⟨rfl, rfl⟩ := Prod.mk.inj hh
  obtain ⟨gx, gc, gp, gq, gr⟩ := snapGood_get hg_
  have hs26 := HSZ.out gc
  clear hh hg_ H HIN HSZ
  rename World => w2
  have E0 := Aside0.mk (show spec_l02Put.f 20 x 1 = some (leB x 1) from l02Put_f x 1 20 (by decide) (by omega) (by omega) (by decide))
  have E1 := Aside0.mk (show spec_l02Put.f 20 ((s.size : Nat) : Int) 1 = some (leB ((s.size : Nat) : Int) 1) from l02Put_f _ 1 20 (by decide) (by omega) (by omega) (by decide))
  have EF := Aside0.mk (show spec_l02Fill.f 2000 (bytesOf s) 26 = some (nameB s) from l02Fill_f (bytesOf s) 26 (26 - s.size) 2000 (by decide) (by rw [bytesOf_length]; omega) (by omega))
  have EZ := Aside0.mk (show spec_l02Put.f 20 0 4 = some (leB 0 4) from l02Put_f 0 4 20 (by decide) (by omega) (by omega) (by decide))
  have E2 := Aside0.mk (show spec_l02Put.f 20 p 8 = some (leB p 8) from l02Put_f p 8 20 (by decide) (by omega) (by omega) (by decide))
  have E3 := Aside0.mk (show spec_l02Put.f 20 q 8 = some (leB q 8) from l02Put_f q 8 20 (by decide) (by omega) (by omega) (by decide))
  have ER := Aside0.mk (show spec_l02RootBytes.f r = some (rootBytes r) from if_pos gr)
  have EJ1 := Aside0.mk (show spec_l02Join.f 20 [magicS, leB x 1, leB ((s.size : Nat) : Int) 1, nameB s, leB 0 4] = some (snapHead x s) from l02Join_f _ 20 (by simp) (by simp) (by rw [sumL_flatten, show ([magicS, leB x 1, leB ((s.size : Nat) : Int) 1, nameB s, leB 0 4] : List (List Int)).flatten = snapHead x s from rfl, snapHead_length hs26]; decide))
  have EJ2 := Aside0.mk (show spec_l02Join.f 20 [snapHead x s, leB p 8, leB q 8, rootBytes r] = some (snapBody x s p q r) from l02Join_f _ 20 (by simp) (by simp) (by rw [sumL_flatten, show ([snapHead x s, leB p 8, leB q 8, rootBytes r] : List (List Int)).flatten = snapBody x s p q r from rfl, snapBody_length hs26 NR.out]; decide))
  have ESE := Aside0.mk (spec_EncodeSnap.sealed (x := x) (p := p) (q := q) hs26 NR.out)
  have HS63 := Aside0.mk (show s.size ≤ 9223372036854775807 by omega)
  clear gx gc gp gq gr hs26
  (try simp only [Act.put, List.setIfInBounds_toArray, List.set_cons_succ, List.set_cons_zero])
  refine wp_region_grow_tailS 14 [LitB w2.heap.size (nums .u8 magicS).toArray 5 8, Row (Kd.int .u8) magicS, Is (.pointer (some ⟨s0, 0, none⟩)), Is (.int .i64 x), Row (Kd.int .u8) (leB x 1), Is (.pointer (some ⟨s0, 1, none⟩)), Is (.string s), Is (.int .i64 ((s.size : Nat) : Int)), Row (Kd.int .u8) (leB ((s.size : Nat) : Int) 1), Is (.pointer (some ⟨s0, 1, none⟩)), Is (.string s), Row (Kd.int .u8) (bytesOf s), Row (Kd.int .u8) (nameB s), Row (Kd.int .u8) (leB 0 4)] (by kernel_rfl) (by kernel_rfl) (by kernel_rfl) (by kernel_rfl) (allstS_cons stS_lit (allstS_cons stS_row (allstS_cons stS_is (allstS_cons stS_is (allstS_cons stS_row (allstS_cons stS_is (allstS_cons stS_is (allstS_cons stS_is (allstS_cons stS_row (allstS_cons stS_is (allstS_cons stS_is (allstS_cons stS_row (allstS_cons stS_row (allstS_cons stS_row allstS_nil)))))))))))))) ?_ (fun w3 hgn => ?_)
  · refine stepsS_cons ?_ ?_
    · refine stepS_of (stepO_run rfl [] [] (by kernel_rfl) (fun a w_ hg hf => ?_))
      refine ⟨.slice (some ⟨w_.heap.size, 0, none⟩) 8 8, w_.alloc (.cells (nums .u8 magicS).toArray 5), ?_, below_alloc (Below.refl _ _) _, ⟨_, _, hg.size, rfl, blk_new w_ _⟩⟩
      unfold execOp
      go_simp
      (try rfl)
    refine stepsS_cons ?_ ?_
    · refine stepS_run rfl [(0, 40)] [] (by kernel_rfl) (fun a w_ hg hf => ?_)
      obtain ⟨⟨⟨v40, e40, p40⟩, _⟩, _⟩ := hf
      replace e40 : a.tmps[40]? = some (v40) := e40
      obtain ⟨g40, fr40, hB40, rfl, hh40⟩ := p40
      refine ⟨.slice (some ⟨g40, 0, none⟩) 8 8, _, ?_, soft_freeze (p := ⟨g40, (nums .u8 magicS).toArray.size, none⟩) hB40 1, stS_row _ _ _ (soft_freeze (p := ⟨g40, (nums .u8 magicS).toArray.size, none⟩) hB40 1) (lit_row (k := .u8) magicS hh40 (by decide))⟩
      have h_ := run_convert_mark (P := Tryd.prog) w_ 28 5 _ fr40 g40 8 8 Tryd.underlying28 Tryd.underlying5 hh40
      unfold execOp
      simp only [PrintLast.eval_of e40, Sem.run_bind, h_, Result.andThen_ok, Sem.run_pure]
      (try rfl)
    refine stepsS_cons ?_ ?_
    · refine stepS_of (stepO_val rfl [] [1] (by kernel_rfl) (.pointer (some ⟨s0, 0, none⟩)) (fun a w_ hg hf => ?_) (fun w_ _ => rfl))
      obtain ⟨_, ⟨o1, _⟩⟩ := hf
      have e1 : a.tmps[1]? = some (.pointer (some ⟨s0, 0, none⟩)) := o1.trans rfl
      unfold execOp
      simp only [PrintLast.eval_of e1, Act.eval]
      go_simp
      (try rfl)
    refine stepsS_cons ?_ ?_
    · refine stepS_of (stepO_val rfl [(2, 42)] [] (by kernel_rfl) (.int .i64 x) (fun a w_ hg hf => ?_) (fun w_ _ => rfl))
      obtain ⟨⟨⟨_, e42, rfl⟩, _⟩, _⟩ := hf
      replace e42 : a.tmps[42]? = some (.pointer (some ⟨s0, 0, none⟩)) := e42
      have c_ : w_.cell? ⟨s0, 0, none⟩ = some (.int .i64 x) := blk_cell (blk_below H1.out hg) 0
      unfold execOp
      simp only [PrintLast.eval_of e42, Act.eval]
      go_simp
      (try rfl)
    refine stepsS_cons ?_ ?_
    · refine stepS_of (stepO_call rfl [(3, 43)] [] (by kernel_rfl) Tryd.func42 (by kernel_rfl) rfl rfl (fun a w_ hg hf => ?_))
      obtain ⟨⟨⟨_, e43, rfl⟩, _⟩, _⟩ := hf
      replace e43 : a.tmps[43]? = some (.int .i64 x) := e43
      refine ⟨#[.int .i64 x, .int .i64 1], (by simp only [List.map_toArray, List.map_cons, List.map_nil, PrintLast.eval_of e43]; first | done | rfl), (spec_l02Put.calls 20 x 1 (leB x 1) w_ E0.out).mono ?_⟩
      rintro e_ w2_ ⟨v_, rfl, R_, b_⟩
      exact ⟨_, rfl, b_, own_row R_⟩
    refine stepsS_cons ?_ ?_
    · refine stepS_of (stepO_val rfl [] [1] (by kernel_rfl) (.pointer (some ⟨s0, 1, none⟩)) (fun a w_ hg hf => ?_) (fun w_ _ => rfl))
      obtain ⟨_, ⟨o1, _⟩⟩ := hf
      have e1 : a.tmps[1]? = some (.pointer (some ⟨s0, 0, none⟩)) := o1.trans rfl
      unfold execOp
      simp only [PrintLast.eval_of e1, Act.eval]
      go_simp
      (try rfl)
    refine stepsS_cons ?_ ?_
    · refine stepS_of (stepO_val rfl [(5, 45)] [] (by kernel_rfl) (.string s) (fun a w_ hg hf => ?_) (fun w_ _ => rfl))
      obtain ⟨⟨⟨_, e45, rfl⟩, _⟩, _⟩ := hf
      replace e45 : a.tmps[45]? = some (.pointer (some ⟨s0, 1, none⟩)) := e45
      have c_ : w_.cell? ⟨s0, 1, none⟩ = some (.string s) := blk_cell (blk_below H1.out hg) 1
      unfold execOp
      simp only [PrintLast.eval_of e45, Act.eval]
      go_simp
      (try rfl)
    refine stepsS_cons ?_ ?_
    · refine stepS_of (stepO_val rfl [(6, 46)] [] (by kernel_rfl) (.int .i64 ((s.size : Nat) : Int)) (fun a w_ hg hf => ?_) (fun w_ _ => rfl))
      obtain ⟨⟨⟨_, e46, rfl⟩, _⟩, _⟩ := hf
      replace e46 : a.tmps[46]? = some (.string s) := e46
      unfold execOp
      simp only [PrintLast.eval_of e46, Act.eval]
      go_simp
      (try rfl)
    refine stepsS_cons ?_ ?_
    · refine stepS_of (stepO_call rfl [(7, 47)] [] (by kernel_rfl) Tryd.func42 (by kernel_rfl) rfl rfl (fun a w_ hg hf => ?_))
      obtain ⟨⟨⟨_, e47, rfl⟩, _⟩, _⟩ := hf
      replace e47 : a.tmps[47]? = some (.int .i64 ((s.size : Nat) : Int)) := e47
      refine ⟨#[.int .i64 ((s.size : Nat) : Int), .int .i64 1], (by simp only [List.map_toArray, List.map_cons, List.map_nil, PrintLast.eval_of e47]; first | done | rfl), (spec_l02Put.calls 20 ((s.size : Nat) : Int) 1 (leB ((s.size : Nat) : Int) 1) w_ E1.out).mono ?_⟩
      rintro e_ w2_ ⟨v_, rfl, R_, b_⟩
      exact ⟨_, rfl, b_, own_row R_⟩
    refine stepsS_cons ?_ ?_
    · refine stepS_of (stepO_val rfl [] [1] (by kernel_rfl) (.pointer (some ⟨s0, 1, none⟩)) (fun a w_ hg hf => ?_) (fun w_ _ => rfl))
      obtain ⟨_, ⟨o1, _⟩⟩ := hf
      have e1 : a.tmps[1]? = some (.pointer (some ⟨s0, 0, none⟩)) := o1.trans rfl
      unfold execOp
      simp only [PrintLast.eval_of e1, Act.eval]
      go_simp
      (try rfl)
    refine stepsS_cons ?_ ?_
    · refine stepS_of (stepO_val rfl [(9, 49)] [] (by kernel_rfl) (.string s) (fun a w_ hg hf => ?_) (fun w_ _ => rfl))
      obtain ⟨⟨⟨_, e49, rfl⟩, _⟩, _⟩ := hf
      replace e49 : a.tmps[49]? = some (.pointer (some ⟨s0, 1, none⟩)) := e49
      have c_ : w_.cell? ⟨s0, 1, none⟩ = some (.string s) := blk_cell (blk_below H1.out hg) 1
      unfold execOp
      simp only [PrintLast.eval_of e49, Act.eval]
      go_simp
      (try rfl)
    refine stepsS_cons ?_ ?_
    · refine stepS_of (stepO_bytes rfl [(10, 50)] [] (by kernel_rfl) rfl Tryd.underlying9 Tryd.underlying28 Tryd.underlying5 s HS63.out (fun a w_ hg hf => ?_) (fun _ _ h => h))
      obtain ⟨⟨⟨_, e50, rfl⟩, _⟩, _⟩ := hf
      replace e50 : a.tmps[50]? = some (.string s) := e50
      exact PrintLast.eval_of e50
    refine stepsS_cons ?_ ?_
    · refine stepS_of (stepO_call rfl [(11, 51)] [] (by kernel_rfl) Tryd.func43 (by kernel_rfl) rfl rfl (fun a w_ hg hf => ?_))
      obtain ⟨⟨⟨v51, e51, p51⟩, _⟩, _⟩ := hf
      replace e51 : a.tmps[51]? = some (v51) := e51
      obtain ⟨A51, c51, rfl, h51, C51⟩ := p51
      refine ⟨#[.slice A51 (bytesOf s).length c51, .int .i64 26], (by simp only [List.map_toArray, List.map_cons, List.map_nil, PrintLast.eval_of e51]; first | done | rfl), (spec_l02Fill.calls 2000 A51 c51 _ 26 (nameB s) w_ C51 h51 EF.out).mono ?_⟩
      rintro e_ w2_ ⟨v_, rfl, R_, b_⟩
      exact ⟨_, rfl, b_, own_row R_⟩
    refine stepsS_cons ?_ ?_
    · refine stepS_of (stepO_call rfl [] [] (by kernel_rfl) Tryd.func42 (by kernel_rfl) rfl rfl (fun a w_ hg hf => ?_))
      obtain ⟨_, _⟩ := hf
      refine ⟨#[.int .i64 0, .int .i64 4], (by simp only [List.map_toArray, List.map_cons, List.map_nil]; first | done | rfl), (spec_l02Put.calls 20 0 4 (leB 0 4) w_ EZ.out).mono ?_⟩
      rintro e_ w2_ ⟨v_, rfl, R_, b_⟩
      exact ⟨_, rfl, b_, own_row R_⟩
    exact stepsS_nil
  · skip
    refine ends_cons (fun v0_ p0_ => ?_)
    replace p0_ := Aside0.mk (show LitB w2.heap.size (nums .u8 magicS).toArray 5 8 v0_ w3 from p0_)
    refine ends_cons (fun v1_ p1_ => ?_)
    replace p1_ := Aside0.mk (show Row (Kd.int .u8) magicS v1_ w3 from p1_)
    refine ends_cons (fun v2_ p2_ => ?_)
    obtain rfl : v2_ = _ := p2_
    refine ends_cons (fun v3_ p3_ => ?_)
    obtain rfl : v3_ = _ := p3_
    refine ends_cons (fun v4_ p4_ => ?_)
    replace p4_ := Aside0.mk (show Row (Kd.int .u8) (leB x 1) v4_ w3 from p4_)
    refine ends_cons (fun v5_ p5_ => ?_)
    obtain rfl : v5_ = _ := p5_
    refine ends_cons (fun v6_ p6_ => ?_)
    obtain rfl : v6_ = _ := p6_
    refine ends_cons (fun v7_ p7_ => ?_)
    obtain rfl : v7_ = _ := p7_
    refine ends_cons (fun v8_ p8_ => ?_)
    replace p8_ := Aside0.mk (show Row (Kd.int .u8) (leB ((s.size : Nat) : Int) 1) v8_ w3 from p8_)
    refine ends_cons (fun v9_ p9_ => ?_)
    obtain rfl : v9_ = _ := p9_
    refine ends_cons (fun v10_ p10_ => ?_)
    obtain rfl : v10_ = _ := p10_
    refine ends_cons (fun v11_ p11_ => ?_)
    replace p11_ := Aside0.mk (show Row (Kd.int .u8) (bytesOf s) v11_ w3 from p11_)
    refine ends_cons (fun v12_ p12_ => ?_)
    replace p12_ := Aside0.mk (show Row (Kd.int .u8) (nameB s) v12_ w3 from p12_)
    refine ends_cons (fun v13_ p13_ => ?_)
    replace p13_ := Aside0.mk (show Row (Kd.int .u8) (leB 0 4) v13_ w3 from p13_)
    refine ends_nil ?_
    simp only [Act.put, List.setIfInBounds_toArray, List.set_cons_succ, List.set_cons_zero]
    have HB3 := Aside0.mk (below_then HB.out HB.out.size hgn)
    have H_3 := Aside0.mk (blk_below H1.out hgn)
    clear hgn HB H1 p0_
    obtain ⟨A1, c1, rfl, h1, C1⟩ := p1_.out
    obtain ⟨A4, c4, rfl, h4, C4⟩ := p4_.out
    obtain ⟨A8, c8, rfl, h8, C8⟩ := p8_.out
    obtain ⟨A12, c12, rfl, h12, C12⟩ := p12_.out
    obtain ⟨A13, c13, rfl, h13, C13⟩ := p13_.out
    clear p1_ p4_ p8_ p11_ p12_ p13_
    simp only [List.drop_succ_cons, List.drop_zero]
    go_wp2_with (first | ((with_reducible refine gate_dst (N := 54) rfl ?_); refine wpList_rows rfl (N := 54) rfl (Kd.int .u8) 5 28 [(.slice A1 magicS.length c1), (.slice A4 (leB x 1).length c4), (.slice A8 (leB ((s.size : Nat) : Int) 1).length c8), (.slice A12 (nameB s).length c12), (.slice A13 (leB 0 4).length c13)] [magicS, (leB x 1), (leB ((s.size : Nat) : Int) 1), (nameB s), (leB 0 4)] (by simp) ?hr (rows_cons ⟨_, _, rfl, h1, C1⟩ (rows_cons ⟨_, _, rfl, h4, C4⟩ (rows_cons ⟨_, _, rfl, h8, C8⟩ (rows_cons ⟨_, _, rfl, h12, C12⟩ (rows_cons ⟨_, _, rfl, h13, C13⟩ (rows_nil)))))) ?_; (case hr => first | (go_simp; done) | (go_simp; rfl)); intro A54 c54 w4 h54 C_ b_; have C54_4 := Aside0.mk C_; clear C_; have HB4 := Aside0.mk (below_then HB3.out HB3.out.size b_); have H_4 := Aside0.mk (blk_below H_3.out b_); clear b_ HB3 H_3) | ((with_reducible refine gate_dst (N := 55) rfl ?_); refine goesL_ (some 55) rfl rfl Tryd.func41 (by kernel_rfl) rfl #[.slice A54 [magicS, leB x 1, leB ((s.size : Nat) : Int) 1, nameB s, leB 0 4].length c54] rfl (by (try simp only [List.map_toArray, List.map_cons, List.map_nil]); first | done | rfl) ?_; refine (spec_l02Join.calls 20 A54 c54 _ (snapHead x s) w4 C54_4.out h54 EJ1.out).mono ?_; rintro e_ w5 ⟨v_, rfl, R_, b_⟩; obtain ⟨A55, c55, rfl⟩ := Kd.R_slice R_; refine ⟨_, rfl, ?_⟩; have O55_5 := Aside0.mk (Kd.R_lower R_ HB4.out.size); clear R_; have HB5 := Aside0.mk (below_then HB4.out HB4.out.size b_); have H_5 := Aside0.mk (blk_below H_4.out b_); have C54_5 := Aside0.mk (Kd.C_below C54_4.out b_); clear b_ HB4 H_4 C54_4))
    (try simp only [Act.put, List.setIfInBounds_toArray, List.set_cons_succ, List.set_cons_zero])
    refine wp_region_grow_tailS 10 [Is (.slice A55 (snapHead x s).length c55), Is (.pointer (some ⟨s0, 2, none⟩)), Is (.int .i64 p), Row (Kd.int .u8) (leB p 8), Is (.pointer (some ⟨s0, 3, none⟩)), Is (.int .i64 q), Row (Kd.int .u8) (leB q 8), Is (.pointer (some ⟨s0, 4, none⟩)), Is (.agg (nums .i64 r).toArray), Row (Kd.int .u8) (rootBytes r)] (by kernel_rfl) (by kernel_rfl) (by kernel_rfl) (by kernel_rfl) (allstS_cons stS_is (allstS_cons stS_is (allstS_cons stS_is (allstS_cons stS_row (allstS_cons stS_is (allstS_cons stS_is (allstS_cons stS_row (allstS_cons stS_is (allstS_cons stS_is (allstS_cons stS_row allstS_nil)))))))))) ?_ (fun w6 hgn => ?_)
    · refine stepsS_cons ?_ ?_
      · refine stepS_of (stepO_val rfl [] [4] (by kernel_rfl) (.slice A55 (snapHead x s).length c55) (fun a w_ hg hf => ?_) (fun w_ _ => rfl))
        obtain ⟨_, ⟨o4, _⟩⟩ := hf
        have e4 : a.tmps[4]? = some (.slice A55 (snapHead x s).length c55) := o4.trans rfl
        unfold execOp
        simp only [PrintLast.eval_of e4]
        rfl
      refine stepsS_cons ?_ ?_
      · refine stepS_of (stepO_val rfl [] [1] (by kernel_rfl) (.pointer (some ⟨s0, 2, none⟩)) (fun a w_ hg hf => ?_) (fun w_ _ => rfl))
        obtain ⟨_, ⟨o1, _⟩⟩ := hf
        have e1 : a.tmps[1]? = some (.pointer (some ⟨s0, 0, none⟩)) := o1.trans rfl
        unfold execOp
        simp only [PrintLast.eval_of e1, Act.eval]
        go_simp
        (try rfl)
      refine stepsS_cons ?_ ?_
      · refine stepS_of (stepO_val rfl [(1, 57)] [] (by kernel_rfl) (.int .i64 p) (fun a w_ hg hf => ?_) (fun w_ _ => rfl))
        obtain ⟨⟨⟨_, e57, rfl⟩, _⟩, _⟩ := hf
        replace e57 : a.tmps[57]? = some (.pointer (some ⟨s0, 2, none⟩)) := e57
        have c_ : w_.cell? ⟨s0, 2, none⟩ = some (.int .i64 p) := blk_cell (blk_below H_5.out hg) 2
        unfold execOp
        simp only [PrintLast.eval_of e57, Act.eval]
        go_simp
        (try rfl)
      refine stepsS_cons ?_ ?_
      · refine stepS_of (stepO_call rfl [(2, 58)] [] (by kernel_rfl) Tryd.func42 (by kernel_rfl) rfl rfl (fun a w_ hg hf => ?_))
        obtain ⟨⟨⟨_, e58, rfl⟩, _⟩, _⟩ := hf
        replace e58 : a.tmps[58]? = some (.int .i64 p) := e58
        refine ⟨#[.int .i64 p, .int .i64 8], (by simp only [List.map_toArray, List.map_cons, List.map_nil, PrintLast.eval_of e58]; first | done | rfl), (spec_l02Put.calls 20 p 8 (leB p 8) w_ E2.out).mono ?_⟩
        rintro e_ w2_ ⟨v_, rfl, R_, b_⟩
        exact ⟨_, rfl, b_, own_row R_⟩
      refine stepsS_cons ?_ ?_
      · refine stepS_of (stepO_val rfl [] [1] (by kernel_rfl) (.pointer (some ⟨s0, 3, none⟩)) (fun a w_ hg hf => ?_) (fun w_ _ => rfl))
        obtain ⟨_, ⟨o1, _⟩⟩ := hf
        have e1 : a.tmps[1]? = some (.pointer (some ⟨s0, 0, none⟩)) := o1.trans rfl
        unfold execOp
        simp only [PrintLast.eval_of e1, Act.eval]
        go_simp
        (try rfl)
      refine stepsS_cons ?_ ?_
      · refine stepS_of (stepO_val rfl [(4, 60)] [] (by kernel_rfl) (.int .i64 q) (fun a w_ hg hf => ?_) (fun w_ _ => rfl))
        obtain ⟨⟨⟨_, e60, rfl⟩, _⟩, _⟩ := hf
        replace e60 : a.tmps[60]? = some (.pointer (some ⟨s0, 3, none⟩)) := e60
        have c_ : w_.cell? ⟨s0, 3, none⟩ = some (.int .i64 q) := blk_cell (blk_below H_5.out hg) 3
        unfold execOp
        simp only [PrintLast.eval_of e60, Act.eval]
        go_simp
        (try rfl)
      refine stepsS_cons ?_ ?_
      · refine stepS_of (stepO_call rfl [(5, 61)] [] (by kernel_rfl) Tryd.func42 (by kernel_rfl) rfl rfl (fun a w_ hg hf => ?_))
        obtain ⟨⟨⟨_, e61, rfl⟩, _⟩, _⟩ := hf
        replace e61 : a.tmps[61]? = some (.int .i64 q) := e61
        refine ⟨#[.int .i64 q, .int .i64 8], (by simp only [List.map_toArray, List.map_cons, List.map_nil, PrintLast.eval_of e61]; first | done | rfl), (spec_l02Put.calls 20 q 8 (leB q 8) w_ E3.out).mono ?_⟩
        rintro e_ w2_ ⟨v_, rfl, R_, b_⟩
        exact ⟨_, rfl, b_, own_row R_⟩
      refine stepsS_cons ?_ ?_
      · refine stepS_of (stepO_val rfl [] [1] (by kernel_rfl) (.pointer (some ⟨s0, 4, none⟩)) (fun a w_ hg hf => ?_) (fun w_ _ => rfl))
        obtain ⟨_, ⟨o1, _⟩⟩ := hf
        have e1 : a.tmps[1]? = some (.pointer (some ⟨s0, 0, none⟩)) := o1.trans rfl
        unfold execOp
        simp only [PrintLast.eval_of e1, Act.eval]
        go_simp
        (try rfl)
      refine stepsS_cons ?_ ?_
      · refine stepS_of (stepO_val rfl [(7, 63)] [] (by kernel_rfl) (.agg (nums .i64 r).toArray) (fun a w_ hg hf => ?_) (fun w_ _ => rfl))
        obtain ⟨⟨⟨_, e63, rfl⟩, _⟩, _⟩ := hf
        replace e63 : a.tmps[63]? = some (.pointer (some ⟨s0, 4, none⟩)) := e63
        have c_ : (loadVar 31 ⟨s0, 4, none⟩).run Tryd.prog w_ = .ok (.agg (nums .i64 r).toArray) w_ := by have h_ := run_load_part (P := Tryd.prog) w_ s0 4 15 33 31 _ (0, 0) _ (blk_below H_5.out hg) Tryd.underlying31 rfl (by kernel_rfl) (by rw [snapC_size NR.out]; decide); rw [snapC_root NR.out, Array.toArray_toList] at h_; exact h_
        unfold execOp
        simp only [PrintLast.eval_of e63, Instr.loadAt, Instr.sureAddr, Sem.run_bind, Sem.run_pure, Result.andThen_ok, c_]
      refine stepsS_cons ?_ ?_
      · refine stepS_of (stepO_call rfl [(8, 64)] [] (by kernel_rfl) Tryd.func45 (by kernel_rfl) rfl rfl (fun a w_ hg hf => ?_))
        obtain ⟨⟨⟨_, e64, rfl⟩, _⟩, _⟩ := hf
        replace e64 : a.tmps[64]? = some (.agg (nums .i64 r).toArray) := e64
        refine ⟨#[.agg (nums .i64 r).toArray], (by simp only [List.map_toArray, List.map_cons, List.map_nil, PrintLast.eval_of e64]; first | done | rfl), (spec_l02RootBytes.calls r NR.out (rootBytes r) w_ ER.out).mono ?_⟩
        rintro e_ w2_ ⟨v_, rfl, R_, b_⟩
        exact ⟨_, rfl, b_, own_row R_⟩
      exact stepsS_nil
    · skip
      refine ends_cons (fun v0_ p0_ => ?_)
      obtain rfl : v0_ = _ := p0_
      refine ends_cons (fun v1_ p1_ => ?_)
      obtain rfl : v1_ = _ := p1_
      refine ends_cons (fun v2_ p2_ => ?_)
      obtain rfl : v2_ = _ := p2_
      refine ends_cons (fun v3_ p3_ => ?_)
      replace p3_ := Aside0.mk (show Row (Kd.int .u8) (leB p 8) v3_ w6 from p3_)
      refine ends_cons (fun v4_ p4_ => ?_)
      obtain rfl : v4_ = _ := p4_
      refine ends_cons (fun v5_ p5_ => ?_)
      obtain rfl : v5_ = _ := p5_
      refine ends_cons (fun v6_ p6_ => ?_)
      replace p6_ := Aside0.mk (show Row (Kd.int .u8) (leB q 8) v6_ w6 from p6_)
      refine ends_cons (fun v7_ p7_ => ?_)
      obtain rfl : v7_ = _ := p7_
      refine ends_cons (fun v8_ p8_ => ?_)
      obtain rfl : v8_ = _ := p8_
      refine ends_cons (fun v9_ p9_ => ?_)
      replace p9_ := Aside0.mk (show Row (Kd.int .u8) (rootBytes r) v9_ w6 from p9_)
      refine ends_nil ?_
      simp only [Act.put, List.setIfInBounds_toArray, List.set_cons_succ, List.set_cons_zero]
      have HB6 := Aside0.mk (below_then HB5.out HB5.out.size hgn)
      have H_6 := Aside0.mk (blk_below H_5.out hgn)
      have O55_6 := Aside0.mk (Kd.R_below O55_5.out hgn)
      clear hgn HB5 H_5 O55_5
      obtain ⟨A3, c3, rfl, h3, C3⟩ := p3_.out
      obtain ⟨A6, c6, rfl, h6, C6⟩ := p6_.out
      obtain ⟨A9, c9, rfl, h9, C9⟩ := p9_.out
      clear p3_ p6_ p9_
      simp only [List.drop_succ_cons, List.drop_zero]
      go_wp2_with (first | ((with_reducible refine gate_dst (N := 66) rfl ?_); refine wpList_rows rfl (N := 66) rfl (Kd.int .u8) 5 28 [(.slice A55 (snapHead x s).length c55), (.slice A3 (leB p 8).length c3), (.slice A6 (leB q 8).length c6), (.slice A9 (rootBytes r).length c9)] [(snapHead x s), (leB p 8), (leB q 8), (rootBytes r)] (by simp) ?hr (rows_cons ⟨_, _, rfl, (Kd.R_reads' O55_6.out).2.1, (Kd.R_reads' O55_6.out).2.2⟩ (rows_cons ⟨_, _, rfl, h3, C3⟩ (rows_cons ⟨_, _, rfl, h6, C6⟩ (rows_cons ⟨_, _, rfl, h9, C9⟩ (rows_nil))))) ?_; (case hr => first | (go_simp; done) | (go_simp; rfl)); intro A66 c66 w7 h66 C_ b_; have C66_7 := Aside0.mk C_; clear C_; have HB7 := Aside0.mk (below_then HB6.out HB6.out.size b_); have H_7 := Aside0.mk (blk_below H_6.out b_); have O55_7 := Aside0.mk (Kd.R_below O55_6.out b_); clear b_ HB6 H_6 O55_6) | ((with_reducible refine gate_dst (N := 67) rfl ?_); refine goesL_ (some 67) rfl rfl Tryd.func41 (by kernel_rfl) rfl #[.slice A66 [snapHead x s, leB p 8, leB q 8, rootBytes r].length c66] rfl (by (try simp only [List.map_toArray, List.map_cons, List.map_nil]); first | done | rfl) ?_; refine (spec_l02Join.calls 20 A66 c66 _ (snapBody x s p q r) w7 C66_7.out h66 EJ2.out).mono ?_; rintro e_ w8 ⟨v_, rfl, R_, b_⟩; obtain ⟨A67, c67, rfl⟩ := Kd.R_slice R_; refine ⟨_, rfl, ?_⟩; have O67_8 := Aside0.mk (Kd.R_lower R_ HB7.out.size); clear R_; have HB8 := Aside0.mk (below_then HB7.out HB7.out.size b_); have H_8 := Aside0.mk (blk_below H_7.out b_); have O55_8 := Aside0.mk (Kd.R_below O55_7.out b_); have C66_8 := Aside0.mk (Kd.C_below C66_7.out b_); clear b_ HB7 H_7 O55_7 C66_7) | ((with_reducible refine gate_dst (N := 68) rfl ?_); refine goesL_ (some 68) rfl rfl Tryd.func44 (by kernel_rfl) rfl #[.slice A67 (snapBody x s p q r).length c67] rfl (by (try simp only [List.map_toArray, List.map_cons, List.map_nil]); first | done | rfl) ?_; refine (spec_l02Sealed.calls 2000 A67 c67 _ (snapBytes x s p q r) w8 (Kd.R_reads' O67_8.out).2.2 (Kd.R_reads' O67_8.out).2.1 ESE.out).mono ?_; rintro e_ w9 ⟨v_, rfl, R_, b_⟩; obtain ⟨A68, c68, rfl⟩ := Kd.R_slice R_; refine ⟨_, rfl, ?_⟩; have O68_9 := Aside0.mk (Kd.R_lower R_ HB8.out.size); clear R_; have HB9 := Aside0.mk (below_then HB8.out HB8.out.size b_); have H_9 := Aside0.mk (blk_below H_8.out b_); have O55_9 := Aside0.mk (Kd.R_below O55_8.out b_); have C66_9 := Aside0.mk (Kd.C_below C66_8.out b_); have O67_9 := Aside0.mk (Kd.R_below O67_8.out b_); clear b_ HB8 H_8 O55_8 C66_8 O67_8))
      go_ret2
      exact ⟨_, rfl, O68_9.out, HB9.out⟩

/-! ### spec_l02Get: function 51 -/
def spec_l02Get.l0 : Nat → List Int → Int → Int → Option (Int)
  | 0, _, _, _ => none
  | k + 1, x0, x3, x4 => if x4 ≥ 0 then (if x3 ≥ 70368744177664 then (some 4611686018427387904) else (if 0 ≤ x4 then (if x4 < (x0.length : Int) then (spec_l02Get.l0 k x0 (wrap64 ((wrap64 (x3 * 256)) + (wrap64 (rd x0 x4)))) (wrap64 (x4 - 1))) else (none)) else (none))) else (some x3)
def spec_l02Get.f (k : Nat) (l0 : List Int) : Option (Int) := spec_l02Get.l0 k l0 0 (wrap64 ((l0.length : Int) - 1))
theorem spec_l02Get.mono_l : ∀ k, (∀ y0 y1 y2, LeO (spec_l02Get.l0 k y0 y1 y2) (spec_l02Get.l0 (k + 1) y0 y1 y2))
  | 0 => fun _ _ _ r h => by simp [spec_l02Get.l0] at h
  | k + 1 => by
    have ih0 := spec_l02Get.mono_l k
    · intro y0 y1 y2
      unfold spec_l02Get.l0
      repeat' first
      | (with_reducible exact ih0 _ _ _)
      | (with_reducible exact LeO.refl _)
      | (with_reducible exact LeO.none _)
      | (with_reducible refine LeO.ite ?_ ?_)
      | (with_reducible refine LeO.bind ?_ (fun _ => ?_))
      | exact ih0 _ _ _
      | exact LeO.none _
      | refine LeO.ite ?_ ?_
      | refine LeO.bind ?_ (fun _ => ?_)
theorem spec_l02Get.mono : ∀ a0 k, LeO (spec_l02Get.f k a0) (spec_l02Get.f (k + 1) a0) := by
  intro a0 k
  have ih0 := spec_l02Get.mono_l k
  unfold spec_l02Get.f
  repeat' first
      | (with_reducible exact ih0 _ _ _)
      | (with_reducible exact LeO.refl _)
      | (with_reducible exact LeO.none _)
      | (with_reducible refine LeO.ite ?_ ?_)
      | (with_reducible refine LeO.bind ?_ (fun _ => ?_))
      | exact ih0 _ _ _
      | exact LeO.none _
      | refine LeO.ite ?_ ?_
      | refine LeO.bind ?_ (fun _ => ?_)
set_option maxHeartbeats 8000000 in
set_option maxRecDepth 100000 in
theorem spec_l02Get.calls (k : Nat) (A0 : Option Addr) (c0 : Nat) (l0 : List Int) (r : Int) (w : World) (hr0 : Kd.C (Kd.int .u8) w A0 l0.length l0) (hc0 : l0.length ≤ c0) (h : spec_l02Get.f k l0 = some r) :
    Calls Tryd.prog 51 #[.slice A0 l0.length c0] w fun e w' => e = .returned (.int .i64 r) ∧ Drawn0 w w' := by
  have HR0 := Aside0.mk hr0
  have HC0 := Aside0.mk hc0
  clear hr0 hc0
  have H : (spec_l02Get.l0 k l0 0 (wrap64 ((l0.length : Int) - 1))) = some r := h
  clear h
  have H' := Aside0.mk H
  clear H
  go_enter Tryd.func51, Tryd.ntmps51
  go_wp2
  go_loopg [3, 4] k (fun kq v3 v4 w' => ∃ (x3_1 : Int) (x4_1 : Int), v3 = .int .i64 x3_1 ∧ v4 = .int .i64 x4_1 ∧ Aside0 (spec_l02Get.l0 kq l0 x3_1 x4_1 = some r) ∧ Aside0 (kq ≤ k) ∧ Drawn0 w w')
  case atStart => exact ⟨(0), (wrap64 ((l0.length : Int) - 1)), (by first | rfl | (simp; done) | (simp [*]; done)), (by first | rfl | (simp; done) | (simp [*]; done)), H', ⟨Nat.le_refl _⟩, by repeat (first | exact Drawn0.refl _ | apply Drawn0.step)⟩
  case round =>
    clear H'
    obtain ⟨x3_1, x4_1, rfl, rfl, HA, HK1, ⟨m1, rfl⟩⟩ := hrel
    cases gk with
    | zero => exact absurd HA.out (by simp [spec_l02Get.l0])
    | succ k1 =>
      have H := HA.out
      clear HA
      simp only [spec_l02Get.l0] at H
      by_cases c2 : x4_1 ≥ 0
      · rw [if_pos c2] at H
        have c2b0 : decide (0 ≤ x4_1) = true := decide_eq_true c2
        clear c2
        by_cases c3 : x3_1 ≥ 70368744177664
        · rw [if_pos c3] at H
          have c3b0 : decide (70368744177664 ≤ x3_1) = true := decide_eq_true c3
          clear c3
          obtain rfl := Option.some.inj H
          go_wp2
          go_ret
          exact ⟨by first | rfl | (simp; done) | (simp [*]; done), by repeat (first | exact Drawn0.refl _ | apply Drawn0.step)⟩
        · rw [if_neg c3] at H
          have c3b0 : decide (70368744177664 ≤ x3_1) = false := decide_eq_false c3
          clear c3
          by_cases c4 : 0 ≤ x4_1
          · rw [if_pos c4] at H
            have c4b0 : decide (0 ≤ x4_1) = true := decide_eq_true c4
            clear c4
            by_cases c5 : x4_1 < (l0.length : Int)
            · rw [if_pos c5] at H
              have c5b0 : decide (x4_1 < (l0.length : Int)) = true := decide_eq_true c5
              clear c5
              have H' := Aside0.mk H
              clear H
              have p137 : 0 ≤ (x4_1 : Int) := of_decide_eq_true (by first | (with_reducible assumption) | assumption)
              have q137 : x4_1 < (l0.length : Int) := of_decide_eq_true (by first | (with_reducible assumption) | assumption)
              obtain ⟨ad137, e137, hx137_0⟩ := Kd.at_int HR0.out x4_1 p137 q137
              cases e137
              replace p137 := eq_true p137
              replace q137 := eq_true q137
              go_wp2
              go_roundg k1
              case measure => have := HK1.out; omega
              case rel => exact ⟨(wrap64 ((wrap64 (x3_1 * 256)) + (wrap64 (rd l0 x4_1)))), (wrap64 (x4_1 - 1)), (by first | rfl | (simp; done) | (simp [*]; done)), (by first | rfl | (simp; done) | (simp [*]; done)), H', ⟨by have := HK1.out; omega⟩, by repeat (first | exact Drawn0.refl _ | apply Drawn0.step)⟩
            · rw [if_neg c5] at H
              exact absurd H (by simp)
          · rw [if_neg c4] at H
            exact absurd H (by simp)
      · rw [if_neg c2] at H
        have c2b0 : decide (0 ≤ x4_1) = false := decide_eq_false c2
        clear c2
        obtain rfl := Option.some.inj H
        go_wp2
        go_ret
        exact ⟨by first | rfl | (simp; done) | (simp [*]; done), by repeat (first | exact Drawn0.refl _ | apply Drawn0.step)⟩

open Go.Proofs.YtkghgjehjchajaaDoorW Go.Proofs.YtkghgjehjchajaaDoorW.PrintHand Go.Proofs.YtkghgjehjchajaaDoorW.PrintHx
/-! ### spec_l02RootOf: function 52 -/
open Go.Proofs.YtkghgjehjchajaaDoorW.PrintLe Go.Proofs.YtkghgjehjchajaaDoorW.PrintGrow Go.Proofs.YtkghgjehjchajaaDoorW.PrintDec Go.Proofs.YtkghgjehjchajaaDoorW.PrintRaw
theorem get_l0 (x0 : List Int) (hb : Byt x0) (h8 : x0.length ≤ 8) : ∀ (n k : Nat), n ≤ x0.length → n < k → le (x0.drop n) < 18014398509481984 → spec_l02Get.l0 k x0 (le (x0.drop n)) ((n : Int) - 1) = some (if le x0 < 18014398509481984 then le x0 else 4611686018427387904)
  | 0, k, h1, h2, h3 => by
    obtain ⟨k, rfl⟩ := sucK h2
    simp only [spec_l02Get.l0]
    rw [List.drop_zero] at h3 ⊢
    rw [if_neg (by omega), if_pos h3]
  | n + 1, k, h1, h2, h3 => by
    obtain ⟨k, rfl⟩ := sucK h2
    have hn : n < x0.length := by omega
    have hd := List.drop_eq_getElem_cons hn
    have hx := hb x0[n] (List.getElem_mem hn)
    have h0 := le_nonneg (hb.drop (n + 1))
    simp only [spec_l02Get.l0]
    rw [if_pos (by omega)]
    by_cases hc : le (x0.drop (n + 1)) ≥ 70368744177664
    · rw [if_pos hc]
      have hs := le_split x0 (n + 1) (by omega)
      have ht := le_nonneg (hb.take (n + 1))
      have hp := p256 n
      rw [Int.pow_succ] at hs
      have : 256 ^ n * 256 * le (x0.drop (n + 1)) ≥ 1 * 256 * le (x0.drop (n + 1)) := Int.mul_le_mul_of_nonneg_right (by omega) h0
      rw [if_neg (by omega)]
    · rw [if_neg hc, if_pos (by omega), if_pos (by omega)]
      have hv : wrap64 ((wrap64 (le (x0.drop (n + 1)) * 256)) + (wrap64 (rd x0 (((n + 1 : Nat) : Int) - 1)))) = le (x0.drop n) := by
        rw [show ((n + 1 : Nat) : Int) - 1 = (n : Int) by omega, rd_some hn, hd]
        simp only [le]
        unfold wrap64
        omega
      rw [hv, show wrap64 (((n + 1 : Nat) : Int) - 1 - 1) = (n : Int) - 1 by unfold wrap64; omega]
      exact get_l0 x0 hb h8 n k (by omega) (by omega) (by rw [hd]; simp only [le]; omega)
/-- l02Get: the number, or 2^62 where it is 2^54 or more -/
theorem get_f (l : List Int) (hb : Byt l) (h8 : l.length ≤ 8) (k : Nat) (hk : 8 < k) : spec_l02Get.f k l = some (if le l < 18014398509481984 then le l else 4611686018427387904) := by
  unfold spec_l02Get.f
  rw [show wrap64 ((l.length : Int) - 1) = (l.length : Int) - 1 by unfold wrap64; omega]
  have h := get_l0 l hb h8 l.length k (by omega) (by omega) (by simp [le])
  rw [List.drop_length] at h
  exact h
def spec_l02RootOf.f (l0 : List Int) : Option (List Int) := if l0.length = 64 ∧ (∀ x ∈ l0, 0 ≤ x ∧ x ≤ 255) then some (rootA l0) else none
theorem at8 (a j : Nat) (ha : a ≤ 1000) (hj : j < 32) : wrap64 ((a : Int) + wrap64 (4 * (j : Int))) = ((a + 4 * j : Nat) : Int) := by
  have h : wrap64 (4 * (j : Int)) = 4 * (j : Int) := by unfold wrap64; omega
  rw [h]
  unfold wrap64
  omega
set_option maxHeartbeats 8000000 in
set_option maxRecDepth 100000 in
theorem spec_l02RootOf.calls (A0 : Option Addr) (c0 : Nat) (l0 : List Int) (r : List Int) (w : World) (hr0 : Kd.C (Kd.int .u8) w A0 l0.length l0) (hc0 : l0.length ≤ c0) (h : spec_l02RootOf.f l0 = some r) :
    Calls Tryd.prog 52 #[.slice A0 l0.length c0] w fun e w' => e = .returned (.agg (nums .i64 r).toArray) ∧ Below w.heap.size w w' := by
  unfold spec_l02RootOf.f at h
  by_cases hdom : l0.length = 64 ∧ (∀ x ∈ l0, 0 ≤ x ∧ x ≤ 255)
  case neg => rw [if_neg hdom] at h; cases h
  rw [if_pos hdom] at h
  obtain rfl := Option.some.inj h
  have HL := Aside0.mk hdom.1
  have HBY : Aside0 (Byt l0) := ⟨hdom.2⟩
  have HR0 := Aside0.mk hr0
  have HC0 := Aside0.mk hc0
  clear h hdom hr0 hc0
  have info5_ : (Tryd.prog.info? 5).map (fun i => (i.zero, i.size, i.bytes)) = some (some (.int .u8 0), 1, 1) := by kernel_rfl
  obtain ⟨i0_, hi0_, _, hsz_, _⟩ := info_parts info5_
  have Z31 : ∀ w, (zeroValue 31).run Tryd.prog w = .ok (.agg (nums .i64 (List.replicate 15 0)).toArray) w := fun _ => by kernel_rfl
  obtain ⟨hcut6, hA6, hC6⟩ := print_take_of (P := Tryd.prog) (Value.int .u8) 0 28 5 .i64 Tryd.underlying28 hi0_ hsz_ A0 c0 l0 (8 : Int) (by decide) (by rw [HL.out]; decide) HC0.out
  obtain ⟨q6, hq6⟩ : ∃ q, q = l0.take (8 : Int).toNat := ⟨_, rfl⟩
  rw [← hq6] at hcut6 hA6 hC6
  have hs6 : q6 = seg l0 0 8 := by rw [hq6]; exact rfl
  have HR6 := Aside0.mk (Kd.C_of_reads (h1 := fun _ => rfl) (hA6 _ (Kd.reads_of_C HR0.out)))
  have HC6 := Aside0.mk hC6
  obtain ⟨g0, hg0⟩ : ∃ g, g = gcap (seg l0 0 8) := ⟨_, rfl⟩
  have EG6 := Aside0.mk (show spec_l02Get.f 20 q6 = some g0 by rw [hg0, hs6]; exact get_f (seg l0 0 8) (seg_byt HBY.out _ _) (by rw [seg_le _ _ (by rw [HL.out]; decide)]; decide) 20 (by decide))
  clear hs6 hq6 hA6 hC6
  obtain ⟨A9, hcut9, hA9, hC9⟩ := print_mid_of (P := Tryd.prog) (Value.int .u8) 0 28 5 .i64 .i64 Tryd.underlying28 hi0_ hsz_ A0 c0 l0 (56 : Int) (60 : Int) (by decide) (by decide) (by rw [HL.out]; decide) HC0.out
  obtain ⟨q9, hq9⟩ : ∃ q, q = (l0.take (60 : Int).toNat).drop (56 : Int).toNat := ⟨_, rfl⟩
  rw [← hq9] at hcut9 hA9 hC9
  obtain ⟨k9, hk9⟩ : ∃ k, k = c0 - (56 : Int).toNat := ⟨_, rfl⟩
  rw [← hk9] at hcut9 hC9
  clear hk9
  have hs9 : q9 = seg l0 56 4 := by rw [hq9]; exact take_drop l0 56 60
  have HR9 := Aside0.mk (Kd.C_of_reads (h1 := fun _ => rfl) (hA9 _ (Kd.reads_of_C HR0.out)))
  have HC9 := Aside0.mk hC9
  obtain ⟨g1, hg1⟩ : ∃ g, g = le (seg l0 56 4) := ⟨_, rfl⟩
  have EG9 := Aside0.mk (show spec_l02Get.f 20 q9 = some g1 by rw [hg1, hs9, ← gcap4 (seg_byt HBY.out _ _) (by rw [seg_le _ _ (by rw [HL.out]; decide)]; decide)]; exact get_f (seg l0 56 4) (seg_byt HBY.out _ _) (by rw [seg_le _ _ (by rw [HL.out]; decide)]; decide) 20 (by decide))
  clear hs9 hq9 hA9 hC9
  obtain ⟨A12, hcut12, hA12, hC12⟩ := print_mid_of (P := Tryd.prog) (Value.int .u8) 0 28 5 .i64 .i64 Tryd.underlying28 hi0_ hsz_ A0 c0 l0 (60 : Int) (64 : Int) (by decide) (by decide) (by rw [HL.out]; decide) HC0.out
  obtain ⟨q12, hq12⟩ : ∃ q, q = (l0.take (64 : Int).toNat).drop (60 : Int).toNat := ⟨_, rfl⟩
  rw [← hq12] at hcut12 hA12 hC12
  obtain ⟨k12, hk12⟩ : ∃ k, k = c0 - (60 : Int).toNat := ⟨_, rfl⟩
  rw [← hk12] at hcut12 hC12
  clear hk12
  have hs12 : q12 = seg l0 60 4 := by rw [hq12]; exact take_drop l0 60 64
  have HR12 := Aside0.mk (Kd.C_of_reads (h1 := fun _ => rfl) (hA12 _ (Kd.reads_of_C HR0.out)))
  have HC12 := Aside0.mk hC12
  obtain ⟨g2, hg2⟩ : ∃ g, g = le (seg l0 60 4) := ⟨_, rfl⟩
  have EG12 := Aside0.mk (show spec_l02Get.f 20 q12 = some g2 by rw [hg2, hs12, ← gcap4 (seg_byt HBY.out _ _) (by rw [seg_le _ _ (by rw [HL.out]; decide)]; decide)]; exact get_f (seg l0 60 4) (seg_byt HBY.out _ _) (by rw [seg_le _ _ (by rw [HL.out]; decide)]; decide) 20 (by decide))
  clear hs12 hq12 hA12 hC12
  obtain ⟨ds, hds⟩ : ∃ d, d = rootVals l0 := ⟨_, rfl⟩
  have DL := Aside0.mk (show ds.length = 12 by rw [hds]; exact rootVals_length l0)
  have EGJ := Aside0.mk (show ∀ j, j < 12 → spec_l02Get.f 20 (seg l0 (8 + 4 * j) 4) = some (ds.getD j 0) from fun j hj => by rw [hds, rootVals_get l0 j hj, ← gcap4 (seg_byt HBY.out _ _) (by rw [seg_le _ _ (by rw [HL.out]; omega)]; decide)]; exact get_f _ (seg_byt HBY.out _ _) (by rw [seg_le _ _ (by rw [HL.out]; omega)]; decide) 20 (by decide))
  have hres : rootA l0 = g0 :: (ds ++ [g1, g2]) := by rw [hg0, hg1, hg2, hds]; rfl
  rw [hres]
  clear hres hg0 hg1 hg2 hds
  have HB0 : Aside0 (Below w.heap.size w w) := ⟨Below.refl _ _⟩
  obtain ⟨s0, Sz0⟩ : ∃ s0, Aside0 (w.heap.size = s0) := ⟨_, ⟨rfl⟩⟩
  have hw0 : w.heap.size ≤ s0 := Nat.le_of_eq Sz0.out
  have hw1 : s0 ≤ w.heap.size := Nat.le_of_eq Sz0.out.symm
  go_enter Tryd.func52, Tryd.ntmps52
  go_wp2_with (first | ((with_reducible refine gate_dst (N := 2) rfl ?_); refine hx_alloc rfl 2 rfl 31 rfl Sz0 (.agg (nums .i64 (List.replicate 15 0)).toArray) (nums .i64 (List.replicate 15 0)).toArray Z31 rfl ?_; intro w1 s1 L1 Sz1 b_ g_; have H2_1 := Aside0.mk g_; have HB1 := Aside0.mk (below_then HB0.out HB0.out.size b_); clear b_ g_ HB0))
  refine wp_region_grow_last 11 [Is (.slice A0 l0.length c0), Is (.slice A0 q6.length c0), Is (.int .i64 g0), Is (.slice A0 l0.length c0), Is (.slice A9 q9.length k9), Is (.int .i64 g1), Is (.slice A0 l0.length c0), Is (.slice A12 q12.length k12), Is (.int .i64 g2), Is (.agg (nums .i64 [g0, 0, 0, 0, 0, 0, 0, 0, 0, 0, 0, 0, 0, g1, g2]).toArray), New 31 (nums .i64 (List.replicate 15 0)).toArray w1.heap.size] (by kernel_rfl) (by kernel_rfl) (by kernel_rfl) (by kernel_rfl) (allst_cons st_is (allst_cons st_is (allst_cons st_is (allst_cons st_is (allst_cons st_is (allst_cons st_is (allst_cons st_is (allst_cons st_is (allst_cons st_is (allst_cons st_is (allst_cons st_new allst_nil))))))))))) ?_ (fun w2 hgn => ?_)
  · refine steps_cons ?_ ?_
    · refine stepO_val rfl [] [0] (by kernel_rfl) (.slice A0 l0.length c0) (fun a w_ hg hf => ?_) (fun w_ _ => rfl)
      obtain ⟨_, ⟨o0, _⟩⟩ := hf
      have e0 : a.tmps[0]? = some (.slice A0 l0.length c0) := o0.trans rfl
      unfold execOp
      simp only [PrintLast.eval_of e0]
      rfl
    refine steps_cons ?_ ?_
    · refine stepO_val rfl [(0, 5)] [] (by kernel_rfl) (.slice A0 q6.length c0) (fun a w_ hg hf => ?_) (fun w_ _ => rfl)
      obtain ⟨⟨⟨_, e5, rfl⟩, _⟩, _⟩ := hf
      replace e5 : a.tmps[5]? = some (.slice A0 l0.length c0) := e5
      unfold execOp
      simp only [PrintLast.eval_of e5, Act.eval]
      go_simp
      (try rfl)
    refine steps_cons ?_ ?_
    · refine stepO_call rfl [(1, 6)] [] (by kernel_rfl) Tryd.func51 (by kernel_rfl) rfl rfl (fun a w_ hg hf => ?_)
      obtain ⟨⟨⟨_, e6, rfl⟩, _⟩, _⟩ := hf
      replace e6 : a.tmps[6]? = some (.slice A0 q6.length c0) := e6
      refine ⟨#[.slice A0 q6.length c0], (by simp only [List.map_toArray, List.map_cons, List.map_nil, PrintLast.eval_of e6]; first | done | rfl), (spec_l02Get.calls 20 A0 c0 q6 g0 w_ (Kd.C_below HR6.out (below_then HB1.out HB1.out.size hg)) HC6.out EG6.out).mono ?_⟩
      rintro e_ w2_ ⟨rfl, d_⟩
      have b_ := kept_drawn d_
      exact ⟨_, rfl, b_, rfl⟩
    refine steps_cons ?_ ?_
    · refine stepO_val rfl [] [0] (by kernel_rfl) (.slice A0 l0.length c0) (fun a w_ hg hf => ?_) (fun w_ _ => rfl)
      obtain ⟨_, ⟨o0, _⟩⟩ := hf
      have e0 : a.tmps[0]? = some (.slice A0 l0.length c0) := o0.trans rfl
      unfold execOp
      simp only [PrintLast.eval_of e0]
      rfl
    refine steps_cons ?_ ?_
    · refine stepO_val rfl [(3, 8)] [] (by kernel_rfl) (.slice A9 q9.length k9) (fun a w_ hg hf => ?_) (fun w_ _ => rfl)
      obtain ⟨⟨⟨_, e8, rfl⟩, _⟩, _⟩ := hf
      replace e8 : a.tmps[8]? = some (.slice A0 l0.length c0) := e8
      unfold execOp
      simp only [PrintLast.eval_of e8, Act.eval]
      go_simp
      (try rfl)
    refine steps_cons ?_ ?_
    · refine stepO_call rfl [(4, 9)] [] (by kernel_rfl) Tryd.func51 (by kernel_rfl) rfl rfl (fun a w_ hg hf => ?_)
      obtain ⟨⟨⟨_, e9, rfl⟩, _⟩, _⟩ := hf
      replace e9 : a.tmps[9]? = some (.slice A9 q9.length k9) := e9
      refine ⟨#[.slice A9 q9.length k9], (by simp only [List.map_toArray, List.map_cons, List.map_nil, PrintLast.eval_of e9]; first | done | rfl), (spec_l02Get.calls 20 A9 k9 q9 g1 w_ (Kd.C_below HR9.out (below_then HB1.out HB1.out.size hg)) HC9.out EG9.out).mono ?_⟩
      rintro e_ w2_ ⟨rfl, d_⟩
      have b_ := kept_drawn d_
      exact ⟨_, rfl, b_, rfl⟩
    refine steps_cons ?_ ?_
    · refine stepO_val rfl [] [0] (by kernel_rfl) (.slice A0 l0.length c0) (fun a w_ hg hf => ?_) (fun w_ _ => rfl)
      obtain ⟨_, ⟨o0, _⟩⟩ := hf
      have e0 : a.tmps[0]? = some (.slice A0 l0.length c0) := o0.trans rfl
      unfold execOp
      simp only [PrintLast.eval_of e0]
      rfl
    refine steps_cons ?_ ?_
    · refine stepO_val rfl [(6, 11)] [] (by kernel_rfl) (.slice A12 q12.length k12) (fun a w_ hg hf => ?_) (fun w_ _ => rfl)
      obtain ⟨⟨⟨_, e11, rfl⟩, _⟩, _⟩ := hf
      replace e11 : a.tmps[11]? = some (.slice A0 l0.length c0) := e11
      unfold execOp
      simp only [PrintLast.eval_of e11, Act.eval]
      go_simp
      (try rfl)
    refine steps_cons ?_ ?_
    · refine stepO_call rfl [(7, 12)] [] (by kernel_rfl) Tryd.func51 (by kernel_rfl) rfl rfl (fun a w_ hg hf => ?_)
      obtain ⟨⟨⟨_, e12, rfl⟩, _⟩, _⟩ := hf
      replace e12 : a.tmps[12]? = some (.slice A12 q12.length k12) := e12
      refine ⟨#[.slice A12 q12.length k12], (by simp only [List.map_toArray, List.map_cons, List.map_nil, PrintLast.eval_of e12]; first | done | rfl), (spec_l02Get.calls 20 A12 k12 q12 g2 w_ (Kd.C_below HR12.out (below_then HB1.out HB1.out.size hg)) HC12.out EG12.out).mono ?_⟩
      rintro e_ w2_ ⟨rfl, d_⟩
      have b_ := kept_drawn d_
      exact ⟨_, rfl, b_, rfl⟩
    refine steps_cons ?_ ?_
    · refine stepO_val rfl [(2, 7), (5, 10), (8, 13)] [] (by kernel_rfl) (.agg (nums .i64 [g0, 0, 0, 0, 0, 0, 0, 0, 0, 0, 0, 0, 0, g1, g2]).toArray) (fun a w_ hg hf => ?_) (fun w_ _ => rfl)
      obtain ⟨⟨⟨_, e7, rfl⟩, ⟨_, e10, rfl⟩, ⟨_, e13, rfl⟩, _⟩, _⟩ := hf
      replace e7 : a.tmps[7]? = some (.int .i64 g0) := e7
      replace e10 : a.tmps[10]? = some (.int .i64 g1) := e10
      replace e13 : a.tmps[13]? = some (.int .i64 g2) := e13
      unfold execOp
      simp only [PrintLast.eval_of e7, PrintLast.eval_of e10, PrintLast.eval_of e13, Act.eval]
      go_simp
      (try rfl)
    refine steps_cons ?_ ?_
    · refine stepO_alloc rfl [] [] (by kernel_rfl) rfl (.agg (nums .i64 (List.replicate 15 0)).toArray) (nums .i64 (List.replicate 15 0)).toArray Z31 rfl (fun _ _ h => h)
    exact steps_nil
  · skip
    refine ends_cons (fun v0_ p0_ => ?_)
    obtain rfl : v0_ = _ := p0_
    refine ends_cons (fun v1_ p1_ => ?_)
    obtain rfl : v1_ = _ := p1_
    refine ends_cons (fun v2_ p2_ => ?_)
    obtain rfl : v2_ = _ := p2_
    refine ends_cons (fun v3_ p3_ => ?_)
    obtain rfl : v3_ = _ := p3_
    refine ends_cons (fun v4_ p4_ => ?_)
    obtain rfl : v4_ = _ := p4_
    refine ends_cons (fun v5_ p5_ => ?_)
    obtain rfl : v5_ = _ := p5_
    refine ends_cons (fun v6_ p6_ => ?_)
    obtain rfl : v6_ = _ := p6_
    refine ends_cons (fun v7_ p7_ => ?_)
    obtain rfl : v7_ = _ := p7_
    refine ends_cons (fun v8_ p8_ => ?_)
    obtain rfl : v8_ = _ := p8_
    refine ends_cons (fun v9_ p9_ => ?_)
    obtain rfl : v9_ = _ := p9_
    refine ends_cons (fun v10_ p10_ => ?_)
    obtain ⟨g10_, l10_, rfl, n10_⟩ := p10_
    refine ends_nil ?_
    simp only [Act.put, List.setIfInBounds_toArray, List.set_cons_succ, List.set_cons_zero]
    have HB2 := Aside0.mk (below_then HB1.out HB1.out.size hgn)
    have H2_2 := Aside0.mk (blk_below H2_1.out hgn)
    rw [Sz1.out] at l10_
    have N10 := Aside0.mk n10_
    clear n10_ hgn HB1 H2_1
    simp only [List.drop_succ_cons, List.drop_zero]
    go_wp2_with (first | ((with_reducible refine gate_store (t := 31) (p := 3) (v := .tmp 14) rfl ?_); refine hx_store rfl rfl 31 (.tmp 3) (.tmp 14) rfl g10_ 15 rfl (nums .i64 (g0 :: (filled ds 0 ++ [g1, g2]))).toArray rfl (by kernel_rfl) (nums_size _ _ _ (filled_length DL.out 0 (by decide) _ _ _)) (nums_one _ _) N10.out (by simp [nums]) ?_; intro w3 t_ gg_; have HG_3 := Aside0.mk gg_; have H2_3 := Aside0.mk (t_.keep (show s0 ≠ g10_ by omega) H2_2.out); have HB3 := Aside0.mk (t_.below HB2.out (by omega)); clear t_ gg_ H2_2 HB2 N10))
    (try simp only [Act.put, List.setIfInBounds_toArray, List.set_cons_succ, List.set_cons_zero])
    go_loopw [4, 15] (fun v4 v15 wr => ∃ (j : Nat) (u : Value), u = v4 ∧ v15 = .int .i64 (j : Int) ∧ Aside0 (j ≤ 12) ∧ Aside0 (wr.heap[g10_]? = some (.cells (nums .i64 (g0 :: (filled ds j ++ [g1, g2]))).toArray 31 (0, 0))) ∧ Aside0 (wr.heap[s0]? = some (.cells (nums .i64 (List.replicate 15 0)).toArray 31 (0, 0))) ∧ Aside0 (Below w.heap.size w wr)) (fun _ v15 _ => 12 - (intOf v15).toNat)
    case atStart => exact ⟨0, _, rfl, rfl, ⟨by omega⟩, HG_3, H2_3, HB3⟩
    case round =>
      clear HG_3 H2_3 HB3
      obtain ⟨j, v4, rfl, rfl, hj, HG, H2, HB⟩ := hrel
      by_cases c9 : j < 12
      · have c9b0 : decide ((j : Int) < 12) = true := decide_eq_true (by omega)
        have c9b1 : decide (j < 12) = true := decide_eq_true c9
        have e8 : wrap64 (8 + wrap64 (4 * (j : Int))) = ((8 + 4 * j : Nat) : Int) := at8 8 j (by decide) (by omega)
        have e12 : wrap64 (12 + wrap64 (4 * (j : Int))) = ((12 + 4 * j : Nat) : Int) := at8 12 j (by decide) (by omega)
        obtain ⟨Az, hcutz, hAz, hCz⟩ := print_mid_of (P := Tryd.prog) (Value.int .u8) 0 28 5 .i64 .i64 Tryd.underlying28 hi0_ hsz_ A0 c0 l0 (wrap64 (8 + wrap64 (4 * (j : Int))) : Int) (wrap64 (12 + wrap64 (4 * (j : Int))) : Int) (by rw [e8]; omega) (by rw [e8, e12]; omega) (by rw [e12, HL.out]; omega) HC0.out
        obtain ⟨qz, hqz⟩ : ∃ q, q = (l0.take (wrap64 (12 + wrap64 (4 * (j : Int))) : Int).toNat).drop (wrap64 (8 + wrap64 (4 * (j : Int))) : Int).toNat := ⟨_, rfl⟩
        rw [← hqz] at hcutz hAz hCz
        obtain ⟨kz, hkz⟩ : ∃ k, k = c0 - (wrap64 (8 + wrap64 (4 * (j : Int))) : Int).toNat := ⟨_, rfl⟩
        rw [← hkz] at hcutz hCz
        clear hkz
        have hsz : qz = seg l0 (8 + 4 * j) 4 := by rw [hqz, e8, e12]; exact (take_drop l0 (8 + 4 * j) (12 + 4 * j)).trans (by rw [show 12 + 4 * j - (8 + 4 * j) = 4 by omega])
        have HRz := Aside0.mk (Kd.C_of_reads (h1 := fun _ => rfl) (hAz _ (Kd.reads_of_C HR0.out)))
        have HCz := Aside0.mk hCz
        have EGz := Aside0.mk (show spec_l02Get.f 20 qz = some (ds.getD j 0) by rw [hsz]; exact EGJ.out j c9)
        obtain ⟨dv, hdv⟩ : ∃ d, d = ds.getD j 0 := ⟨_, rfl⟩
        rw [← hdv] at EGz
        have HDV := Aside0.mk hdv
        have C9 := Aside0.mk c9
        have q9 : (0 ≤ (j : Int)) = True := eq_true (by omega)
        have q10 : ((j : Int) < 12) = True := eq_true (by omega)
        have q11 : (j < 12) = True := eq_true c9
        clear hsz hqz hAz hCz hdv c9 e8 e12
        go_wp2_with (first | ((with_reducible refine gate_dst (N := 27) rfl ?_); refine goesL_ (some 27) rfl rfl Tryd.func51 (by kernel_rfl) rfl #[.slice Az qz.length kz] rfl (by (try simp only [List.map_toArray, List.map_cons, List.map_nil]); first | done | rfl) ?_; refine (spec_l02Get.calls 20 Az kz qz dv _ (Kd.C_below HRz.out HB.out) HCz.out EGz.out).mono ?_; rintro e_ w5 ⟨rfl, d_⟩; refine ⟨_, rfl, ?_⟩; have b_ := kept_drawn d_; have HG5 := Aside0.mk (blk_below HG.out b_); have H25 := Aside0.mk (blk_below H2.out b_); have HB5 := Aside0.mk (below_then HB.out HB.out.size b_); clear b_ d_ HG H2 HB) | ((with_reducible refine gate_store (t := 3) (p := 29) (v := .tmp 27) rfl ?_); refine st_num rfl rfl 3 (.tmp 29) (.tmp 27) rfl g10_ (1 + j) .i64 dv rfl rfl (by kernel_rfl) HG5.out (by rw [filled_length DL.out j (by have := C9.out; omega)]; have := C9.out; omega) ?_; intro w6 t_ gg_; have HG6 := Aside0.mk gg_; have H26 := Aside0.mk (t_.keep (show s0 ≠ g10_ by omega) H25.out); have HB6 := Aside0.mk (t_.below HB5.out (by omega)); clear t_ gg_ HG5 H25 HB5))
        go_roundw
        case rel =>
          refine ⟨j + 1, _, rfl, by rw [show wrap64 ((j : Int) + 1) = ((j + 1 : Nat) : Int) by (have := C9.out; unfold wrap64; omega)], ⟨by have := C9.out; omega⟩, ⟨?_⟩, H26, HB6⟩
          have h_ := HG6.out
          rw [HDV.out, filled_next DL.out j C9.out] at h_
          exact h_
        case measure =>
          rw [show wrap64 ((j : Int) + 1) = ((j + 1 : Nat) : Int) by (have := C9.out; unfold wrap64; omega)]
          simp only [intOf, Int.toNat_natCast]
          have := C9.out
          omega
      · obtain rfl : j = 12 := by have := hj.out; omega
        have c9b0 : decide ((12 : Int) < 12) = false := by decide
        have hf := HG.out
        rw [filled_all DL.out] at hf
        have HF := Aside0.mk hf
        clear c9 hf HG
        go_wp2_with (first | ((with_reducible refine gate_dst (N := 31) rfl ?_); refine hx_load rfl 31 (.tmp 3) rfl g10_ 15 rfl Tryd.underlying31 rfl (by kernel_rfl) HF.out (by simp [nums, DL.out]) ?_) | ((with_reducible refine gate_store (t := 31) (p := 2) (v := .tmp 31) rfl ?_); refine hx_store rfl rfl 31 (.tmp 2) (.tmp 31) rfl s0 15 rfl (nums .i64 (g0 :: (ds ++ [g1, g2]))).toArray rfl (by kernel_rfl) (by simp [nums, DL.out]) (nums_one _ _) H2.out (by simp [nums]) ?_; intro w7 t_ gg_; have HR7 := Aside0.mk gg_; have HB7 := Aside0.mk (t_.below HB.out (by omega)); clear t_ gg_))
        exact bodyPost_ret (results_cell_row rfl _ _ s0 31 _ (0, 0) _ rfl HR7.out Tryd.underlying31 rfl (by rw [nums_size _ _ 15 (by simp [DL.out])]; kernel_rfl)) rfl ⟨rfl, HB7.out⟩

end Go.Proofs.YtkghgjehjchajaaDoor.PFnExactDecodeSnap
