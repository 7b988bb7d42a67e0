-- Written by a program of this session (patch_print.py over the kit print)
import Derived.Test.YtkghgjehjchajaaDoorPFnExactEncodeSnapx0
namespace Go.Proofs.YtkghgjehjchajaaDoor.PFnExactEncodeSnap
open Go.RowKit Go.Proofs.YtkghgjehjchajaaDoorW.PrintWords Go.Proofs.YtkghgjehjchajaaDoorW.PrintLast Go.Proofs.YtkghgjehjchajaaDoorW.PrintMore
attribute [local go_sem] max2_int min2_int max_two min_two max_three min_three max_four min_four   -- for this text's walks alone
set_option linter.unusedVariables false
set_option linter.unusedSimpArgs false

open Go.Proofs.YtkghgjehjchajaaDoorW Go.Proofs.YtkghgjehjchajaaDoorW.PrintHand Go.Proofs.YtkghgjehjchajaaDoorW.PrintHx
/-! ### laws_szSnap: function 9 -/
open Go.Proofs.YtkghgjehjchajaaDoorW.PrintLe Go.Proofs.YtkghgjehjchajaaDoorW.PrintGrow Go.Proofs.YtkghgjehjchajaaDoorW.PrintDec Go.Proofs.YtkghgjehjchajaaDoorW.PrintIno Go.Proofs.YtkghgjehjchajaaDoorW.PrintTab2 Go.Proofs.YtkghgjehjchajaaDoorW.PrintTab3 Go.Proofs.YtkghgjehjchajaaDoorW.PrintFsi Go.Proofs.YtkghgjehjchajaaDoorW.PrintFsb Go.Proofs.YtkghgjehjchajaaDoorW.PrintFsd Go.Proofs.YtkghgjehjchajaaDoorW.PrintCrc Go.Proofs.YtkghgjehjchajaaDoorW.PrintSnp
def laws_szSnap.f (s : ByteArray) (a1 : Int) : Option Int := some (if wrap64 (a1 - (s.size : Int)) < 0 then -1 else wrap64 (a1 - (s.size : Int)))
set_option maxHeartbeats 8000000 in
set_option maxRecDepth 100000 in
theorem laws_szSnap.calls (x : Int) (s : ByteArray) (p q : Int) (r : List Int) (nr : r.length = 15) (a1 r1 : Int) (w : World) (h : laws_szSnap.f s a1 = some r1) :
    Calls Tryd.prog 9 #[.agg (snapC x s p q r).toArray, .int .i64 a1] w fun e w' => e = .returned (.int .i64 r1) ∧ Below w.heap.size w w' := by
  have NR := Aside0.mk nr
  unfold laws_szSnap.f at h
  have H := Aside0.mk (Option.some.inj h)
  clear h nr
  have HB0 : Aside0 (Below w.heap.size w w) := ⟨Below.refl _ _⟩
  obtain ⟨s0, Sz0⟩ : ∃ s0, Aside0 (w.heap.size = s0) := ⟨_, ⟨rfl⟩⟩
  have hw0 : w.heap.size ≤ s0 := Nat.le_of_eq Sz0.out
  have hw1 : s0 ≤ w.heap.size := Nat.le_of_eq Sz0.out.symm
  obtain ⟨b, hb⟩ : ∃ b, b = decide (wrap64 (a1 - (s.size : Int)) < 0) := ⟨_, rfl⟩
  cases b
  · have hd_ := hb.symm
    have hn_ := Aside0.mk (of_decide_eq_false hd_)
    clear hb
    go_enter Tryd.func9, Tryd.ntmps9
    go_wp2_with (first | ((with_reducible refine gate_dst (N := 2) rfl ?_); refine hx_box rfl 2 rfl 26 (.tmp 0) rfl Sz0 (.agg (snapC x s p q r).toArray) (snapC x s p q r).toArray rfl (by simp [Value.cells]) ?_; intro w1 s1 L1 Sz1 b1_ g_; have H1 := Aside0.mk g_; have HB := Aside0.mk (below_then HB0.out HB0.out.size b1_); clear g_ HB0 b1_) | ((with_reducible refine gate_dst (N := 7) rfl ?_); refine wpList_ld1 rfl 9 (.tmp 6) rfl s0 1 rfl (.string s) Tryd.underlying9 rfl H1.out rfl ?_))
    go_ret
    exact ⟨by rw [← H.out, if_neg (by have := hn_.out; omega)]; rfl, HB.out⟩
  · have hd_ := hb.symm
    have hn_ := Aside0.mk (of_decide_eq_true hd_)
    clear hb
    go_enter Tryd.func9, Tryd.ntmps9
    go_wp2_with (first | ((with_reducible refine gate_dst (N := 2) rfl ?_); refine hx_box rfl 2 rfl 26 (.tmp 0) rfl Sz0 (.agg (snapC x s p q r).toArray) (snapC x s p q r).toArray rfl (by simp [Value.cells]) ?_; intro w1 s1 L1 Sz1 b1_ g_; have H1 := Aside0.mk g_; have HB := Aside0.mk (below_then HB0.out HB0.out.size b1_); clear g_ HB0 b1_) | ((with_reducible refine gate_dst (N := 7) rfl ?_); refine wpList_ld1 rfl 9 (.tmp 6) rfl s0 1 rfl (.string s) Tryd.underlying9 rfl H1.out rfl ?_))
    go_ret
    exact ⟨by rw [← H.out, if_pos (by have := hn_.out; omega)]; rfl, HB.out⟩

/-! ### spec_l02Within: function 37 -/
def spec_l02Within.f (a0 : Int) (a1 : Int) (a2 : Int) : Option (Bool) := if a0 ≥ a1 then (some (decide (a0 ≤ a2))) else (some false)
set_option maxHeartbeats 8000000 in
set_option maxRecDepth 100000 in
theorem spec_l02Within.calls (a0 : Int) (a1 : Int) (a2 : Int) (r : Bool) (w : World) (h : spec_l02Within.f a0 a1 a2 = some r) :
    Calls Tryd.prog 37 #[.int .i64 a0, .int .i64 a1, .int .i64 a2] w fun e w' => e = .returned (.bool r) ∧ Drawn0 w w' := by
  have H : (if a0 ≥ a1 then (some (decide (a0 ≤ a2))) else (some false)) = some r := h
  clear h
  by_cases c4 : a0 ≥ a1
  · rw [if_pos c4] at H
    have c4b0 : decide (a1 ≤ a0) = true := decide_eq_true c4
    clear c4
    obtain rfl := Option.some.inj H
    go_enter Tryd.func37, Tryd.ntmps37
    go_wp2
    go_ret
    exact ⟨by first | rfl | (simp; done) | (simp [*]; done), by repeat (first | exact Drawn0.refl _ | apply Drawn0.step)⟩
  · rw [if_neg c4] at H
    have c4b0 : decide (a1 ≤ a0) = false := decide_eq_false c4
    clear c4
    obtain rfl := Option.some.inj H
    go_enter Tryd.func37, Tryd.ntmps37
    go_wp2
    go_ret
    exact ⟨by first | rfl | (simp; done) | (simp [*]; done), by repeat (first | exact Drawn0.refl _ | apply Drawn0.step)⟩

/-! ### spec_CheckName: function 38 -/
mutual
def spec_CheckName.j0 : Nat → ByteArray → Bool → Option (Int)
  | 0, _, _ => none
  | k + 1, x0, x13 => if x13 = true then (some 7) else (if (x0.size : Int) > 26 then (some 12) else (spec_CheckName.l0 k x0 0))
def spec_CheckName.l0 : Nat → ByteArray → Int → Option (Int)
  | 0, _, _ => none
  | k + 1, x0, x3 => if x3 < (x0.size : Int) then (if 0 ≤ x3 then (if (bt x0 x3) = 47 then (some 7) else (if (bt x0 x3) = 0 then (some 7) else (spec_CheckName.l0 k x0 (wrap64 (x3 + 1))))) else (none)) else (some 0)
end
def spec_CheckName.f (k : Nat) (a0 : ByteArray) : Option (Int) := if a0.toList = ([] : List UInt8) then (spec_CheckName.j0 k a0 true) else (if a0.toList = ([46] : List UInt8) then (spec_CheckName.j0 k a0 true) else (spec_CheckName.j0 k a0 (a0.toList == ([46, 46] : List UInt8))))
theorem spec_CheckName.mono_l : ∀ k, (∀ y0 y1, LeO (spec_CheckName.j0 k y0 y1) (spec_CheckName.j0 (k + 1) y0 y1)) ∧ (∀ y0 y1, LeO (spec_CheckName.l0 k y0 y1) (spec_CheckName.l0 (k + 1) y0 y1))
  | 0 => ⟨fun _ _ r h => by simp [spec_CheckName.j0] at h, fun _ _ r h => by simp [spec_CheckName.l0] at h⟩
  | k + 1 => by
    obtain ⟨ih0, ih1⟩ := spec_CheckName.mono_l k
    refine ⟨?_, ?_⟩
    · intro y0 y1
      unfold spec_CheckName.j0
      repeat' first
      | (with_reducible exact ih0 _ _)
      | (with_reducible exact ih1 _ _)
      | (with_reducible exact LeO.refl _)
      | (with_reducible exact LeO.none _)
      | (with_reducible refine LeO.ite ?_ ?_)
      | (with_reducible refine LeO.bind ?_ (fun _ => ?_))
      | exact ih0 _ _
      | exact ih1 _ _
      | exact LeO.none _
      | refine LeO.ite ?_ ?_
      | refine LeO.bind ?_ (fun _ => ?_)
    · intro y0 y1
      unfold spec_CheckName.l0
      repeat' first
      | (with_reducible exact ih0 _ _)
      | (with_reducible exact ih1 _ _)
      | (with_reducible exact LeO.refl _)
      | (with_reducible exact LeO.none _)
      | (with_reducible refine LeO.ite ?_ ?_)
      | (with_reducible refine LeO.bind ?_ (fun _ => ?_))
      | exact ih0 _ _
      | exact ih1 _ _
      | exact LeO.none _
      | refine LeO.ite ?_ ?_
      | refine LeO.bind ?_ (fun _ => ?_)
theorem spec_CheckName.mono : ∀ a0 k, LeO (spec_CheckName.f k a0) (spec_CheckName.f (k + 1) a0) := by
  intro a0 k
  obtain ⟨ih0, ih1⟩ := spec_CheckName.mono_l k
  unfold spec_CheckName.f
  repeat' first
      | (with_reducible exact ih0 _ _)
      | (with_reducible exact ih1 _ _)
      | (with_reducible exact LeO.refl _)
      | (with_reducible exact LeO.none _)
      | (with_reducible refine LeO.ite ?_ ?_)
      | (with_reducible refine LeO.bind ?_ (fun _ => ?_))
      | exact ih0 _ _
      | exact ih1 _ _
      | exact LeO.none _
      | refine LeO.ite ?_ ?_
      | refine LeO.bind ?_ (fun _ => ?_)
set_option maxHeartbeats 8000000 in
set_option maxRecDepth 100000 in
theorem spec_CheckName.calls (k : Nat) (a0 : ByteArray) (r : Int) (w : World) (h : spec_CheckName.f k a0 = some r) :
    Calls Tryd.prog 38 #[.string a0] w fun e w' => e = .returned (.int .i64 r) ∧ Drawn0 w w' := by
  have H : (if a0.toList = ([] : List UInt8) then (spec_CheckName.j0 k a0 true) else (if a0.toList = ([46] : List UInt8) then (spec_CheckName.j0 k a0 true) else (spec_CheckName.j0 k a0 (a0.toList == ([46, 46] : List UInt8))))) = some r := h
  clear h
  have HC2 := Aside0.mk H
  clear H
  go_enter Tryd.func38, Tryd.ntmps38
  go_upto_region 1 with (fail)
  go_cut [13] (fun v13 wc => ∃ (kq : Nat) (x13_1 : Bool), v13 = .bool x13_1 ∧ Aside0 (spec_CheckName.j0 kq a0 x13_1 = some r) ∧ Aside0 (kq ≤ k) ∧ Drawn0 w wc)
  case first =>
    have H := HC2.out
    clear HC2
    by_cases c3 : a0.toList = ([] : List UInt8)
    · rw [if_pos c3] at H
      have c3b0 : (a0.toList == ([] : List UInt8)) = true := beq_iff_eq.mpr c3
      have c3b1 : (a0.toList != ([] : List UInt8)) = false := bne_eq_false_iff_eq.mpr c3
      clear c3
      (first | rw [c3b0] | (simp only [i64_w, i32_w]; rw [c3b0]) | skip)
      have H' := Aside0.mk H
      clear H
      go_wp2
      go_meet
      case rel => exact ⟨_, (true), (by first | rfl | (simp; done) | (simp [*]; done)), H', ⟨by first | omega | exact Nat.le_refl _⟩, by repeat (first | exact Drawn0.refl _ | apply Drawn0.step)⟩
    · rw [if_neg c3] at H
      have c3b0 : (a0.toList == ([] : List UInt8)) = false := beq_eq_false_iff_ne.mpr c3
      have c3b1 : (a0.toList != ([] : List UInt8)) = true := bne_iff_ne.mpr c3
      (first | rw [c3b0] | (simp only [i64_w, i32_w]; rw [c3b0]) | skip)
      by_cases c4 : a0.toList = ([46] : List UInt8)
      · rw [if_pos c4] at H
        have c4b0 : (a0.toList == ([46] : List UInt8)) = true := beq_iff_eq.mpr c4
        have c4b1 : (a0.toList != ([46] : List UInt8)) = false := bne_eq_false_iff_eq.mpr c4
        clear c4
        have H' := Aside0.mk H
        clear H
        go_wp2
        go_meet
        case rel => exact ⟨_, (true), (by first | rfl | (simp; done) | (simp [*]; done)), H', ⟨by first | omega | exact Nat.le_refl _⟩, by repeat (first | exact Drawn0.refl _ | apply Drawn0.step)⟩
      · rw [if_neg c4] at H
        have c4b0 : (a0.toList == ([46] : List UInt8)) = false := beq_eq_false_iff_ne.mpr c4
        have c4b1 : (a0.toList != ([46] : List UInt8)) = true := bne_iff_ne.mpr c4
        have H' := Aside0.mk H
        clear H
        go_wp2
        go_meet
        case rel => exact ⟨_, ((a0.toList == ([46, 46] : List UInt8))), (by first | rfl | (simp; done) | (simp [*]; done)), H', ⟨by first | omega | exact Nat.le_refl _⟩, by repeat (first | exact Drawn0.refl _ | apply Drawn0.step)⟩
  case rest =>
    clear HC2
    try clear p2
    try clear c3
    try clear c3b0
    try clear c3b1
    try clear c4
    try clear c4b0
    try clear c4b1
    obtain ⟨kq, x13_1, rfl, HA, HJ1, ⟨mc1, rfl⟩⟩ := hcut
    cases kq with
    | zero => exact absurd HA.out (by simp [spec_CheckName.j0])
    | succ kj1 =>
      have H := HA.out
      clear HA
      simp only [spec_CheckName.j0] at H
      by_cases c5 : x13_1 = true
      · subst c5
        have H1 : (some 7) = some r := by rw [if_pos rfl] at H; exact H
        clear H
        have H := H1
        clear H1
        obtain rfl := Option.some.inj H
        go_wp2
        go_ret
        exact ⟨by first | rfl | (simp; done) | (simp [*]; done), by repeat (first | exact Drawn0.refl _ | apply Drawn0.step)⟩
      · replace c5 := Bool.eq_false_iff.mpr c5
        subst c5
        have H1 : (if (a0.size : Int) > 26 then (some 12) else (spec_CheckName.l0 kj1 a0 0)) = some r := by rw [if_neg (show ¬ (false = true) by decide)] at H; exact H
        clear H
        have H := H1
        clear H1
        by_cases c6 : (a0.size : Int) > 26
        · rw [if_pos c6] at H
          have c6b0 : decide (26 < (a0.size : Int)) = true := decide_eq_true c6
          have c6b1 : decide (26 < a0.size) = true := decide_eq_true (by omega)
          clear c6
          obtain rfl := Option.some.inj H
          go_wp2
          go_ret
          exact ⟨by first | rfl | (simp; done) | (simp [*]; done), by repeat (first | exact Drawn0.refl _ | apply Drawn0.step)⟩
        · rw [if_neg c6] at H
          have c6b0 : decide (26 < (a0.size : Int)) = false := decide_eq_false c6
          have c6b1 : decide (26 < a0.size) = false := decide_eq_false (by omega)
          clear c6
          have H' := Aside0.mk H
          clear H
          go_wp2
          go_loopg [3] kj1 (fun kq v3 w' => ∃ (x3_2 : Int), v3 = .int .i64 x3_2 ∧ Aside0 (spec_CheckName.l0 kq a0 x3_2 = some r) ∧ Aside0 (kq ≤ kj1) ∧ Drawn0 w w')
          case atStart => exact ⟨(0), (by first | rfl | (simp; done) | (simp [*]; done)), H', ⟨Nat.le_refl _⟩, by repeat (first | exact Drawn0.refl _ | apply Drawn0.step)⟩
          case round =>
            clear H'
            try clear c1
            try clear p2
            try clear c3
            try clear c3b0
            try clear c3b1
            try clear c4
            try clear c4b0
            try clear c4b1
            try clear c5
            try clear c6
            try clear c6b0
            try clear c6b1
            try clear p2
            obtain ⟨x3_2, rfl, HA, HK2, ⟨m2, rfl⟩⟩ := hrel
            cases gk with
            | zero => exact absurd HA.out (by simp [spec_CheckName.l0])
            | succ k2 =>
              have H := HA.out
              clear HA
              simp only [spec_CheckName.l0] at H
              by_cases c7 : x3_2 < (a0.size : Int)
              · rw [if_pos c7] at H
                have c7b0 : decide (x3_2 < (a0.size : Int)) = true := decide_eq_true c7
                clear c7
                by_cases c8 : 0 ≤ x3_2
                · rw [if_pos c8] at H
                  have c8b0 : decide (0 ≤ x3_2) = true := decide_eq_true c8
                  clear c8
                  by_cases c10 : (bt a0 x3_2) = 47
                  · rw [if_pos c10] at H
                    have c10b0 : ((bt a0 x3_2) == 47) = true := beq_iff_eq.mpr c10
                    have c10b1 : ((bt a0 x3_2) != 47) = false := bne_eq_false_iff_eq.mpr c10
                    clear c10
                    obtain rfl := Option.some.inj H
                    have p9 : 0 ≤ (x3_2 : Int) := of_decide_eq_true (by first | (with_reducible assumption) | assumption)
                    have q9 : x3_2 < (a0.size : Int) := of_decide_eq_true (by first | (with_reducible assumption) | assumption)
                    have hx9 := bt_at a0 x3_2
                    replace p9 := eq_true p9
                    replace q9 := eq_true q9
                    go_wp2
                    go_ret
                    exact ⟨by first | rfl | (simp; done) | (simp [*]; done), by repeat (first | exact Drawn0.refl _ | apply Drawn0.step)⟩
                  · rw [if_neg c10] at H
                    have c10b0 : ((bt a0 x3_2) == 47) = false := beq_eq_false_iff_ne.mpr c10
                    have c10b1 : ((bt a0 x3_2) != 47) = true := bne_iff_ne.mpr c10
                    by_cases c12 : (bt a0 x3_2) = 0
                    · rw [if_pos c12] at H
                      have c12b0 : ((bt a0 x3_2) == 0) = true := beq_iff_eq.mpr c12
                      have c12b1 : ((bt a0 x3_2) != 0) = false := bne_eq_false_iff_eq.mpr c12
                      clear c12
                      obtain rfl := Option.some.inj H
                      have p9 : 0 ≤ (x3_2 : Int) := of_decide_eq_true (by first | (with_reducible assumption) | assumption)
                      have q9 : x3_2 < (a0.size : Int) := of_decide_eq_true (by first | (with_reducible assumption) | assumption)
                      have hx9 := bt_at a0 x3_2
                      replace p9 := eq_true p9
                      replace q9 := eq_true q9
                      have p11 : 0 ≤ (x3_2 : Int) := of_decide_eq_true (by first | (with_reducible assumption) | assumption)
                      have q11 : x3_2 < (a0.size : Int) := of_decide_eq_true (by first | (with_reducible assumption) | assumption)
                      have hx11 := bt_at a0 x3_2
                      replace p11 := eq_true p11
                      replace q11 := eq_true q11
                      go_wp2
                      go_ret
                      exact ⟨by first | rfl | (simp; done) | (simp [*]; done), by repeat (first | exact Drawn0.refl _ | apply Drawn0.step)⟩
                    · rw [if_neg c12] at H
                      have c12b0 : ((bt a0 x3_2) == 0) = false := beq_eq_false_iff_ne.mpr c12
                      have c12b1 : ((bt a0 x3_2) != 0) = true := bne_iff_ne.mpr c12
                      have H' := Aside0.mk H
                      clear H
                      have p9 : 0 ≤ (x3_2 : Int) := of_decide_eq_true (by first | (with_reducible assumption) | assumption)
                      have q9 : x3_2 < (a0.size : Int) := of_decide_eq_true (by first | (with_reducible assumption) | assumption)
                      have hx9 := bt_at a0 x3_2
                      replace p9 := eq_true p9
                      replace q9 := eq_true q9
                      have p11 : 0 ≤ (x3_2 : Int) := of_decide_eq_true (by first | (with_reducible assumption) | assumption)
                      have q11 : x3_2 < (a0.size : Int) := of_decide_eq_true (by first | (with_reducible assumption) | assumption)
                      have hx11 := bt_at a0 x3_2
                      replace p11 := eq_true p11
                      replace q11 := eq_true q11
                      go_wp2
                      go_roundg k2
                      case measure => have := HJ1.out; have := HK2.out; omega
                      case rel => exact ⟨(wrap64 (x3_2 + 1)), (by first | rfl | (simp; done) | (simp [*]; done)), H', ⟨by have := HJ1.out; have := HK2.out; omega⟩, by repeat (first | exact Drawn0.refl _ | apply Drawn0.step)⟩
                · rw [if_neg c8] at H
                  exact absurd H (by simp)
              · rw [if_neg c7] at H
                have c7b0 : decide (x3_2 < (a0.size : Int)) = false := decide_eq_false c7
                clear c7
                obtain rfl := Option.some.inj H
                go_wp2
                go_ret
                exact ⟨by first | rfl | (simp; done) | (simp [*]; done), by repeat (first | exact Drawn0.refl _ | apply Drawn0.step)⟩

open Go.Proofs.YtkghgjehjchajaaDoorW Go.Proofs.YtkghgjehjchajaaDoorW.PrintHand Go.Proofs.YtkghgjehjchajaaDoorW.PrintHx
/-! ### spec_l02Pointers: function 72 -/
def spec_l02Pointers.f (a0 : List Int) : Option (List Int) := if a0.length = 15 then some (seg a0 1 14) else none
set_option maxHeartbeats 8000000 in
set_option maxRecDepth 100000 in
theorem spec_l02Pointers.calls (a0 : List Int) (n0 : a0.length = 15) (r : List Int) (w : World) (h : spec_l02Pointers.f a0 = some r) :
    Calls Tryd.prog 72 #[.agg (nums .i64 a0).toArray] w fun e w' => ∃ v0_ : Value, e = .returned (v0_) ∧ Kd.R (Kd.int .i64) 3 w' w.heap.size (fun _ => True) v0_ r ∧ Below w.heap.size w w' := by
  unfold spec_l02Pointers.f at h
  rw [if_pos n0] at h
  obtain rfl := Option.some.inj h
  have N_ := Aside0.mk n0
  clear n0 h
  have info3_ : (Tryd.prog.info? 3).map (fun i => (i.zero, i.size, i.bytes)) = some (some (.int .i64 0), 1, 8) := by kernel_rfl
  have hu22 := Tryd.underlying22
  have HB0 : Aside0 (Below w.heap.size w w) := ⟨Below.refl _ _⟩
  obtain ⟨s0, Sz0⟩ : ∃ s0, Aside0 (w.heap.size = s0) := ⟨_, ⟨rfl⟩⟩
  have hw0 : w.heap.size ≤ s0 := Nat.le_of_eq Sz0.out
  have hw1 : s0 ≤ w.heap.size := Nat.le_of_eq Sz0.out.symm
  go_enter Tryd.func72, Tryd.ntmps72
  go_wp2_with (first | ((with_reducible refine gate_dst (N := 1) rfl ?_); refine hx_box rfl 1 rfl 31 (.tmp 0) rfl Sz0 (.agg (nums .i64 a0).toArray) (nums .i64 a0).toArray rfl rfl ?_; intro w1 s1 L1 Sz1 b1 g_; have H0 := Aside0.mk g_; have HB1 := Aside0.mk (below_then HB0.out HB0.out.size b1); clear g_ HB0 b1) | ((with_reducible refine gate_dst (N := 4) rfl ?_); refine Kd.R_lit (Kd.int .i64) (w0 := w) w.heap.size 3 rfl (N := 4) rfl (xs := ([] : List Int)) (inner := []) (ok := fun k => k ≠ s0) (okp := fun _ => False) ?hr (Reps.none _ _) (fun _ h_ => h_.elim) (by have := blk_lt H0.out; omega) HB1.out HB1.out.size (by simp) ?_; (case hr => first | (go_simp; done) | (go_simp; rfl)); intro v4 w2 ho hb hg_ hn_; have O4 := Aside0.mk ho; have HB2 := Aside0.mk hb; have H0_2 := Aside0.mk (blk_grown H0.out hg_ (by simp)); clear ho hb hg_ hn_ HB1 H0) | ((with_reducible refine gate_dst (N := 7) rfl ?_); refine Kd.R_append_rows (Kd.int .i64) (w0 := w) w.heap.size rfl (.tmp 4) (.tmp 6) 122 3 (.int .i64 0) 8 rfl Tryd.underlying122 info3_ rfl (by decide) (by omega) v4 [] (seg a0 1 12) (some ⟨s0, 1, none⟩) 12 12 (fun k => k ≠ s0) (fun _ => False) rfl rfl O4.out (part_reads H0_2.out 1 12 (le_len (n := 15) N_.out (by decide)) (by decide)) (fun _ _ h => h) (fun _ h => h.elim) (fun k hk => by have := blk_lt H0_2.out; omega) HB2.out HB2.out.size (by decide) ?_; intro v7 w3 ho hb hg_ hn_; have H0_3 := Aside0.mk (blk_grown H0_2.out hg_ (fun e_ => (O4.out.1 s0 e_.symm) rfl)); have O7 := Aside0.mk ho; have HB3 := Aside0.mk hb; clear ho hb hg_ hn_ HB2 H0_2 O4) | ((with_reducible refine gate_dst (N := 10) rfl ?_); refine hx_loadf rfl 3 (.tmp 9) rfl s0 13 rfl Tryd.underlying3 rfl H0_3.out (lt_len (n := 15) N_.out (by decide)) ?_) | ((with_reducible refine gate_dst (N := 12) rfl ?_); refine hx_loadf rfl 3 (.tmp 11) rfl s0 14 rfl Tryd.underlying3 rfl H0_3.out (lt_len (n := 15) N_.out (by decide)) ?_) | ((with_reducible refine gate_dst (N := 13) rfl ?_); refine Kd.R_lit (Kd.int .i64) (w0 := w) w.heap.size 3 rfl (N := 13) rfl (xs := ([a0.getD 13 0, a0.getD 14 0] : List Int)) (inner := (nums .i64 [a0.getD 13 0, a0.getD 14 0])) (ok := fun k => k ≠ s0) (okp := fun _ => False) ?hr (reps_ints _) (fun _ h_ => h_.elim) (by have := blk_lt H0_3.out; omega) HB3.out HB3.out.size (by simp) ?_; (case hr => first | (go_simp; done) | (go_simp; rfl)); intro v13 w4 ho hb hg_ hn_; have O13 := Aside0.mk ho; have HB4 := Aside0.mk hb; have O7_4 := Aside0.mk (Kd.R_grown O7.out hg_ (fun _ _ => by simp)); have H0_4 := Aside0.mk (blk_grown H0_3.out hg_ (by simp)); clear hb hg_ hn_ HB3 H0_3 O7; obtain ⟨A13, c13, rfl⟩ := Kd.R_slice ho; clear ho) | ((with_reducible refine gate_dst (N := 14) rfl ?_); refine Kd.R_append_rows (Kd.int .i64) (w0 := w) w.heap.size rfl (.tmp 8) (.tmp 13) 122 3 (.int .i64 0) 8 rfl Tryd.underlying122 info3_ rfl (by decide) (by omega) v7 ([] ++ seg a0 1 12) [a0.getD 13 0, a0.getD 14 0] _ _ _ (fun k => k ≠ s0) (fun _ => False) rfl rfl O7_4.out (Kd.R_reads' O13.out).2.2 (fun _ _ h => h) (fun _ h => h.elim) (fun k hk => by have := blk_lt H0_4.out; omega) HB4.out HB4.out.size (by rw [List.nil_append, part_len (n := 15) N_.out (by decide)]; show (12 + 2) * 8 ≤ 140737488355328; decide) ?_; intro v14 w5 ho hb hg_ hn_; have O14 := Aside0.mk ho; have HB5 := Aside0.mk hb; clear ho hb hg_ hn_ HB4 H0_4 O7_4 O13))
  go_ret
  have ho := O14.out
  rw [pointers_of a0 N_.out] at ho
  exact ⟨_, rfl, Kd.R_mono ho (fun _ _ => trivial), HB5.out⟩

/-! ### spec_l02Pointer: function 73 -/
def spec_l02Pointer.f (a0 : Int) : Option (Bool) := if a0 = 0 then (some true) else (if a0 ≥ 2 then (some (decide (a0 < 2048))) else (some false))
set_option maxHeartbeats 8000000 in
set_option maxRecDepth 100000 in
theorem spec_l02Pointer.calls (a0 : Int) (r : Bool) (w : World) (h : spec_l02Pointer.f a0 = some r) :
    Calls Tryd.prog 73 #[.int .i64 a0] w fun e w' => e = .returned (.bool r) ∧ Drawn0 w w' := by
  have H : (if a0 = 0 then (some true) else (if a0 ≥ 2 then (some (decide (a0 < 2048))) else (some false))) = some r := h
  clear h
  by_cases c2 : a0 = 0
  · rw [if_pos c2] at H
    have c2b0 : (a0 == 0) = true := beq_iff_eq.mpr c2
    have c2b1 : (a0 != 0) = false := bne_eq_false_iff_eq.mpr c2
    clear c2
    obtain rfl := Option.some.inj H
    go_enter Tryd.func73, Tryd.ntmps73
    go_wp2
    go_ret
    exact ⟨by first | rfl | (simp; done) | (simp [*]; done), by repeat (first | exact Drawn0.refl _ | apply Drawn0.step)⟩
  · rw [if_neg c2] at H
    have c2b0 : (a0 == 0) = false := beq_eq_false_iff_ne.mpr c2
    have c2b1 : (a0 != 0) = true := bne_iff_ne.mpr c2
    by_cases c3 : a0 ≥ 2
    · rw [if_pos c3] at H
      have c3b0 : decide (2 ≤ a0) = true := decide_eq_true c3
      clear c3
      obtain rfl := Option.some.inj H
      go_enter Tryd.func73, Tryd.ntmps73
      go_wp2
      go_ret
      exact ⟨by first | rfl | (simp; done) | (simp [*]; done), by repeat (first | exact Drawn0.refl _ | apply Drawn0.step)⟩
    · rw [if_neg c3] at H
      have c3b0 : decide (2 ≤ a0) = false := decide_eq_false c3
      clear c3
      obtain rfl := Option.some.inj H
      go_enter Tryd.func73, Tryd.ntmps73
      go_wp2
      go_ret
      exact ⟨by first | rfl | (simp; done) | (simp [*]; done), by repeat (first | exact Drawn0.refl _ | apply Drawn0.step)⟩

open Go.Proofs.YtkghgjehjchajaaDoorW Go.Proofs.YtkghgjehjchajaaDoorW.PrintHand Go.Proofs.YtkghgjehjchajaaDoorW.PrintHx
/-! ### spec_l02Root: function 39 -/
def spec_l02Root.f (a0 : List Int) : Option Bool := some (rootGood a0)
theorem spec_l02Root.ptr (p : Int) : spec_l02Pointer.f p = some (ptrOk p) := by
  unfold spec_l02Pointer.f ptrOk
  by_cases h : p = 0
  · simp [h]
  · by_cases h2 : p ≥ 2
    · simp [h, h2]
    · simp [h, h2]
theorem spec_l02Root.fits {a : List Int} (j : Nat) (h : ptrOk ((seg a 1 14).getD j 0) = true) (h2 : (seg a 1 14).getD j 0 = 0 ∨ least j < (a.getD 0 0 + 511) / 512) : ptrFits a j = true := by
  unfold ptrFits
  rw [h]
  rcases h2 with h2 | h2
  · rw [decide_eq_true h2]; rfl
  · rw [decide_eq_true h2]; simp
theorem spec_l02Root.unfit {a : List Int} (j : Nat) (h : ¬ (seg a 1 14).getD j 0 = 0) (h2 : ¬ least j < (a.getD 0 0 + 511) / 512) : ptrFits a j = false := by
  unfold ptrFits
  rw [decide_eq_false h, decide_eq_false h2]
  simp
set_option maxHeartbeats 8000000 in
set_option maxRecDepth 100000 in
theorem spec_l02Root.calls (a0 : List Int) (n0 : a0.length = 15) (r : Bool) (w : World) (h : spec_l02Root.f a0 = some r) :
    Calls Tryd.prog 39 #[.agg (nums .i64 a0).toArray] w fun e w' => e = .returned (.bool r) ∧ Below w.heap.size w w' := by
  have H := Aside0.mk (Option.some.inj h)
  have N_ := Aside0.mk n0
  clear n0 h
  obtain ⟨s, hs⟩ : ∃ s, s = a0.getD 0 0 := ⟨_, rfl⟩
  have HS := Aside0.mk hs
  clear hs
  obtain ⟨xs, hxs⟩ : ∃ xs, xs = seg a0 1 14 := ⟨_, rfl⟩
  have HP := Aside0.mk (show spec_l02Pointers.f a0 = some xs by rw [hxs]; exact if_pos N_.out)
  have HXL := Aside0.mk (show xs.length = 14 by rw [hxs]; exact part_len (n := 15) N_.out (by decide))
  have HXS := Aside0.mk hxs
  clear hxs
  have HB0 : Aside0 (Below w.heap.size w w) := ⟨Below.refl _ _⟩
  obtain ⟨s0, Sz0⟩ : ∃ s0, Aside0 (w.heap.size = s0) := ⟨_, ⟨rfl⟩⟩
  have hw0 : w.heap.size ≤ s0 := Nat.le_of_eq Sz0.out
  have hw1 : s0 ≤ w.heap.size := Nat.le_of_eq Sz0.out.symm
  by_cases c1 : s < 0
  · have c1_ : decide (s < 0) = true := decide_eq_true c1
    have C1 := Aside0.mk c1
    clear c1
    go_enter Tryd.func39, Tryd.ntmps39
    go_wp2_with (first | ((with_reducible refine gate_dst (N := 1) rfl ?_); refine hx_box rfl 1 rfl 31 (.tmp 0) rfl Sz0 (.agg (nums .i64 a0).toArray) (nums .i64 a0).toArray rfl rfl ?_; intro w1 s1 L1 Sz1 b1 g_; have H0 := Aside0.mk g_; have HB1 := Aside0.mk (below_then HB0.out HB0.out.size b1); clear g_ HB0 b1; have c0_ := row_cell H0.out 0 (lt_len (n := 15) N_.out (by decide)); rw [← HS.out] at c0_))
    go_ret
    refine ⟨?_, HB1.out⟩
    rw [← H.out, rootGood_low (by rw [← HS.out]; exact C1.out)]; rfl
  have c1_ : decide (s < 0) = false := decide_eq_false c1
  have c1n : 0 ≤ s := by omega
  clear c1
  by_cases c2 : 262144 < s
  · have c2_ : decide (262144 < s) = true := decide_eq_true c2
    have C2 := Aside0.mk c2
    clear c2
    go_enter Tryd.func39, Tryd.ntmps39
    go_wp2_with (first | ((with_reducible refine gate_dst (N := 1) rfl ?_); refine hx_box rfl 1 rfl 31 (.tmp 0) rfl Sz0 (.agg (nums .i64 a0).toArray) (nums .i64 a0).toArray rfl rfl ?_; intro w1 s1 L1 Sz1 b1 g_; have H0 := Aside0.mk g_; have HB1 := Aside0.mk (below_then HB0.out HB0.out.size b1); clear g_ HB0 b1; have c0_ := row_cell H0.out 0 (lt_len (n := 15) N_.out (by decide)); rw [← HS.out] at c0_))
    go_ret
    refine ⟨?_, HB1.out⟩
    rw [← H.out, rootGood_high (by rw [← HS.out]; exact C2.out)]; rfl
  have c2_ : decide (262144 < s) = false := decide_eq_false c2
  have c2n : s ≤ 262144 := by omega
  clear c2
  go_enter Tryd.func39, Tryd.ntmps39
  go_wp2_with (first | ((with_reducible refine gate_dst (N := 1) rfl ?_); refine hx_box rfl 1 rfl 31 (.tmp 0) rfl Sz0 (.agg (nums .i64 a0).toArray) (nums .i64 a0).toArray rfl rfl ?_; intro w1 s1 L1 Sz1 b1 g_; have H0 := Aside0.mk g_; have HB1 := Aside0.mk (below_then HB0.out HB0.out.size b1); clear g_ HB0 b1; have c0_ := row_cell H0.out 0 (lt_len (n := 15) N_.out (by decide)); rw [← HS.out] at c0_) | ((with_reducible refine gate_dst (N := 20) rfl ?_); refine hx_load rfl 31 (.tmp 1) rfl s0 15 rfl Tryd.underlying31 rfl (by kernel_rfl) H0.out (nums_size _ _ _ N_.out) ?_) | ((with_reducible refine gate_dst (N := 21) rfl ?_); refine goesL_ (some 21) rfl rfl Tryd.func72 (by kernel_rfl) rfl #[.agg (nums .i64 a0).toArray] rfl (by (try simp only [List.map_toArray, List.map_cons, List.map_nil]); first | done | rfl) ?_; refine (spec_l02Pointers.calls a0 N_.out xs _ HP.out).mono ?_; rintro e_ w3 ⟨v0_, rfl, R_, b_⟩; obtain ⟨A21, c21, rfl⟩ := Kd.R_slice R_; refine ⟨_, rfl, ?_⟩; have O := Aside0.mk R_; have HB := Aside0.mk (below_then HB1.out HB1.out.size b_); clear R_ b_ HB1 H0 c0_))
  (try simp only [Act.put, List.setIfInBounds_toArray, List.set_cons_succ, List.set_cons_zero])
  go_loopw [23] (fun v23 wr => ∃ j : Nat, v23 = .int .i64 (j : Int) ∧ Aside0 (j ≤ 14) ∧ Aside0 (∀ i, i < j → ptrFits a0 i = true) ∧ Drawn0 w3 wr) (fun v23 _ => 14 - (intOf v23).toNat)
  case atStart => exact ⟨0, rfl, ⟨by omega⟩, ⟨fun i hi => absurd hi (Nat.not_lt_zero i)⟩, Drawn0.refl _⟩
  case round =>
    obtain ⟨j, rfl, hj, hall, ⟨m2, rfl⟩⟩ := hrel
    by_cases c9 : j < 14
    · have c9b0 : decide ((j : Int) < (xs.length : Int)) = true := decide_eq_true (by rw [HXL.out]; omega)
      have c9b1 : decide (j < xs.length) = true := decide_eq_true (by rw [HXL.out]; omega)
      have p112 : 0 ≤ (j : Int) := by omega
      have q112 : (j : Int) < (xs.length : Int) := by rw [HXL.out]; omega
      obtain ⟨ad112, e112, hx112⟩ := Kd.at_int (Kd.C_drewN (Kd.R_reads' O.out).2.2 m2) (j : Int) p112 q112
      cases e112
      rw [Int.toNat_natCast] at hx112
      replace p112 := eq_true p112
      replace q112 := eq_true q112
      have q113 : (j < xs.length) = True := eq_true (by rw [HXL.out]; omega)
      obtain ⟨p, hp⟩ : ∃ p, p = rd xs (j : Int) := ⟨_, rfl⟩
      rw [← hp] at hx112
      have HPV := Aside0.mk (show p = (seg a0 1 14).getD j 0 by rw [hp, HXS.out, rd, Int.toNat_natCast])
      have C9 := Aside0.mk c9
      clear hp c9
      by_cases cj : j = 12
      · have hlst : least j = 12 := by rw [least, if_pos cj]
        have cj0_ : ((j : Int) == 12) = true := beq_iff_eq.mpr (by omega)
        have cj1_ : ((j : Int) == 13) = false := beq_eq_false_iff_ne.mpr (by omega)
        have CJ := Aside0.mk cj
        have HLS := Aside0.mk hlst
        clear cj hlst
        by_cases cq : ptrOk p = true
        · have HQ := Aside0.mk ((spec_l02Root.ptr p).trans (by rw [cq]))
          have CQ := Aside0.mk cq
          clear cq
          by_cases cz : p = 0
          · have cz_ : (p != 0) = false := bne_eq_false_iff_eq.mpr cz
            have CZ := Aside0.mk cz
            clear cz
            go_wp2_with (first | (go_at_call 73; refine (spec_l02Pointer.calls p true _ HQ.out).mono ?_; rintro e_ w_ ⟨rfl, ⟨nd, rfl⟩⟩))
            have hg := Aside0.mk (show ptrFits a0 j = true from spec_l02Root.fits j (by rw [← HPV.out]; exact CQ.out) (.inl (by rw [← HPV.out]; exact CZ.out)))
            go_roundw
            case rel =>
              refine ⟨j + 1, by rw [show wrap64 ((j : Int) + 1) = ((j + 1 : Nat) : Int) by (have := C9.out; unfold wrap64; omega)], ⟨by have := C9.out; omega⟩, ⟨fun i hi => ?_⟩, by repeat (first | exact Drawn0.refl _ | apply Drawn0.step)⟩
              by_cases hij : i = j
              · subst hij; exact hg.out
              · exact hall.out i (by omega)
            case measure =>
              rw [show wrap64 ((j : Int) + 1) = ((j + 1 : Nat) : Int) by (have := C9.out; unfold wrap64; omega)]
              simp only [intOf, Int.toNat_natCast]
              have := C9.out
              omega
          · have cz_ : (p != 0) = true := bne_iff_ne.mpr cz
            have CZ := Aside0.mk cz
            clear cz
            by_cases cb : (s + 512 - 1) / 512 ≤ 12
            · have cb_ : decide ((s + 512 - 1) / 512 ≤ 12) = true := decide_eq_true cb
              have CB := Aside0.mk cb
              clear cb
              go_wp2_with (first | (go_at_call 73; refine (spec_l02Pointer.calls p true _ HQ.out).mono ?_; rintro e_ w_ ⟨rfl, ⟨nd, rfl⟩⟩))
              go_ret
              refine ⟨?_, by first | exact pw_below_drewN HB.out _ | exact pw_below_drewN (pw_below_drewN HB.out _) _⟩
              have e_ : rootGood a0 = false := rootGood_bad j (by have := C9.out; omega) (spec_l02Root.unfit j (by rw [← HPV.out]; exact CZ.out) (by rw [HLS.out, ← HS.out]; have := CB.out; omega))
              rw [← H.out, e_]; rfl
            · have cb_ : decide ((s + 512 - 1) / 512 ≤ 12) = false := decide_eq_false cb
              have CB := Aside0.mk cb
              clear cb
              go_wp2_with (first | (go_at_call 73; refine (spec_l02Pointer.calls p true _ HQ.out).mono ?_; rintro e_ w_ ⟨rfl, ⟨nd, rfl⟩⟩))
              have hg := Aside0.mk (show ptrFits a0 j = true from spec_l02Root.fits j (by rw [← HPV.out]; exact CQ.out) (.inr (by rw [HLS.out, ← HS.out]; have := CB.out; omega)))
              go_roundw
              case rel =>
                refine ⟨j + 1, by rw [show wrap64 ((j : Int) + 1) = ((j + 1 : Nat) : Int) by (have := C9.out; unfold wrap64; omega)], ⟨by have := C9.out; omega⟩, ⟨fun i hi => ?_⟩, by repeat (first | exact Drawn0.refl _ | apply Drawn0.step)⟩
                by_cases hij : i = j
                · subst hij; exact hg.out
                · exact hall.out i (by omega)
              case measure =>
                rw [show wrap64 ((j : Int) + 1) = ((j + 1 : Nat) : Int) by (have := C9.out; unfold wrap64; omega)]
                simp only [intOf, Int.toNat_natCast]
                have := C9.out
                omega
        · have cq2 : ptrOk p = false := by simpa using cq
          have HQ := Aside0.mk ((spec_l02Root.ptr p).trans (by rw [cq2]))
          have CQ := Aside0.mk cq2
          clear cq cq2
          go_wp2_with (first | (go_at_call 73; refine (spec_l02Pointer.calls p false _ HQ.out).mono ?_; rintro e_ w_ ⟨rfl, ⟨nd, rfl⟩⟩))
          go_ret
          refine ⟨?_, by first | exact pw_below_drewN HB.out _ | exact pw_below_drewN (pw_below_drewN HB.out _) _⟩
          have e_ : rootGood a0 = false := rootGood_bad j (by have := C9.out; omega) (by rw [ptrFits, ← HPV.out, CQ.out]; rfl)
          rw [← H.out, e_]; rfl
      · by_cases cj2 : j = 13
        · have cj := cj2
          clear cj2
          have hlst : least j = 140 := by rw [least, if_neg (by omega), if_pos cj]
          have cj0_ : ((j : Int) == 12) = false := beq_eq_false_iff_ne.mpr (by omega)
          have cj1_ : ((j : Int) == 13) = true := beq_iff_eq.mpr (by omega)
          have CJ := Aside0.mk cj
          have HLS := Aside0.mk hlst
          clear cj hlst
          by_cases cq : ptrOk p = true
          · have HQ := Aside0.mk ((spec_l02Root.ptr p).trans (by rw [cq]))
            have CQ := Aside0.mk cq
            clear cq
            by_cases cz : p = 0
            · have cz_ : (p != 0) = false := bne_eq_false_iff_eq.mpr cz
              have CZ := Aside0.mk cz
              clear cz
              go_wp2_with (first | (go_at_call 73; refine (spec_l02Pointer.calls p true _ HQ.out).mono ?_; rintro e_ w_ ⟨rfl, ⟨nd, rfl⟩⟩))
              have hg := Aside0.mk (show ptrFits a0 j = true from spec_l02Root.fits j (by rw [← HPV.out]; exact CQ.out) (.inl (by rw [← HPV.out]; exact CZ.out)))
              go_roundw
              case rel =>
                refine ⟨j + 1, by rw [show wrap64 ((j : Int) + 1) = ((j + 1 : Nat) : Int) by (have := C9.out; unfold wrap64; omega)], ⟨by have := C9.out; omega⟩, ⟨fun i hi => ?_⟩, by repeat (first | exact Drawn0.refl _ | apply Drawn0.step)⟩
                by_cases hij : i = j
                · subst hij; exact hg.out
                · exact hall.out i (by omega)
              case measure =>
                rw [show wrap64 ((j : Int) + 1) = ((j + 1 : Nat) : Int) by (have := C9.out; unfold wrap64; omega)]
                simp only [intOf, Int.toNat_natCast]
                have := C9.out
                omega
            · have cz_ : (p != 0) = true := bne_iff_ne.mpr cz
              have CZ := Aside0.mk cz
              clear cz
              by_cases cb : (s + 512 - 1) / 512 ≤ 140
              · have cb_ : decide ((s + 512 - 1) / 512 ≤ 140) = true := decide_eq_true cb
                have CB := Aside0.mk cb
                clear cb
                go_wp2_with (first | (go_at_call 73; refine (spec_l02Pointer.calls p true _ HQ.out).mono ?_; rintro e_ w_ ⟨rfl, ⟨nd, rfl⟩⟩))
                go_ret
                refine ⟨?_, by first | exact pw_below_drewN HB.out _ | exact pw_below_drewN (pw_below_drewN HB.out _) _⟩
                have e_ : rootGood a0 = false := rootGood_bad j (by have := C9.out; omega) (spec_l02Root.unfit j (by rw [← HPV.out]; exact CZ.out) (by rw [HLS.out, ← HS.out]; have := CB.out; omega))
                rw [← H.out, e_]; rfl
              · have cb_ : decide ((s + 512 - 1) / 512 ≤ 140) = false := decide_eq_false cb
                have CB := Aside0.mk cb
                clear cb
                go_wp2_with (first | (go_at_call 73; refine (spec_l02Pointer.calls p true _ HQ.out).mono ?_; rintro e_ w_ ⟨rfl, ⟨nd, rfl⟩⟩))
                have hg := Aside0.mk (show ptrFits a0 j = true from spec_l02Root.fits j (by rw [← HPV.out]; exact CQ.out) (.inr (by rw [HLS.out, ← HS.out]; have := CB.out; omega)))
                go_roundw
                case rel =>
                  refine ⟨j + 1, by rw [show wrap64 ((j : Int) + 1) = ((j + 1 : Nat) : Int) by (have := C9.out; unfold wrap64; omega)], ⟨by have := C9.out; omega⟩, ⟨fun i hi => ?_⟩, by repeat (first | exact Drawn0.refl _ | apply Drawn0.step)⟩
                  by_cases hij : i = j
                  · subst hij; exact hg.out
                  · exact hall.out i (by omega)
                case measure =>
                  rw [show wrap64 ((j : Int) + 1) = ((j + 1 : Nat) : Int) by (have := C9.out; unfold wrap64; omega)]
                  simp only [intOf, Int.toNat_natCast]
                  have := C9.out
                  omega
          · have cq2 : ptrOk p = false := by simpa using cq
            have HQ := Aside0.mk ((spec_l02Root.ptr p).trans (by rw [cq2]))
            have CQ := Aside0.mk cq2
            clear cq cq2
            go_wp2_with (first | (go_at_call 73; refine (spec_l02Pointer.calls p false _ HQ.out).mono ?_; rintro e_ w_ ⟨rfl, ⟨nd, rfl⟩⟩))
            go_ret
            refine ⟨?_, by first | exact pw_below_drewN HB.out _ | exact pw_below_drewN (pw_below_drewN HB.out _) _⟩
            have e_ : rootGood a0 = false := rootGood_bad j (by have := C9.out; omega) (by rw [ptrFits, ← HPV.out, CQ.out]; rfl)
            rw [← H.out, e_]; rfl
        · have cj := And.intro cj cj2
          clear cj2
          have hlst : least j = (j : Int) := by rw [least, if_neg cj.1, if_neg cj.2]
          have cj0_ : ((j : Int) == 12) = false := beq_eq_false_iff_ne.mpr (by omega)
          have cj1_ : ((j : Int) == 13) = false := beq_eq_false_iff_ne.mpr (by omega)
          have CJ := Aside0.mk cj
          have HLS := Aside0.mk hlst
          clear cj hlst
          by_cases cq : ptrOk p = true
          · have HQ := Aside0.mk ((spec_l02Root.ptr p).trans (by rw [cq]))
            have CQ := Aside0.mk cq
            clear cq
            by_cases cz : p = 0
            · have cz_ : (p != 0) = false := bne_eq_false_iff_eq.mpr cz
              have CZ := Aside0.mk cz
              clear cz
              go_wp2_with (first | (go_at_call 73; refine (spec_l02Pointer.calls p true _ HQ.out).mono ?_; rintro e_ w_ ⟨rfl, ⟨nd, rfl⟩⟩))
              have hg := Aside0.mk (show ptrFits a0 j = true from spec_l02Root.fits j (by rw [← HPV.out]; exact CQ.out) (.inl (by rw [← HPV.out]; exact CZ.out)))
              go_roundw
              case rel =>
                refine ⟨j + 1, by rw [show wrap64 ((j : Int) + 1) = ((j + 1 : Nat) : Int) by (have := C9.out; unfold wrap64; omega)], ⟨by have := C9.out; omega⟩, ⟨fun i hi => ?_⟩, by repeat (first | exact Drawn0.refl _ | apply Drawn0.step)⟩
                by_cases hij : i = j
                · subst hij; exact hg.out
                · exact hall.out i (by omega)
              case measure =>
                rw [show wrap64 ((j : Int) + 1) = ((j + 1 : Nat) : Int) by (have := C9.out; unfold wrap64; omega)]
                simp only [intOf, Int.toNat_natCast]
                have := C9.out
                omega
            · have cz_ : (p != 0) = true := bne_iff_ne.mpr cz
              have CZ := Aside0.mk cz
              clear cz
              by_cases cb : (s + 512 - 1) / 512 ≤ (j : Int)
              · have cb_ : decide ((s + 512 - 1) / 512 ≤ (j : Int)) = true := decide_eq_true cb
                have CB := Aside0.mk cb
                clear cb
                go_wp2_with (first | (go_at_call 73; refine (spec_l02Pointer.calls p true _ HQ.out).mono ?_; rintro e_ w_ ⟨rfl, ⟨nd, rfl⟩⟩))
                go_ret
                refine ⟨?_, by first | exact pw_below_drewN HB.out _ | exact pw_below_drewN (pw_below_drewN HB.out _) _⟩
                have e_ : rootGood a0 = false := rootGood_bad j (by have := C9.out; omega) (spec_l02Root.unfit j (by rw [← HPV.out]; exact CZ.out) (by rw [HLS.out, ← HS.out]; have := CB.out; omega))
                rw [← H.out, e_]; rfl
              · have cb_ : decide ((s + 512 - 1) / 512 ≤ (j : Int)) = false := decide_eq_false cb
                have CB := Aside0.mk cb
                clear cb
                go_wp2_with (first | (go_at_call 73; refine (spec_l02Pointer.calls p true _ HQ.out).mono ?_; rintro e_ w_ ⟨rfl, ⟨nd, rfl⟩⟩))
                have hg := Aside0.mk (show ptrFits a0 j = true from spec_l02Root.fits j (by rw [← HPV.out]; exact CQ.out) (.inr (by rw [HLS.out, ← HS.out]; have := CB.out; omega)))
                go_roundw
                case rel =>
                  refine ⟨j + 1, by rw [show wrap64 ((j : Int) + 1) = ((j + 1 : Nat) : Int) by (have := C9.out; unfold wrap64; omega)], ⟨by have := C9.out; omega⟩, ⟨fun i hi => ?_⟩, by repeat (first | exact Drawn0.refl _ | apply Drawn0.step)⟩
                  by_cases hij : i = j
                  · subst hij; exact hg.out
                  · exact hall.out i (by omega)
                case measure =>
                  rw [show wrap64 ((j : Int) + 1) = ((j + 1 : Nat) : Int) by (have := C9.out; unfold wrap64; omega)]
                  simp only [intOf, Int.toNat_natCast]
                  have := C9.out
                  omega
          · have cq2 : ptrOk p = false := by simpa using cq
            have HQ := Aside0.mk ((spec_l02Root.ptr p).trans (by rw [cq2]))
            have CQ := Aside0.mk cq2
            clear cq cq2
            go_wp2_with (first | (go_at_call 73; refine (spec_l02Pointer.calls p false _ HQ.out).mono ?_; rintro e_ w_ ⟨rfl, ⟨nd, rfl⟩⟩))
            go_ret
            refine ⟨?_, by first | exact pw_below_drewN HB.out _ | exact pw_below_drewN (pw_below_drewN HB.out _) _⟩
            have e_ : rootGood a0 = false := rootGood_bad j (by have := C9.out; omega) (by rw [ptrFits, ← HPV.out, CQ.out]; rfl)
            rw [← H.out, e_]; rfl
    · obtain rfl : j = 14 := by have := hj.out; omega
      have c9b0 : decide ((14 : Int) < (xs.length : Int)) = false := decide_eq_false (by rw [HXL.out]; decide)
      have c9b1 : decide (14 < xs.length) = false := decide_eq_false (by rw [HXL.out]; decide)
      go_wp2
      go_ret
      refine ⟨?_, pw_below_drewN HB.out _⟩
      rw [← H.out, rootGood_ok (by rw [← HS.out]; exact c1n) (by rw [← HS.out]; exact c2n) hall.out]; rfl

/-! ### spec_l02TableSize: function 40 -/
def spec_l02TableSize.f (a0 : Int) : Option (Bool) := if a0 ≥ 256 then (if (Int.tmod a0 128) = 0 then (some (decide (a0 ≤ 128128))) else (some false)) else (some false)
set_option maxHeartbeats 8000000 in
set_option maxRecDepth 100000 in
theorem spec_l02TableSize.calls (a0 : Int) (r : Bool) (w : World) (h : spec_l02TableSize.f a0 = some r) :
    Calls Tryd.prog 40 #[.int .i64 a0] w fun e w' => e = .returned (.bool r) ∧ Drawn0 w w' := by
  have H : (if a0 ≥ 256 then (if (Int.tmod a0 128) = 0 then (some (decide (a0 ≤ 128128))) else (some false)) else (some false)) = some r := h
  clear h
  by_cases c2 : a0 ≥ 256
  · rw [if_pos c2] at H
    have c2b0 : decide (256 ≤ a0) = true := decide_eq_true c2
    clear c2
    by_cases c3 : (Int.tmod a0 128) = 0
    · rw [if_pos c3] at H
      have c3b0 : ((Int.tmod a0 128) == 0) = true := beq_iff_eq.mpr c3
      have c3b1 : ((Int.tmod a0 128) != 0) = false := bne_eq_false_iff_eq.mpr c3
      clear c3
      obtain rfl := Option.some.inj H
      go_enter Tryd.func40, Tryd.ntmps40
      go_wp2
      go_ret
      exact ⟨by first | rfl | (simp; done) | (simp [*]; done), by repeat (first | exact Drawn0.refl _ | apply Drawn0.step)⟩
    · rw [if_neg c3] at H
      have c3b0 : ((Int.tmod a0 128) == 0) = false := beq_eq_false_iff_ne.mpr c3
      have c3b1 : ((Int.tmod a0 128) != 0) = true := bne_iff_ne.mpr c3
      obtain rfl := Option.some.inj H
      go_enter Tryd.func40, Tryd.ntmps40
      go_wp2
      go_ret
      exact ⟨by first | rfl | (simp; done) | (simp [*]; done), by repeat (first | exact Drawn0.refl _ | apply Drawn0.step)⟩
  · rw [if_neg c2] at H
    have c2b0 : decide (256 ≤ a0) = false := decide_eq_false c2
    clear c2
    obtain rfl := Option.some.inj H
    go_enter Tryd.func40, Tryd.ntmps40
    go_wp2
    go_ret
    exact ⟨by first | rfl | (simp; done) | (simp [*]; done), by repeat (first | exact Drawn0.refl _ | apply Drawn0.step)⟩

/-! ### spec_l02Join: function 41 -/
def spec_l02Join.l0 : Nat → List Int → List (List Int) → Int → Int → Option (List Int)
  | 0, _, _, _, _ => none
  | k + 1, x3, x7, x8, x9 => if x9 < x8 then (if 0 ≤ x9 then (if x9 < (x7.length : Int) then (if x3.length + (rd_L1 x7 x9).length < 140737488355328 then (spec_l02Join.l0 k (x3 ++ (rd_L1 x7 x9)) x7 x8 (wrap64 (x9 + 1))) else (none)) else (none)) else (none)) else (some x3)
def spec_l02Join.f (k : Nat) (l0 : List (List Int)) : Option (List Int) := spec_l02Join.l0 k (([] : List Int)) l0 (l0.length : Int) 0
theorem spec_l02Join.mono_l : ∀ k, (∀ y0 y1 y2 y3, LeO (spec_l02Join.l0 k y0 y1 y2 y3) (spec_l02Join.l0 (k + 1) y0 y1 y2 y3))
  | 0 => fun _ _ _ _ r h => by simp [spec_l02Join.l0] at h
  | k + 1 => by
    have ih0 := spec_l02Join.mono_l k
    · intro y0 y1 y2 y3
      unfold spec_l02Join.l0
      repeat' first
      | (with_reducible exact ih0 _ _ _ _)
      | (with_reducible exact LeO.refl _)
      | (with_reducible exact LeO.none _)
      | (with_reducible refine LeO.ite ?_ ?_)
      | (with_reducible refine LeO.bind ?_ (fun _ => ?_))
      | exact ih0 _ _ _ _
      | exact LeO.none _
      | refine LeO.ite ?_ ?_
      | refine LeO.bind ?_ (fun _ => ?_)
theorem spec_l02Join.mono : ∀ a0 k, LeO (spec_l02Join.f k a0) (spec_l02Join.f (k + 1) a0) := by
  intro a0 k
  have ih0 := spec_l02Join.mono_l k
  unfold spec_l02Join.f
  repeat' first
      | (with_reducible exact ih0 _ _ _ _)
      | (with_reducible exact LeO.refl _)
      | (with_reducible exact LeO.none _)
      | (with_reducible refine LeO.ite ?_ ?_)
      | (with_reducible refine LeO.bind ?_ (fun _ => ?_))
      | exact ih0 _ _ _ _
      | exact LeO.none _
      | refine LeO.ite ?_ ?_
      | refine LeO.bind ?_ (fun _ => ?_)
set_option maxHeartbeats 8000000 in
set_option maxRecDepth 100000 in
theorem spec_l02Join.calls (k : Nat) (A0 : Option Addr) (c0 : Nat) (l0 : List (List Int)) (r : List Int) (w : World) (hr0 : Kd.C (Kd.slice 5 (Kd.int .u8)) w A0 l0.length l0) (hc0 : l0.length ≤ c0) (h : spec_l02Join.f k l0 = some r) :
    Calls Tryd.prog 41 #[.slice A0 l0.length c0] w fun e w' => ∃ v0_ : Value, e = .returned (v0_) ∧ Kd.R (Kd.int .u8) 5 w' w.heap.size (fun _ => True) v0_ r ∧ Below w.heap.size w w' := by
  have HR0 := Aside0.mk hr0
  have HC0 := Aside0.mk hc0
  clear hr0 hc0
  have HB := Aside0.mk (Below.refl w.heap.size w)
  have H : (spec_l02Join.l0 k (([] : List Int)) l0 (l0.length : Int) 0) = some r := h
  clear h
  obtain ⟨y101, hy101⟩ : ∃ y_ : List Int, y_ = (([] : List Int)) := ⟨_, rfl⟩
  replace H : (spec_l02Join.l0 k y101 l0 (l0.length : Int) 0) = some r := by first | (rw [hy101]; with_reducible exact H) | (have H2_ := (Option.bind_some _ _).symm.trans H; rw [hy101]; with_reducible exact H2_) | (have H2_ := (Option.bind_some _ _).symm.trans H; with_reducible exact H2_) | with_reducible exact H | (rw [hy101]; exact H) | exact H
  have Ny101 := Aside0.mk hy101
  clear hy101
  have H' := Aside0.mk H
  clear H
  go_enter Tryd.func41, Tryd.ntmps41
  go_wp2_with (first | ((with_reducible refine gate_dst (N := 6) rfl ?_); refine Kd.R_lit (Kd.int .u8) _ 5 ?hg (N := 6) ?hd (xs := ([] : List Int)) (inner := []) (ok := fun _ => True) (okp := fun _ => True) ?hr ?hp (fun _ hk => hk) trivial (Below.refl _ _) (Nat.le_refl _) (by simp) ?_; (case hd => rfl); (case hg => rfl); (case hr => first | (go_simp; done) | (go_simp; rfl)); (case hp => exact (Reps.none _ _)); intro v102 w2 ho3 hb hg_ hnew_; clear hg_ hnew_; (first | rw [← Ny101.out] at ho3 | (simp only [Int.reduceToNat] at ho3; rw [← Ny101.out] at ho3)); have n0_ := Aside0.mk (Kd.R_lower ho3 (below_size (by repeat (first | (with_reducible first | exact HB.out | apply below_alloc | apply pw_below_drewN | apply below_drew1) | exact HB.out)))); have n1_ := Aside0.mk (below_step (by repeat (first | (with_reducible first | exact HB.out | apply below_alloc | apply pw_below_drewN | apply below_drew1) | exact HB.out)) hb); clear HB; have HO103 := n0_; have HB := n1_; clear n0_ n1_; clear hb ho3))
  go_loopg [3, 9] k (fun kq v3 v9 w' => ∃ (x3_1 : List Int) (x9_1 : Int), v9 = .int .i64 x9_1 ∧ Aside0 (spec_l02Join.l0 kq x3_1 l0 (l0.length : Int) x9_1 = some r) ∧ Aside0 (kq ≤ k) ∧ Aside0 (Kd.R (Kd.int .u8) 5 w' w.heap.size (fun _ => True) v3 x3_1) ∧ Aside0 (Below w.heap.size w w'))
  case atStart => exact ⟨(y101), (0), (by first | rfl | (simp; done) | (simp [*]; done)), H', ⟨Nat.le_refl _⟩, ⟨by (with_reducible repeat (first | apply Kd.R_alloc | apply Kd.R_drewN | apply Kd.R_drew)); exact HO103.out⟩, ⟨by repeat (first | (with_reducible first | exact HB.out | apply below_alloc | apply pw_below_drewN | apply below_drew1) | exact HB.out)⟩⟩
  case round =>
    clear H'
    try clear p2
    obtain ⟨x3_1, x9_1, rfl, HA, HK1, HO_3, HB⟩ := hrel
    cases gk with
    | zero => exact absurd HA.out (by simp [spec_l02Join.l0])
    | succ k1 =>
      have H := HA.out
      clear HA
      simp only [spec_l02Join.l0] at H
      by_cases c4 : x9_1 < (l0.length : Int)
      · rw [if_pos c4] at H
        have c4b0 : decide (x9_1 < (l0.length : Int)) = true := decide_eq_true c4
        clear c4
        by_cases c5 : 0 ≤ x9_1
        · rw [if_pos c5] at H
          have c5b0 : decide (0 ≤ x9_1) = true := decide_eq_true c5
          clear c5
          by_cases c6 : x9_1 < (l0.length : Int)
          · rw [if_pos c6] at H
            have c6b0 : decide (x9_1 < (l0.length : Int)) = true := decide_eq_true c6
            clear c6
            by_cases c7 : x3_1.length + (rd_L1 l0 x9_1).length < 140737488355328
            · rw [if_pos c7] at H
              have LMc7 := Aside0.mk c7
              clear c7
              obtain ⟨y105, hy105⟩ : ∃ y_ : List Int, y_ = (x3_1 ++ (rd_L1 l0 x9_1)) := ⟨_, rfl⟩
              replace H : (spec_l02Join.l0 k1 y105 l0 (l0.length : Int) (wrap64 (x9_1 + 1))) = some r := by first | (rw [hy105]; with_reducible exact H) | (have H2_ := (Option.bind_some _ _).symm.trans H; rw [hy105]; with_reducible exact H2_) | (have H2_ := (Option.bind_some _ _).symm.trans H; with_reducible exact H2_) | with_reducible exact H | (rw [hy105]; exact H) | exact H
              have Ny105 := Aside0.mk hy105
              clear hy105
              have H' := Aside0.mk H
              clear H
              have p104 : 0 ≤ (x9_1 : Int) := of_decide_eq_true (by first | (with_reducible assumption) | assumption)
              have q104 : x9_1 < (l0.length : Int) := of_decide_eq_true (by first | (with_reducible assumption) | assumption)
              obtain ⟨ad104, A104_0, c104_0, e104, hx104_0, hl104_0, hi104_0⟩ := at_L1 HR0.out x9_1 p104 q104
              cases e104
              replace hx104_0 := (HB.out.cell (World.block_lt_of_cell? w _ hx104_0)).trans hx104_0
              have HR104_0 := Aside0.mk hi104_0
              have HC104_0 := Aside0.mk hl104_0
              clear hi104_0 hl104_0
              replace p104 := eq_true p104
              replace q104 := eq_true q104
              go_wp2_with (first | ((with_reducible refine gate_builtin (b := .append) (xs := #[.tmp 13, .tmp 14]) rfl ?_); at_builtin; refine Kd.R_append_rows (Kd.int .u8) (w0 := w) w.heap.size rfl (.tmp 13) (.tmp 14) 28 5 (.int .u8 0) 1 rfl Tryd.underlying28 info5 rfl (by decide) (by omega) u3 x3_1 (rd_L1 l0 x9_1) _ _ _ (fun _ => True) (fun _ => False) rfl rfl ?aO ?aR (fun _ _ h => h) (fun _ h => h.elim) ?aF ?aB ?aS ?aL ?_; (case aR => repeat (first | exact (Kd.C_below HR104_0.out HB.out) | (with_reducible refine Kd.C_alloc ?_ _) | (with_reducible refine Kd.C_drewN ?_ _) | (with_reducible refine Kd.C_drew ?_))); (case aB => exact (by repeat (first | (with_reducible first | exact HB.out | apply below_alloc | apply pw_below_drewN | apply below_drew1) | exact HB.out))); (case aF => exact (fun _ _ => trivial)); (case aO => exact (by (with_reducible repeat (first | apply Kd.R_alloc | apply Kd.R_drewN | apply Kd.R_drew)); exact HO_3.out)); (case aS => exact (below_size (by repeat (first | (with_reducible first | exact HB.out | apply below_alloc | apply pw_below_drewN | apply below_drew1) | exact HB.out)))); (case aL => have := LMc7.out; omega); intro v106 w8 ho hb hg hat; rw [← Ny105.out] at ho; have n0_ := Aside0.mk (hb); have n1_ := Aside0.mk (ho); clear HB; clear HO_3; have HB := n0_; have HO107 := n1_; clear n0_ n1_; clear ho hb hg hat))
              go_roundg k1
              case measure => have := HK1.out; omega
              case rel => exact ⟨(y105), (wrap64 (x9_1 + 1)), (by first | rfl | (simp; done) | (simp [*]; done)), H', ⟨by have := HK1.out; omega⟩, ⟨by (with_reducible repeat (first | apply Kd.R_alloc | apply Kd.R_drewN | apply Kd.R_drew)); exact HO107.out⟩, ⟨by repeat (first | (with_reducible first | exact HB.out | apply below_alloc | apply pw_below_drewN | apply below_drew1) | exact HB.out)⟩⟩
            · rw [if_neg c7] at H
              exact absurd H (by simp)
          · rw [if_neg c6] at H
            exact absurd H (by simp)
        · rw [if_neg c5] at H
          exact absurd H (by simp)
      · rw [if_neg c4] at H
        have c4b0 : decide (x9_1 < (l0.length : Int)) = false := decide_eq_false c4
        clear c4
        obtain rfl := Option.some.inj H
        go_wp2
        go_ret
        exact ⟨_, by first | rfl | (simp [errW_none, errW_some] <;> rfl) | (simp [*, errW_none, errW_some] <;> rfl), by (with_reducible repeat (first | apply Kd.R_alloc | apply Kd.R_drewN | apply Kd.R_drew)); exact HO_3.out, by repeat (first | (with_reducible first | exact HB.out | apply below_alloc | apply pw_below_drewN | apply below_drew1) | exact HB.out)⟩

/-! ### spec_l02Put: function 42 -/
def spec_l02Put.l0 : Nat → Int → Int → List Int → Int → Option (List Int)
  | 0, _, _, _, _ => none
  | k + 1, x0, x1, x5, x6 => if x6 < x1 then (if x5.length < 140737488355328 then (spec_l02Put.l0 k (wrap64 (Int.tdiv x0 256)) x1 (x5 ++ [(Int.tmod x0 256) % 256]) (wrap64 (x6 + 1))) else (none)) else (some x5)
def spec_l02Put.f (k : Nat) (a0 : Int) (a1 : Int) : Option (List Int) := spec_l02Put.l0 k a0 a1 (([] : List Int)) 0
theorem spec_l02Put.mono_l : ∀ k, (∀ y0 y1 y2 y3, LeO (spec_l02Put.l0 k y0 y1 y2 y3) (spec_l02Put.l0 (k + 1) y0 y1 y2 y3))
  | 0 => fun _ _ _ _ r h => by simp [spec_l02Put.l0] at h
  | k + 1 => by
    have ih0 := spec_l02Put.mono_l k
    · intro y0 y1 y2 y3
      unfold spec_l02Put.l0
      repeat' first
      | (with_reducible exact ih0 _ _ _ _)
      | (with_reducible exact LeO.refl _)
      | (with_reducible exact LeO.none _)
      | (with_reducible refine LeO.ite ?_ ?_)
      | (with_reducible refine LeO.bind ?_ (fun _ => ?_))
      | exact ih0 _ _ _ _
      | exact LeO.none _
      | refine LeO.ite ?_ ?_
      | refine LeO.bind ?_ (fun _ => ?_)
theorem spec_l02Put.mono : ∀ a0 a1 k, LeO (spec_l02Put.f k a0 a1) (spec_l02Put.f (k + 1) a0 a1) := by
  intro a0 a1 k
  have ih0 := spec_l02Put.mono_l k
  unfold spec_l02Put.f
  repeat' first
      | (with_reducible exact ih0 _ _ _ _)
      | (with_reducible exact LeO.refl _)
      | (with_reducible exact LeO.none _)
      | (with_reducible refine LeO.ite ?_ ?_)
      | (with_reducible refine LeO.bind ?_ (fun _ => ?_))
      | exact ih0 _ _ _ _
      | exact LeO.none _
      | refine LeO.ite ?_ ?_
      | refine LeO.bind ?_ (fun _ => ?_)
set_option maxHeartbeats 8000000 in
set_option maxRecDepth 100000 in
theorem spec_l02Put.calls (k : Nat) (a0 : Int) (a1 : Int) (r : List Int) (w : World) (h : spec_l02Put.f k a0 a1 = some r) :
    Calls Tryd.prog 42 #[.int .i64 a0, .int .i64 a1] w fun e w' => ∃ v0_ : Value, e = .returned (v0_) ∧ Kd.R (Kd.int .u8) 5 w' w.heap.size (fun _ => True) v0_ r ∧ Below w.heap.size w w' := by
  have HB := Aside0.mk (Below.refl w.heap.size w)
  have H : (spec_l02Put.l0 k a0 a1 (([] : List Int)) 0) = some r := h
  clear h
  obtain ⟨y108, hy108⟩ : ∃ y_ : List Int, y_ = (([] : List Int)) := ⟨_, rfl⟩
  replace H : (spec_l02Put.l0 k a0 a1 y108 0) = some r := by first | (rw [hy108]; with_reducible exact H) | (have H2_ := (Option.bind_some _ _).symm.trans H; rw [hy108]; with_reducible exact H2_) | (have H2_ := (Option.bind_some _ _).symm.trans H; with_reducible exact H2_) | with_reducible exact H | (rw [hy108]; exact H) | exact H
  have Ny108 := Aside0.mk hy108
  clear hy108
  have H' := Aside0.mk H
  clear H
  go_enter Tryd.func42, Tryd.ntmps42
  go_wp2_with (first | ((with_reducible refine gate_dst (N := 7) rfl ?_); refine Kd.R_lit (Kd.int .u8) _ 5 ?hg (N := 7) ?hd (xs := ([] : List Int)) (inner := []) (ok := fun _ => True) (okp := fun _ => True) ?hr ?hp (fun _ hk => hk) trivial (Below.refl _ _) (Nat.le_refl _) (by simp) ?_; (case hd => rfl); (case hg => rfl); (case hr => first | (go_simp; done) | (go_simp; rfl)); (case hp => exact (Reps.none _ _)); intro v109 w3 ho4 hb hg_ hnew_; clear hg_ hnew_; (first | rw [← Ny108.out] at ho4 | (simp only [Int.reduceToNat] at ho4; rw [← Ny108.out] at ho4)); have n0_ := Aside0.mk (Kd.R_lower ho4 (below_size (by repeat (first | (with_reducible first | exact HB.out | apply below_alloc | apply pw_below_drewN | apply below_drew1) | exact HB.out)))); have n1_ := Aside0.mk (below_step (by repeat (first | (with_reducible first | exact HB.out | apply below_alloc | apply pw_below_drewN | apply below_drew1) | exact HB.out)) hb); clear HB; have HO110 := n0_; have HB := n1_; clear n0_ n1_; clear hb ho4))
  go_loopg [0, 5, 6] k (fun kq v0 v5 v6 w' => ∃ (x0_1 : Int) (x5_1 : List Int) (x6_1 : Int), v0 = .int .i64 x0_1 ∧ v6 = .int .i64 x6_1 ∧ Aside0 (spec_l02Put.l0 kq x0_1 a1 x5_1 x6_1 = some r) ∧ Aside0 (kq ≤ k) ∧ Aside0 (Kd.R (Kd.int .u8) 5 w' w.heap.size (fun _ => True) v5 x5_1) ∧ Aside0 (Below w.heap.size w w'))
  case atStart => exact ⟨(a0), (y108), (0), (by first | rfl | (simp; done) | (simp [*]; done)), (by first | rfl | (simp; done) | (simp [*]; done)), H', ⟨Nat.le_refl _⟩, ⟨by (with_reducible repeat (first | apply Kd.R_alloc | apply Kd.R_drewN | apply Kd.R_drew)); exact HO110.out⟩, ⟨by repeat (first | (with_reducible first | exact HB.out | apply below_alloc | apply pw_below_drewN | apply below_drew1) | exact HB.out)⟩⟩
  case round =>
    clear H'
    try clear p2
    try clear c4
    obtain ⟨x0_1, x5_1, x6_1, rfl, rfl, HA, HK1, HO_5, HB⟩ := hrel
    cases gk with
    | zero => exact absurd HA.out (by simp [spec_l02Put.l0])
    | succ k1 =>
      have H := HA.out
      clear HA
      simp only [spec_l02Put.l0] at H
      by_cases c5 : x6_1 < a1
      · rw [if_pos c5] at H
        have c5b0 : decide (x6_1 < a1) = true := decide_eq_true c5
        clear c5
        by_cases c6 : x5_1.length < 140737488355328
        · rw [if_pos c6] at H
          have LMc6 := Aside0.mk c6
          clear c6
          obtain ⟨y111, hy111⟩ : ∃ y_ : List Int, y_ = (x5_1 ++ [(Int.tmod x0_1 256) % 256]) := ⟨_, rfl⟩
          replace H : (spec_l02Put.l0 k1 (wrap64 (Int.tdiv x0_1 256)) a1 y111 (wrap64 (x6_1 + 1))) = some r := by first | (rw [hy111]; with_reducible exact H) | (have H2_ := (Option.bind_some _ _).symm.trans H; rw [hy111]; with_reducible exact H2_) | (have H2_ := (Option.bind_some _ _).symm.trans H; with_reducible exact H2_) | with_reducible exact H | (rw [hy111]; exact H) | exact H
          have Ny111 := Aside0.mk hy111
          clear hy111
          have H' := Aside0.mk H
          clear H
          go_wp2_with (first | ((with_reducible refine gate_builtin (b := .append) (xs := #[.tmp 13, .tmp 17]) rfl ?_); at_builtin; refine Kd.R_append (Kd.int .u8) (w0 := w) w.heap.size rfl (.tmp 13) (.tmp 17) 28 5 (.int .u8 0) 1 rfl Tryd.underlying28 info5 rfl (by decide) (by omega) u5 x5_1 ((Int.tmod x0_1 256) % 256) [.int .u8 ((Int.tmod x0_1 256) % 256)] (fun _ => True) (fun _ => False) rfl rfl ?aP (fun _ hk => hk.elim) ?aF ?aO ?aB ?aS ?aL ?_; (case aP => exact rfl); (case aB => exact (by repeat (first | (with_reducible first | exact HB.out | apply below_alloc | apply pw_below_drewN | apply below_drew1) | exact HB.out))); (case aF => exact (fun _ _ => trivial)); (case aO => exact (by (with_reducible repeat (first | apply Kd.R_alloc | apply Kd.R_drewN | apply Kd.R_drew)); exact HO_5.out)); (case aS => exact (below_size (by repeat (first | (with_reducible first | exact HB.out | apply below_alloc | apply pw_below_drewN | apply below_drew1) | exact HB.out)))); (case aL => have := LMc6.out; omega); intro v112 w7 ho hb hg hat; rw [← Ny111.out] at ho; have n0_ := Aside0.mk (hb); have n1_ := Aside0.mk (ho); clear HB; clear HO_5; have HB := n0_; have HO113 := n1_; clear n0_ n1_; clear ho hb hg hat))
          go_roundg k1
          case measure => have := HK1.out; omega
          case rel => exact ⟨(wrap64 (Int.tdiv x0_1 256)), (y111), (wrap64 (x6_1 + 1)), (by first | rfl | (simp; done) | (simp [*]; done)), (by first | rfl | (simp; done) | (simp [*]; done)), H', ⟨by have := HK1.out; omega⟩, ⟨by (with_reducible repeat (first | apply Kd.R_alloc | apply Kd.R_drewN | apply Kd.R_drew)); exact HO113.out⟩, ⟨by repeat (first | (with_reducible first | exact HB.out | apply below_alloc | apply pw_below_drewN | apply below_drew1) | exact HB.out)⟩⟩
        · rw [if_neg c6] at H
          exact absurd H (by simp)
      · rw [if_neg c5] at H
        have c5b0 : decide (x6_1 < a1) = false := decide_eq_false c5
        clear c5
        obtain rfl := Option.some.inj H
        go_wp2
        go_ret
        exact ⟨_, by first | rfl | (simp [errW_none, errW_some] <;> rfl) | (simp [*, errW_none, errW_some] <;> rfl), by (with_reducible repeat (first | apply Kd.R_alloc | apply Kd.R_drewN | apply Kd.R_drew)); exact HO_5.out, by repeat (first | (with_reducible first | exact HB.out | apply below_alloc | apply pw_below_drewN | apply below_drew1) | exact HB.out)⟩

/-! ### spec_l02Fill: function 43 -/
def spec_l02Fill.l0 : Nat → Int → List Int → Option (List Int)
  | 0, _, _ => none
  | k + 1, x1, x5 => if (x5.length : Int) < x1 then (if x5.length < 140737488355328 then (spec_l02Fill.l0 k x1 (x5 ++ [0])) else (none)) else (some x5)
def spec_l02Fill.f (k : Nat) (l0 : List Int) (a1 : Int) : Option (List Int) := (some (([] : List Int) : List Int)).bind fun y114 => (if y114.length + l0.length < 140737488355328 then (spec_l02Fill.l0 k a1 (y114 ++ l0)) else (none))
theorem spec_l02Fill.mono_l : ∀ k, (∀ y0 y1, LeO (spec_l02Fill.l0 k y0 y1) (spec_l02Fill.l0 (k + 1) y0 y1))
  | 0 => fun _ _ r h => by simp [spec_l02Fill.l0] at h
  | k + 1 => by
    have ih0 := spec_l02Fill.mono_l k
    · intro y0 y1
      unfold spec_l02Fill.l0
      repeat' first
      | (with_reducible exact ih0 _ _)
      | (with_reducible exact LeO.refl _)
      | (with_reducible exact LeO.none _)
      | (with_reducible refine LeO.ite ?_ ?_)
      | (with_reducible refine LeO.bind ?_ (fun _ => ?_))
      | exact ih0 _ _
      | exact LeO.none _
      | refine LeO.ite ?_ ?_
      | refine LeO.bind ?_ (fun _ => ?_)
theorem spec_l02Fill.mono : ∀ a0 a1 k, LeO (spec_l02Fill.f k a0 a1) (spec_l02Fill.f (k + 1) a0 a1) := by
  intro a0 a1 k
  have ih0 := spec_l02Fill.mono_l k
  unfold spec_l02Fill.f
  repeat' first
      | (with_reducible exact ih0 _ _)
      | (with_reducible exact LeO.refl _)
      | (with_reducible exact LeO.none _)
      | (with_reducible refine LeO.ite ?_ ?_)
      | (with_reducible refine LeO.bind ?_ (fun _ => ?_))
      | exact ih0 _ _
      | exact LeO.none _
      | refine LeO.ite ?_ ?_
      | refine LeO.bind ?_ (fun _ => ?_)
set_option maxHeartbeats 8000000 in
set_option maxRecDepth 100000 in
theorem spec_l02Fill.calls (k : Nat) (A0 : Option Addr) (c0 : Nat) (l0 : List Int) (a1 : Int) (r : List Int) (w : World) (hr0 : Kd.C (Kd.int .u8) w A0 l0.length l0) (hc0 : l0.length ≤ c0) (h : spec_l02Fill.f k l0 a1 = some r) :
    Calls Tryd.prog 43 #[.slice A0 l0.length c0, .int .i64 a1] w fun e w' => ∃ v0_ : Value, e = .returned (v0_) ∧ Kd.R (Kd.int .u8) 5 w' w.heap.size (fun _ => True) v0_ r ∧ Below w.heap.size w w' := by
  have HR0 := Aside0.mk hr0
  have HC0 := Aside0.mk hc0
  clear hr0 hc0
  have HB := Aside0.mk (Below.refl w.heap.size w)
  have H : ((some (([] : List Int) : List Int)).bind fun y114 => (if y114.length + l0.length < 140737488355328 then (spec_l02Fill.l0 k a1 (y114 ++ l0)) else (none))) = some r := h
  clear h
  obtain ⟨y114, hy114⟩ : ∃ y_ : List Int, y_ = (([] : List Int)) := ⟨_, rfl⟩
  replace H : (if y114.length + l0.length < 140737488355328 then (spec_l02Fill.l0 k a1 (y114 ++ l0)) else (none)) = some r := by first | (rw [hy114]; with_reducible exact H) | (have H2_ := (Option.bind_some _ _).symm.trans H; rw [hy114]; with_reducible exact H2_) | (have H2_ := (Option.bind_some _ _).symm.trans H; with_reducible exact H2_) | with_reducible exact H | (rw [hy114]; exact H) | exact H
  have Ny114 := Aside0.mk hy114
  clear hy114
  by_cases c3 : y114.length + l0.length < 140737488355328
  · rw [if_pos c3] at H
    have LMc3 := Aside0.mk c3
    clear c3
    obtain ⟨y117, hy117⟩ : ∃ y_ : List Int, y_ = (y114 ++ l0) := ⟨_, rfl⟩
    replace H : (spec_l02Fill.l0 k a1 y117) = some r := by first | (rw [hy117]; with_reducible exact H) | (have H2_ := (Option.bind_some _ _).symm.trans H; rw [hy117]; with_reducible exact H2_) | (have H2_ := (Option.bind_some _ _).symm.trans H; with_reducible exact H2_) | with_reducible exact H | (rw [hy117]; exact H) | exact H
    have Ny117 := Aside0.mk hy117
    clear hy117
    have H' := Aside0.mk H
    clear H
    go_enter Tryd.func43, Tryd.ntmps43
    go_wp2_with (first | ((with_reducible refine gate_dst (N := 6) rfl ?_); refine Kd.R_lit (Kd.int .u8) _ 5 ?hg (N := 6) ?hd (xs := ([] : List Int)) (inner := []) (ok := fun _ => True) (okp := fun _ => True) ?hr ?hp (fun _ hk => hk) trivial (Below.refl _ _) (Nat.le_refl _) (by simp) ?_; (case hd => rfl); (case hg => rfl); (case hr => first | (go_simp; done) | (go_simp; rfl)); (case hp => exact (Reps.none _ _)); intro v115 w4 ho5 hb hg_ hnew_; clear hg_ hnew_; (first | rw [← Ny114.out] at ho5 | (simp only [Int.reduceToNat] at ho5; rw [← Ny114.out] at ho5)); have n0_ := Aside0.mk (Kd.R_lower ho5 (below_size (by repeat (first | (with_reducible first | exact HB.out | apply below_alloc | apply pw_below_drewN | apply below_drew1) | exact HB.out)))); have n1_ := Aside0.mk (below_step (by repeat (first | (with_reducible first | exact HB.out | apply below_alloc | apply pw_below_drewN | apply below_drew1) | exact HB.out)) hb); clear HB; have HO116 := n0_; have HB := n1_; clear n0_ n1_; clear hb ho5) | ((with_reducible refine gate_builtin (b := .append) (xs := #[.tmp 6, .tmp 7]) rfl ?_); at_builtin; refine Kd.R_append_rows (Kd.int .u8) (w0 := w) w.heap.size rfl (.tmp 6) (.tmp 7) 28 5 (.int .u8 0) 1 rfl Tryd.underlying28 info5 rfl (by decide) (by omega) v115 y114 l0 _ _ _ (fun _ => True) (fun _ => False) rfl rfl ?aO ?aR (fun _ _ h => h) (fun _ h => h.elim) ?aF ?aB ?aS ?aL ?_; (case aR => repeat (first | exact (Kd.C_below HR0.out HB.out) | (with_reducible refine Kd.C_alloc ?_ _) | (with_reducible refine Kd.C_drewN ?_ _) | (with_reducible refine Kd.C_drew ?_))); (case aB => exact (by repeat (first | (with_reducible first | exact HB.out | apply below_alloc | apply pw_below_drewN | apply below_drew1) | exact HB.out))); (case aF => exact (fun _ _ => trivial)); (case aO => exact (by (with_reducible repeat (first | apply Kd.R_alloc | apply Kd.R_drewN | apply Kd.R_drew)); exact HO116.out)); (case aS => exact (below_size (by repeat (first | (with_reducible first | exact HB.out | apply below_alloc | apply pw_below_drewN | apply below_drew1) | exact HB.out)))); (case aL => have := LMc3.out; omega); intro v118 w6 ho hb hg hat; rw [← Ny117.out] at ho; have n0_ := Aside0.mk (hb); have n1_ := Aside0.mk (ho); clear HB; clear HO116; have HB := n0_; have HO119 := n1_; clear n0_ n1_; clear ho hb hg hat))
    go_loopg [5] k (fun kq v5 w' => ∃ (x5_1 : List Int), Aside0 (spec_l02Fill.l0 kq a1 x5_1 = some r) ∧ Aside0 (kq ≤ k) ∧ Aside0 (Kd.R (Kd.int .u8) 5 w' w.heap.size (fun _ => True) v5 x5_1) ∧ Aside0 (Below w.heap.size w w'))
    case atStart => exact ⟨(y117), H', ⟨Nat.le_refl _⟩, ⟨by (with_reducible repeat (first | apply Kd.R_alloc | apply Kd.R_drewN | apply Kd.R_drew)); exact HO119.out⟩, ⟨by repeat (first | (with_reducible first | exact HB.out | apply below_alloc | apply pw_below_drewN | apply below_drew1) | exact HB.out)⟩⟩
    case round =>
      clear H'
      try clear p2
      try clear c3
      try clear c4
      obtain ⟨x5_1, HA, HK1, HO_5, HB⟩ := hrel
      cases gk with
      | zero => exact absurd HA.out (by simp [spec_l02Fill.l0])
      | succ k1 =>
        have H := HA.out
        clear HA
        simp only [spec_l02Fill.l0] at H
        by_cases c7 : (x5_1.length : Int) < a1
        · rw [if_pos c7] at H
          have c7b0 : decide ((x5_1.length : Int) < a1) = true := decide_eq_true c7
          clear c7
          by_cases c8 : x5_1.length < 140737488355328
          · rw [if_pos c8] at H
            have LMc8 := Aside0.mk c8
            clear c8
            obtain ⟨y120, hy120⟩ : ∃ y_ : List Int, y_ = (x5_1 ++ [0]) := ⟨_, rfl⟩
            replace H : (spec_l02Fill.l0 k1 a1 y120) = some r := by first | (rw [hy120]; with_reducible exact H) | (have H2_ := (Option.bind_some _ _).symm.trans H; rw [hy120]; with_reducible exact H2_) | (have H2_ := (Option.bind_some _ _).symm.trans H; with_reducible exact H2_) | with_reducible exact H | (rw [hy120]; exact H) | exact H
            have Ny120 := Aside0.mk hy120
            clear hy120
            have H' := Aside0.mk H
            clear H
            obtain ⟨Ao9, co9, eo9⟩ := Kd.R_slice HO_5.out
            subst eo9
            go_wp2_with (first | ((with_reducible refine gate_builtin (b := .append) (xs := #[.tmp 13, .tmp 14]) rfl ?_); at_builtin; refine Kd.R_append (Kd.int .u8) (w0 := w) w.heap.size rfl (.tmp 13) (.tmp 14) 28 5 (.int .u8 0) 1 rfl Tryd.underlying28 info5 rfl (by decide) (by omega) (.slice Ao9 x5_1.length co9) x5_1 0 [.int .u8 0] (fun _ => True) (fun _ => False) rfl rfl ?aP (fun _ hk => hk.elim) ?aF ?aO ?aB ?aS ?aL ?_; (case aP => exact rfl); (case aB => exact (by repeat (first | (with_reducible first | exact HB.out | apply below_alloc | apply pw_below_drewN | apply below_drew1) | exact HB.out))); (case aF => exact (fun _ _ => trivial)); (case aO => exact (by (with_reducible repeat (first | apply Kd.R_alloc | apply Kd.R_drewN | apply Kd.R_drew)); exact HO_5.out)); (case aS => exact (below_size (by repeat (first | (with_reducible first | exact HB.out | apply below_alloc | apply pw_below_drewN | apply below_drew1) | exact HB.out)))); (case aL => have := LMc8.out; omega); intro v121 w10 ho hb hg hat; rw [← Ny120.out] at ho; have n0_ := Aside0.mk (hb); have n1_ := Aside0.mk (ho); clear HB; clear HO_5; have HB := n0_; have HO122 := n1_; clear n0_ n1_; clear ho hb hg hat))
            go_roundg k1
            case measure => have := HK1.out; omega
            case rel => exact ⟨(y120), H', ⟨by have := HK1.out; omega⟩, ⟨by (with_reducible repeat (first | apply Kd.R_alloc | apply Kd.R_drewN | apply Kd.R_drew)); exact HO122.out⟩, ⟨by repeat (first | (with_reducible first | exact HB.out | apply below_alloc | apply pw_below_drewN | apply below_drew1) | exact HB.out)⟩⟩
          · rw [if_neg c8] at H
            exact absurd H (by simp)
        · rw [if_neg c7] at H
          have c7b0 : decide ((x5_1.length : Int) < a1) = false := decide_eq_false c7
          clear c7
          obtain rfl := Option.some.inj H
          obtain ⟨Ao11, co11, eo11⟩ := Kd.R_slice HO_5.out
          subst eo11
          go_wp2
          go_ret
          exact ⟨_, by first | rfl | (simp [errW_none, errW_some] <;> rfl) | (simp [*, errW_none, errW_some] <;> rfl), by (with_reducible repeat (first | apply Kd.R_alloc | apply Kd.R_drewN | apply Kd.R_drew)); exact HO_5.out, by repeat (first | (with_reducible first | exact HB.out | apply below_alloc | apply pw_below_drewN | apply below_drew1) | exact HB.out)⟩
  · rw [if_neg c3] at H
    exact absurd H (by simp)

/-! ### spec_l02Table: function 94 -/
def spec_l02Table.l0 : Nat → Int → Int → Option (Int)
  | 0, _, _ => none
  | k + 1, x0, x3 => if x3 < 8 then (if (Int.tmod x0 2) = 1 then (spec_l02Table.l0 k (Go.bits .xor .u32 ((Int.tdiv x0 2) % 4294967296) 3988292384) (wrap64 (x3 + 1))) else (spec_l02Table.l0 k ((Int.tdiv x0 2) % 4294967296) (wrap64 (x3 + 1)))) else (some x0)
def spec_l02Table.f (k : Nat) (a0 : Int) : Option (Int) := spec_l02Table.l0 k a0 0
theorem spec_l02Table.mono_l : ∀ k, (∀ y0 y1, LeO (spec_l02Table.l0 k y0 y1) (spec_l02Table.l0 (k + 1) y0 y1))
  | 0 => fun _ _ r h => by simp [spec_l02Table.l0] at h
  | k + 1 => by
    have ih0 := spec_l02Table.mono_l k
    · intro y0 y1
      unfold spec_l02Table.l0
      repeat' first
      | (with_reducible exact ih0 _ _)
      | (with_reducible exact LeO.refl _)
      | (with_reducible exact LeO.none _)
      | (with_reducible refine LeO.ite ?_ ?_)
      | (with_reducible refine LeO.bind ?_ (fun _ => ?_))
      | exact ih0 _ _
      | exact LeO.none _
      | refine LeO.ite ?_ ?_
      | refine LeO.bind ?_ (fun _ => ?_)
theorem spec_l02Table.mono : ∀ a0 k, LeO (spec_l02Table.f k a0) (spec_l02Table.f (k + 1) a0) := by
  intro a0 k
  have ih0 := spec_l02Table.mono_l k
  unfold spec_l02Table.f
  repeat' first
      | (with_reducible exact ih0 _ _)
      | (with_reducible exact LeO.refl _)
      | (with_reducible exact LeO.none _)
      | (with_reducible refine LeO.ite ?_ ?_)
      | (with_reducible refine LeO.bind ?_ (fun _ => ?_))
      | exact ih0 _ _
      | exact LeO.none _
      | refine LeO.ite ?_ ?_
      | refine LeO.bind ?_ (fun _ => ?_)
set_option maxHeartbeats 8000000 in
set_option maxRecDepth 100000 in
theorem spec_l02Table.calls (k : Nat) (a0 : Int) (r : Int) (w : World) (h : spec_l02Table.f k a0 = some r) :
    Calls Tryd.prog 94 #[.int .u32 a0] w fun e w' => e = .returned (.int .u32 r) ∧ Drawn0 w w' := by
  have H : (spec_l02Table.l0 k a0 0) = some r := h
  clear h
  have H' := Aside0.mk H
  clear H
  go_enter Tryd.func94, Tryd.ntmps94
  go_wp2
  go_loopg [0, 3] k (fun kq v0 v3 w' => ∃ (x0_1 : Int) (x3_1 : Int), v0 = .int .u32 x0_1 ∧ v3 = .int .i64 x3_1 ∧ Aside0 (spec_l02Table.l0 kq x0_1 x3_1 = some r) ∧ Aside0 (kq ≤ k) ∧ Drawn0 w w')
  case atStart => exact ⟨(a0), (0), (by first | rfl | (simp; done) | (simp [*]; done)), (by first | rfl | (simp; done) | (simp [*]; done)), H', ⟨Nat.le_refl _⟩, by repeat (first | exact Drawn0.refl _ | apply Drawn0.step)⟩
  case round =>
    clear H'
    obtain ⟨x0_1, x3_1, rfl, rfl, HA, HK1, ⟨m1, rfl⟩⟩ := hrel
    cases gk with
    | zero => exact absurd HA.out (by simp [spec_l02Table.l0])
    | succ k1 =>
      have H := HA.out
      clear HA
      simp only [spec_l02Table.l0] at H
      by_cases c2 : x3_1 < 8
      · rw [if_pos c2] at H
        have c2b0 : decide (x3_1 < 8) = true := decide_eq_true c2
        clear c2
        by_cases c3 : (Int.tmod x0_1 2) = 1
        · rw [if_pos c3] at H
          have c3b0 : ((Int.tmod x0_1 2) == 1) = true := beq_iff_eq.mpr c3
          have c3b1 : ((Int.tmod x0_1 2) != 1) = false := bne_eq_false_iff_eq.mpr c3
          clear c3
          have H' := Aside0.mk H
          clear H
          go_wp2
          go_roundg k1
          case measure => have := HK1.out; omega
          case rel => exact ⟨(Go.bits .xor .u32 ((Int.tdiv x0_1 2) % 4294967296) 3988292384), (wrap64 (x3_1 + 1)), (by first | rfl | (simp; done) | (simp [*]; done)), (by first | rfl | (simp; done) | (simp [*]; done)), H', ⟨by have := HK1.out; omega⟩, by repeat (first | exact Drawn0.refl _ | apply Drawn0.step)⟩
        · rw [if_neg c3] at H
          have c3b0 : ((Int.tmod x0_1 2) == 1) = false := beq_eq_false_iff_ne.mpr c3
          have c3b1 : ((Int.tmod x0_1 2) != 1) = true := bne_iff_ne.mpr c3
          have H' := Aside0.mk H
          clear H
          go_wp2
          go_roundg k1
          case measure => have := HK1.out; omega
          case rel => exact ⟨((Int.tdiv x0_1 2) % 4294967296), (wrap64 (x3_1 + 1)), (by first | rfl | (simp; done) | (simp [*]; done)), (by first | rfl | (simp; done) | (simp [*]; done)), H', ⟨by have := HK1.out; omega⟩, by repeat (first | exact Drawn0.refl _ | apply Drawn0.step)⟩
      · rw [if_neg c2] at H
        have c2b0 : decide (x3_1 < 8) = false := decide_eq_false c2
        clear c2
        obtain rfl := Option.some.inj H
        go_wp2
        go_ret
        exact ⟨by first | rfl | (simp; done) | (simp [*]; done), by repeat (first | exact Drawn0.refl _ | apply Drawn0.step)⟩

/-! ### spec_Crc32: function 74 -/
def spec_Crc32.l0 : Nat → Int → List Int → Int → Int → Option (Int)
  | 0, _, _, _, _ => none
  | k + 1, x3, x6, x7, x8 => if x8 < x7 then (if 0 ≤ x8 then (if x8 < (x6.length : Int) then ((spec_l02Table.f k (Int.tmod (Go.bits .xor .u32 x3 ((rd x6 x8) % 4294967296)) 256)).bind fun t124 => (spec_Crc32.l0 k (Go.bits .xor .u32 ((Int.tdiv x3 256) % 4294967296) t124) x6 x7 (wrap64 (x8 + 1)))) else (none)) else (none)) else (some (Go.bits .xor .u32 x3 4294967295))
def spec_Crc32.f (k : Nat) (l0 : List Int) : Option (Int) := spec_Crc32.l0 k 4294967295 l0 (l0.length : Int) 0
theorem spec_Crc32.mono_l : ∀ k, (∀ y0 y1 y2 y3, LeO (spec_Crc32.l0 k y0 y1 y2 y3) (spec_Crc32.l0 (k + 1) y0 y1 y2 y3))
  | 0 => fun _ _ _ _ r h => by simp [spec_Crc32.l0] at h
  | k + 1 => by
    have ih0 := spec_Crc32.mono_l k
    · intro y0 y1 y2 y3
      unfold spec_Crc32.l0
      repeat' first
      | (with_reducible exact ih0 _ _ _ _)
      | (with_reducible exact spec_l02Table.mono _ _)
      | (with_reducible exact LeO.refl _)
      | (with_reducible exact LeO.none _)
      | (with_reducible refine LeO.ite ?_ ?_)
      | (with_reducible refine LeO.bind ?_ (fun _ => ?_))
      | exact ih0 _ _ _ _
      | exact spec_l02Table.mono _ _
      | exact LeO.none _
      | refine LeO.ite ?_ ?_
      | refine LeO.bind ?_ (fun _ => ?_)
theorem spec_Crc32.mono : ∀ a0 k, LeO (spec_Crc32.f k a0) (spec_Crc32.f (k + 1) a0) := by
  intro a0 k
  have ih0 := spec_Crc32.mono_l k
  unfold spec_Crc32.f
  repeat' first
      | (with_reducible exact ih0 _ _ _ _)
      | (with_reducible exact spec_l02Table.mono _ _)
      | (with_reducible exact LeO.refl _)
      | (with_reducible exact LeO.none _)
      | (with_reducible refine LeO.ite ?_ ?_)
      | (with_reducible refine LeO.bind ?_ (fun _ => ?_))
      | exact ih0 _ _ _ _
      | exact spec_l02Table.mono _ _
      | exact LeO.none _
      | refine LeO.ite ?_ ?_
      | refine LeO.bind ?_ (fun _ => ?_)
set_option maxHeartbeats 8000000 in
set_option maxRecDepth 100000 in
theorem spec_Crc32.calls (k : Nat) (A0 : Option Addr) (c0 : Nat) (l0 : List Int) (r : Int) (w : World) (hr0 : Kd.C (Kd.int .u8) w A0 l0.length l0) (hc0 : l0.length ≤ c0) (h : spec_Crc32.f k l0 = some r) :
    Calls Tryd.prog 74 #[.slice A0 l0.length c0] w fun e w' => e = .returned (.int .u32 r) ∧ Drawn0 w w' := by
  have HR0 := Aside0.mk hr0
  have HC0 := Aside0.mk hc0
  clear hr0 hc0
  have H : (spec_Crc32.l0 k 4294967295 l0 (l0.length : Int) 0) = some r := h
  clear h
  have H' := Aside0.mk H
  clear H
  go_enter Tryd.func74, Tryd.ntmps74
  go_wp2
  go_loopg [3, 8] k (fun kq v3 v8 w' => ∃ (x3_1 : Int) (x8_1 : Int), v3 = .int .u32 x3_1 ∧ v8 = .int .i64 x8_1 ∧ Aside0 (spec_Crc32.l0 kq x3_1 l0 (l0.length : Int) x8_1 = some r) ∧ Aside0 (kq ≤ k) ∧ Drawn0 w w')
  case atStart => exact ⟨(4294967295), (0), (by first | rfl | (simp; done) | (simp [*]; done)), (by first | rfl | (simp; done) | (simp [*]; done)), H', ⟨Nat.le_refl _⟩, by repeat (first | exact Drawn0.refl _ | apply Drawn0.step)⟩
  case round =>
    clear H'
    obtain ⟨x3_1, x8_1, rfl, rfl, HA, HK1, ⟨m1, rfl⟩⟩ := hrel
    cases gk with
    | zero => exact absurd HA.out (by simp [spec_Crc32.l0])
    | succ k1 =>
      have H := HA.out
      clear HA
      simp only [spec_Crc32.l0] at H
      by_cases c2 : x8_1 < (l0.length : Int)
      · rw [if_pos c2] at H
        have c2b0 : decide (x8_1 < (l0.length : Int)) = true := decide_eq_true c2
        clear c2
        by_cases c3 : 0 ≤ x8_1
        · rw [if_pos c3] at H
          have c3b0 : decide (0 ≤ x8_1) = true := decide_eq_true c3
          clear c3
          by_cases c4 : x8_1 < (l0.length : Int)
          · rw [if_pos c4] at H
            have c4b0 : decide (x8_1 < (l0.length : Int)) = true := decide_eq_true c4
            clear c4
            replace H := Option.bind_eq_some_iff.mp H
            obtain ⟨t124, A50, H⟩ := H
            replace H : (spec_Crc32.l0 k1 (Go.bits .xor .u32 ((Int.tdiv x3_1 256) % 4294967296) t124) l0 (l0.length : Int) (wrap64 (x8_1 + 1))) = some r := H
            have A5 := Aside0.mk A50
            clear A50
            have H' := Aside0.mk H
            clear H
            have p123 : 0 ≤ (x8_1 : Int) := of_decide_eq_true (by first | (with_reducible assumption) | assumption)
            have q123 : x8_1 < (l0.length : Int) := of_decide_eq_true (by first | (with_reducible assumption) | assumption)
            obtain ⟨ad123, e123, hx123_0⟩ := Kd.at_int HR0.out x8_1 p123 q123
            cases e123
            replace p123 := eq_true p123
            replace q123 := eq_true q123
            go_wp2_with (first | ((with_reducible refine gate_callee (f := 94) rfl ?_); refine goesL_ (some 19) rfl rfl Tryd.func94 (by kernel_rfl) rfl #[.int .u32 (Int.tmod (Go.bits .xor .u32 x3_1 ((rd l0 x8_1) % 4294967296)) 256)] rfl (by (try simp only [List.map_toArray, List.map_cons, List.map_nil]); first | done | rfl | (simp only [List.length_drop, List.length_take]; rfl)) ?_; (with_reducible refine (spec_l02Table.calls k1 (Int.tmod (Go.bits .xor .u32 x3_1 ((rd l0 x8_1) % 4294967296)) 256) t124 _ A5.out).mono ?_); rintro e w' ⟨rfl, ⟨nd, rfl⟩⟩; refine ⟨_, rfl, ?_⟩))
            go_roundg k1
            case measure => have := HK1.out; omega
            case rel => exact ⟨(Go.bits .xor .u32 ((Int.tdiv x3_1 256) % 4294967296) t124), (wrap64 (x8_1 + 1)), (by first | rfl | (simp; done) | (simp [*]; done)), (by first | rfl | (simp; done) | (simp [*]; done)), H', ⟨by have := HK1.out; omega⟩, by repeat (first | exact Drawn0.refl _ | apply Drawn0.step)⟩
          · rw [if_neg c4] at H
            exact absurd H (by simp)
        · rw [if_neg c3] at H
          exact absurd H (by simp)
      · rw [if_neg c2] at H
        have c2b0 : decide (x8_1 < (l0.length : Int)) = false := decide_eq_false c2
        clear c2
        obtain rfl := Option.some.inj H
        go_wp2
        go_ret
        exact ⟨by first | rfl | (simp; done) | (simp [*]; done), by repeat (first | exact Drawn0.refl _ | apply Drawn0.step)⟩

/-! ### spec_l02Sealed: function 44 -/
def spec_l02Sealed.f (k : Nat) (l0 : List Int) : Option (List Int) := (spec_l02Fill.f k l0 508).bind fun t125 => ((spec_Crc32.f k t125).bind fun t128 => ((spec_l02Put.f k (wrap64 (t128)) 4).bind fun t129 => (if t125.length + t129.length < 140737488355328 then (some (t125 ++ t129)) else (none))))
theorem spec_l02Sealed.mono : ∀ a0 k, LeO (spec_l02Sealed.f k a0) (spec_l02Sealed.f (k + 1) a0) := by
  intro a0 k
  unfold spec_l02Sealed.f
  repeat' first
      | (with_reducible exact spec_Crc32.mono _ _)
      | (with_reducible exact spec_l02Fill.mono _ _ _)
      | (with_reducible exact spec_l02Put.mono _ _ _)
      | (with_reducible exact LeO.refl _)
      | (with_reducible exact LeO.none _)
      | (with_reducible refine LeO.ite ?_ ?_)
      | (with_reducible refine LeO.bind ?_ (fun _ => ?_))
      | exact spec_Crc32.mono _ _
      | exact spec_l02Fill.mono _ _ _
      | exact spec_l02Put.mono _ _ _
      | exact LeO.none _
      | refine LeO.ite ?_ ?_
      | refine LeO.bind ?_ (fun _ => ?_)
set_option maxHeartbeats 8000000 in
set_option maxRecDepth 100000 in
theorem spec_l02Sealed.calls (k : Nat) (A0 : Option Addr) (c0 : Nat) (l0 : List Int) (r : List Int) (w : World) (hr0 : Kd.C (Kd.int .u8) w A0 l0.length l0) (hc0 : l0.length ≤ c0) (h : spec_l02Sealed.f k l0 = some r) :
    Calls Tryd.prog 44 #[.slice A0 l0.length c0] w fun e w' => ∃ v0_ : Value, e = .returned (v0_) ∧ Kd.R (Kd.int .u8) 5 w' w.heap.size (fun _ => True) v0_ r ∧ Below w.heap.size w w' := by
  have HR0 := Aside0.mk hr0
  have HC0 := Aside0.mk hc0
  clear hr0 hc0
  have HB := Aside0.mk (Below.refl w.heap.size w)
  have H : ((spec_l02Fill.f k l0 508).bind fun t125 => ((spec_Crc32.f k t125).bind fun t128 => ((spec_l02Put.f k (wrap64 (t128)) 4).bind fun t129 => (if t125.length + t129.length < 140737488355328 then (some (t125 ++ t129)) else (none))))) = some r := h
  clear h
  replace H := Option.bind_eq_some_iff.mp H
  obtain ⟨t125, A20, H⟩ := H
  replace H : ((spec_Crc32.f k t125).bind fun t128 => ((spec_l02Put.f k (wrap64 (t128)) 4).bind fun t129 => (if t125.length + t129.length < 140737488355328 then (some (t125 ++ t129)) else (none)))) = some r := H
  have A2 := Aside0.mk A20
  clear A20
  replace H := Option.bind_eq_some_iff.mp H
  obtain ⟨t128, A30, H⟩ := H
  replace H : ((spec_l02Put.f k (wrap64 (t128)) 4).bind fun t129 => (if t125.length + t129.length < 140737488355328 then (some (t125 ++ t129)) else (none))) = some r := H
  have A3 := Aside0.mk A30
  clear A30
  replace H := Option.bind_eq_some_iff.mp H
  obtain ⟨t129, A40, H⟩ := H
  replace H : (if t125.length + t129.length < 140737488355328 then (some (t125 ++ t129)) else (none)) = some r := H
  have A4 := Aside0.mk A40
  clear A40
  by_cases c5 : t125.length + t129.length < 140737488355328
  · rw [if_pos c5] at H
    have LMc5 := Aside0.mk c5
    clear c5
    obtain ⟨y132, hy132⟩ : ∃ y_ : List Int, y_ = (t125 ++ t129) := ⟨_, rfl⟩
    replace H : (some y132) = some r := by first | (rw [hy132]; with_reducible exact H) | (have H2_ := (Option.bind_some _ _).symm.trans H; rw [hy132]; with_reducible exact H2_) | (have H2_ := (Option.bind_some _ _).symm.trans H; with_reducible exact H2_) | with_reducible exact H | (rw [hy132]; exact H) | exact H
    have Ny132 := Aside0.mk hy132
    clear hy132
    obtain rfl := Option.some.inj H
    go_enter Tryd.func44, Tryd.ntmps44
    go_wp2_with (first | ((with_reducible refine gate_callee (f := 43) rfl ?_); refine goesL_ (some 5) rfl rfl Tryd.func43 (by kernel_rfl) rfl #[.slice A0 l0.length c0, .int .i64 508] rfl (by (try simp only [List.map_toArray, List.map_cons, List.map_nil]); first | done | rfl | (simp only [List.length_drop, List.length_take]; rfl)) ?_; (with_reducible refine (spec_l02Fill.calls k _ _ l0 508 t125 _ ?side1 ?side2 A2.out).mono ?_); (case side1 => repeat (first | exact HR0.out | (with_reducible refine Kd.C_alloc ?_ _) | (with_reducible refine Kd.C_drewN ?_ _) | (with_reducible refine Kd.C_drew ?_))); (case side2 => exact HC0.out); rintro e w6 ⟨v126, rfl, ho0, hb⟩; refine ⟨_, rfl, ?_⟩; have n0_ := Aside0.mk (Kd.R_lower ho0 (below_size (by repeat (first | (with_reducible first | exact HB.out | apply below_alloc | apply pw_below_drewN | apply below_drew1) | exact HB.out)))); have n1_ := Aside0.mk (below_step (by repeat (first | (with_reducible first | exact HB.out | apply below_alloc | apply pw_below_drewN | apply below_drew1) | exact HB.out)) hb); clear HB; have HO127 := n0_; have HB := n1_; clear n0_ n1_; (try clear hb); (try clear hb2); (try clear hk); (try clear hi); (try clear ho0); obtain ⟨Ao7, co7, eo7⟩ := Kd.R_slice HO127.out; subst eo7) | ((with_reducible refine gate_callee (f := 74) rfl ?_); refine goesL_ (some 8) rfl rfl Tryd.func74 (by kernel_rfl) rfl #[.slice Ao7 t125.length co7] rfl (by (try simp only [List.map_toArray, List.map_cons, List.map_nil]); first | done | rfl | (simp only [List.length_drop, List.length_take]; rfl)) ?_; (with_reducible refine (spec_Crc32.calls k _ _ t125 t128 _ ?side1 ?side2 A3.out).mono ?_); (case side1 => repeat (first | exact (Kd.R_reads' HO127.out).2.2 | (with_reducible refine Kd.C_alloc ?_ _) | (with_reducible refine Kd.C_drewN ?_ _) | (with_reducible refine Kd.C_drew ?_))); (case side2 => exact (Kd.R_reads' HO127.out).2.1); rintro e w' ⟨rfl, ⟨nd, rfl⟩⟩; refine ⟨_, rfl, ?_⟩) | ((with_reducible refine gate_callee (f := 42) rfl ?_); refine goesL_ (some 10) rfl rfl Tryd.func42 (by kernel_rfl) rfl #[.int .i64 (wrap64 (t128)), .int .i64 4] rfl (by (try simp only [List.map_toArray, List.map_cons, List.map_nil]); first | done | rfl | (simp only [List.length_drop, List.length_take]; rfl)) ?_; (with_reducible refine (spec_l02Put.calls k (wrap64 (t128)) 4 t129 _ A4.out).mono ?_); rintro e w8 ⟨v130, rfl, ho0, hb⟩; refine ⟨_, rfl, ?_⟩; have n0_ := Aside0.mk (Kd.R_elder' (by (with_reducible repeat (first | apply Kd.R_alloc | apply Kd.R_drewN | apply Kd.R_drew)); exact HO127.out) (Kd.R_base ho0) hb); have n1_ := Aside0.mk (Kd.R_lower (Kd.R_new' ho0 (Kd.R_lt (by (with_reducible repeat (first | apply Kd.R_alloc | apply Kd.R_drewN | apply Kd.R_drew)); exact HO127.out))) (below_size (by repeat (first | (with_reducible first | exact HB.out | apply below_alloc | apply pw_below_drewN | apply below_drew1) | exact HB.out)))); have n2_ := Aside0.mk (below_step (by repeat (first | (with_reducible first | exact HB.out | apply below_alloc | apply pw_below_drewN | apply below_drew1) | exact HB.out)) hb); clear HO127; clear HB; have HO127 := n0_; have HO131 := n1_; have HB := n2_; clear n0_ n1_ n2_; (try clear hb); (try clear hb2); (try clear hk); (try clear hi); (try clear ho0); obtain ⟨Ao10, co10, eo10⟩ := Kd.R_slice HO131.out; subst eo10) | ((with_reducible refine gate_builtin (b := .append) (xs := #[.tmp 6, .tmp 10]) rfl ?_); at_builtin; refine Kd.R_append_rows (Kd.int .u8) (w0 := w) w.heap.size rfl (.tmp 6) (.tmp 10) 28 5 (.int .u8 0) 1 rfl Tryd.underlying28 info5 rfl (by decide) (by omega) (.slice Ao7 t125.length co7) t125 t129 _ _ _ (fun k_ => some k_ ≠ (.slice Ao10 t129.length co10 : Value).ownBlock) (fun _ => False) rfl rfl ?aO ?aR (fun _ _ h => h) (fun _ h => h.elim) ?aF ?aB ?aS ?aL ?_; (case aR => repeat (first | exact (Kd.R_reads' HO131.out).2.2 | (with_reducible refine Kd.C_alloc ?_ _) | (with_reducible refine Kd.C_drewN ?_ _) | (with_reducible refine Kd.C_drew ?_))); (case aB => exact (by repeat (first | (with_reducible first | exact HB.out | apply below_alloc | apply pw_below_drewN | apply below_drew1) | exact HB.out))); (case aF => exact (fun k_ hk => Kd.fresh' (Kd.R_lt (by (with_reducible repeat (first | apply Kd.R_alloc | apply Kd.R_drewN | apply Kd.R_drew)); exact HO131.out)) k_ hk)); (case aO => exact (by (with_reducible repeat (first | apply Kd.R_alloc | apply Kd.R_drewN | apply Kd.R_drew)); exact Kd.R_mono HO127.out (fun _ hk => hk.2))); (case aS => exact (below_size (by repeat (first | (with_reducible first | exact HB.out | apply below_alloc | apply pw_below_drewN | apply below_drew1) | exact HB.out)))); (case aL => have := LMc5.out; omega); intro v133 w9 ho hb hg hat; rw [← Ny132.out] at ho; have n0_ := Aside0.mk (Kd.R_after (ok := (fun _ => True)) (by (with_reducible repeat (first | apply Kd.R_alloc | apply Kd.R_drewN | apply Kd.R_drew)); exact HO131.out) hg hat); have n1_ := Aside0.mk (hb); have n2_ := Aside0.mk (ho); clear HO131; clear HB; clear HO127; have HO131 := n0_; have HB := n1_; have HO134 := n2_; clear n0_ n1_ n2_; clear ho hb hg hat))
    go_ret
    exact ⟨_, by first | rfl | (simp [errW_none, errW_some] <;> rfl) | (simp [*, errW_none, errW_some] <;> rfl), by (with_reducible repeat (first | apply Kd.R_alloc | apply Kd.R_drewN | apply Kd.R_drew)); exact Kd.R_mono HO134.out (fun _ hk => trivial), by repeat (first | (with_reducible first | exact HB.out | apply below_alloc | apply pw_below_drewN | apply below_drew1) | exact HB.out)⟩
  · rw [if_neg c5] at H
    exact absurd H (by simp)

open Go.Proofs.YtkghgjehjchajaaDoorW Go.Proofs.YtkghgjehjchajaaDoorW.PrintHand Go.Proofs.YtkghgjehjchajaaDoorW.PrintHx
/-! ### spec_l02RootBytes: function 45 -/
open Go.Proofs.YtkghgjehjchajaaDoorW.PrintLe
theorem l02Put_l0 (n : Nat) (hn : n ≤ 4096) : ∀ (d i k : Nat) (v : Int) (x5 : List Int), i + d = n → d < k → 0 ≤ v → v ≤ 9223372036854775807 → x5.length ≤ 4096 + i → spec_l02Put.l0 k v (n : Int) x5 (i : Int) = some (x5 ++ leB v d)
  | 0, i, k, v, x5, h1, h2, h3, h4, h5 => by
    obtain ⟨k, rfl⟩ := sucK h2
    simp only [spec_l02Put.l0]
    rw [if_neg (by omega)]
    simp [leB]
  | d + 1, i, k, v, x5, h1, h2, h3, h4, h5 => by
    obtain ⟨k, rfl⟩ := sucK h2
    simp only [spec_l02Put.l0]
    rw [if_pos (by omega), if_pos (by omega), w64n (by omega), Int.tdiv_eq_ediv_of_nonneg h3, Int.tmod_eq_emod_of_nonneg h3, w64 (by omega) (by omega), l02Put_l0 n hn d (i + 1) k _ _ (by omega) (by omega) (by omega) (by omega) (by simp; omega), List.append_assoc]
    simp only [leB, List.cons_append, List.nil_append]
    rw [Int.emod_emod_of_dvd _ (by decide)]
theorem l02Put_f (v : Int) (n k : Nat) (hn : n ≤ 4096) (h0 : 0 ≤ v) (h1 : v ≤ 9223372036854775807) (hk : n < k) : spec_l02Put.f k v (n : Int) = some (leB v n) := by
  unfold spec_l02Put.f
  have h := l02Put_l0 n hn n 0 k v [] (by omega) hk h0 h1 (by simp)
  rw [List.nil_append] at h
  exact h

def spec_l02RootBytes.f (a0 : List Int) : Option (List Int) := if rootGood a0 = true then some (rootBytes a0) else none
set_option maxHeartbeats 8000000 in
set_option maxRecDepth 100000 in
theorem spec_l02RootBytes.calls (a0 : List Int) (n0 : a0.length = 15) (r : List Int) (w : World) (h : spec_l02RootBytes.f a0 = some r) :
    Calls Tryd.prog 45 #[.agg (nums .i64 a0).toArray] w fun e w' => ∃ v0_ : Value, e = .returned (v0_) ∧ Kd.R (Kd.int .u8) 5 w' w.heap.size (fun _ => True) v0_ r ∧ Below w.heap.size w w' := by
  unfold spec_l02RootBytes.f at h
  by_cases hgood : rootGood a0 = true
  case neg => rw [if_neg hgood] at h; cases h
  rw [if_pos hgood] at h
  obtain rfl := Option.some.inj h
  have N_ := Aside0.mk n0
  have HG := Aside0.mk hgood
  clear n0 h hgood
  obtain ⟨s, hs⟩ : ∃ s, s = a0.getD 0 0 := ⟨_, rfl⟩
  have hs1 : 0 ≤ s ∧ s ≤ 262144 := by rw [hs]; exact rootGood_size HG.out
  have HS := Aside0.mk hs
  have HP8 := Aside0.mk (show spec_l02Put.f 20 s 8 = some (leB s 8) from l02Put_f s 8 20 (by decide) hs1.1 (by omega) (by decide))
  clear hs hs1
  obtain ⟨xs, hxs⟩ : ∃ xs, xs = seg a0 1 14 := ⟨_, rfl⟩
  have HP := Aside0.mk (show spec_l02Pointers.f a0 = some xs by rw [hxs]; exact if_pos N_.out)
  have HXL := Aside0.mk (show xs.length = 14 by rw [hxs]; exact part_len (n := 15) N_.out (by decide))
  have HXS := Aside0.mk hxs
  have HXR := Aside0.mk (show ∀ j, j < 14 → 0 ≤ xs.getD j 0 ∧ xs.getD j 0 < 2048 by rw [hxs]; exact fun j hj => rootGood_ptr HG.out j hj)
  have info5_ : (Tryd.prog.info? 5).map (fun i => (i.zero, i.size, i.bytes)) = some (some (.int .u8 0), 1, 1) := by kernel_rfl
  clear hxs
  have HB0 : Aside0 (Below w.heap.size w w) := ⟨Below.refl _ _⟩
  obtain ⟨s0, Sz0⟩ : ∃ s0, Aside0 (w.heap.size = s0) := ⟨_, ⟨rfl⟩⟩
  have hw0 : w.heap.size ≤ s0 := Nat.le_of_eq Sz0.out
  have hw1 : s0 ≤ w.heap.size := Nat.le_of_eq Sz0.out.symm
  go_enter Tryd.func45, Tryd.ntmps45
  go_wp2_with (first | ((with_reducible refine gate_dst (N := 1) rfl ?_); refine hx_box rfl 1 rfl 31 (.tmp 0) rfl Sz0 (.agg (nums .i64 a0).toArray) (nums .i64 a0).toArray rfl rfl ?_; intro w1 s1 L1 Sz1 b1 g_; have H0 := Aside0.mk g_; have HB1 := Aside0.mk (below_then HB0.out HB0.out.size b1); clear g_ HB0 b1) | ((with_reducible refine gate_dst (N := 7) rfl ?_); refine hx_loadf rfl 3 (.tmp 6) rfl s0 0 rfl Tryd.underlying3 rfl H0.out (lt_len (n := 15) N_.out (by decide)) ?_; rw [← HS.out]) | ((with_reducible refine gate_dst (N := 8) rfl ?_); refine goesL_ (some 8) rfl rfl Tryd.func42 (by kernel_rfl) rfl #[.int .i64 s, .int .i64 8] rfl (by (try simp only [List.map_toArray, List.map_cons, List.map_nil]); first | done | rfl) ?_; refine (spec_l02Put.calls _ _ _ _ _ HP8.out).mono ?_; rintro e_ w2 ⟨v8, rfl, R_, b_⟩; refine ⟨_, rfl, ?_⟩; obtain ⟨s2, L2, Sz2⟩ := size_letter Sz1 (kept_below b_); have O2 := own_btw R_ Sz1.out Sz2 HB1.out.size; have HB2 := Aside0.mk (below_then HB1.out HB1.out.size b_); have H2 := Aside0.mk (blk_below H0.out b_); clear R_ b_ HB1 H0) | ((with_reducible refine gate_dst (N := 9) rfl ?_); refine hx_load rfl 31 (.tmp 1) rfl s0 15 rfl Tryd.underlying31 rfl (by kernel_rfl) H2.out (nums_size _ _ _ N_.out) ?_) | ((with_reducible refine gate_dst (N := 10) rfl ?_); refine goesL_ (some 10) rfl rfl Tryd.func72 (by kernel_rfl) rfl #[.agg (nums .i64 a0).toArray] rfl (by (try simp only [List.map_toArray, List.map_cons, List.map_nil]); first | done | rfl) ?_; refine (spec_l02Pointers.calls a0 N_.out xs _ HP.out).mono ?_; rintro e_ w3 ⟨v0_, rfl, R_, b_⟩; obtain ⟨A10, c10, rfl⟩ := Kd.R_slice R_; refine ⟨_, rfl, ?_⟩; obtain ⟨s3, L3, Sz3⟩ := size_letter Sz2 (kept_below b_); have OP := own_btw R_ Sz2.out Sz3 HB2.out.size; have HB3 := Aside0.mk (below_then HB2.out HB2.out.size b_); have OO := Aside0.mk (Kd.R_mono (Kd.R_below O2.out b_) (fun k hk h2 => by have h1_ := hk.2; have h3_ := h2.1; omega : ∀ k, Btw s1 s2 k → ¬ Btw s2 s3 k)); have HS3 : s3 ≤ w3.heap.size := Nat.le_of_eq Sz3.out.symm; clear R_ b_ HB2 H2 O2))
  (try simp only [Act.put, List.setIfInBounds_toArray, List.set_cons_succ, List.set_cons_zero])
  go_loopw [3, 12] (fun v3 v12 wr => ∃ (j : Nat) (u : Value), u = v3 ∧ v12 = .int .i64 (j : Int) ∧ Aside0 (j ≤ 14) ∧ Aside0 (Kd.R (Kd.int .u8) 5 wr w.heap.size (fun k => ¬ Btw s2 s3 k) v3 (leB s 8 ++ flat4 (xs.take j))) ∧ Aside0 (Kd.R (Kd.int .i64) 3 wr w.heap.size (Btw s2 s3) (.slice A10 xs.length c10) xs) ∧ Aside0 (Below w.heap.size w wr) ∧ s3 ≤ wr.heap.size) (fun _ v12 _ => 14 - (intOf v12).toNat)
  case atStart => exact ⟨0, _, rfl, rfl, ⟨by omega⟩, ⟨by rw [List.take_zero, flat4, List.append_nil]; exact OO.out⟩, OP, HB3, HS3⟩
  case round =>
    clear OO OP HB3 HS3
    obtain ⟨j, v3, rfl, rfl, hj, OO0, OP, HB, HS3⟩ := hrel
    by_cases c9 : j < 14
    · have c9b0 : decide ((j : Int) < (xs.length : Int)) = true := decide_eq_true (by rw [HXL.out]; omega)
      have c9b1 : decide (j < xs.length) = true := decide_eq_true (by rw [HXL.out]; omega)
      have p112 : 0 ≤ (j : Int) := by omega
      have q112 : (j : Int) < (xs.length : Int) := by rw [HXL.out]; omega
      obtain ⟨ad112, e112, hx112⟩ := Kd.at_int (Kd.R_reads' OP.out).2.2 (j : Int) p112 q112
      cases e112
      rw [Int.toNat_natCast] at hx112
      replace p112 := eq_true p112
      replace q112 := eq_true q112
      have q113 : (j < xs.length) = True := eq_true (by rw [HXL.out]; omega)
      obtain ⟨p, hp⟩ : ∃ p, p = rd xs (j : Int) := ⟨_, rfl⟩
      rw [← hp] at hx112
      have HPV := Aside0.mk (show p = xs.getD j 0 by rw [hp, rd, Int.toNat_natCast])
      have hpr : 0 ≤ p ∧ p < 2048 := by rw [HPV.out]; exact HXR.out j c9
      have HP4 := Aside0.mk (show spec_l02Put.f 20 p 4 = some (leB p 4) from l02Put_f p 4 20 (by decide) hpr.1 (by omega) (by decide))
      have C9 := Aside0.mk c9
      obtain ⟨bs, hbs⟩ : ∃ bs, bs = leB s 8 ++ flat4 (xs.take j) := ⟨_, rfl⟩
      have oo := OO0.out
      rw [← hbs] at oo
      have OO := Aside0.mk oo
      have HBL := Aside0.mk (show bs.length = 8 + 4 * j by rw [hbs, List.length_append, leB_length, flat4_length, List.length_take, HXL.out, Nat.min_eq_left (by omega)])
      have HBS := Aside0.mk hbs
      clear hp c9 hpr hbs oo OO0
      go_wp2_with (first | ((with_reducible refine gate_dst (N := 18) rfl ?_); refine goesL_ (some 18) rfl rfl Tryd.func42 (by kernel_rfl) rfl #[.int .i64 p, .int .i64 4] rfl (by (try simp only [List.map_toArray, List.map_cons, List.map_nil]); first | done | rfl) ?_; refine (spec_l02Put.calls _ _ _ _ _ HP4.out).mono ?_; rintro e_ w4 ⟨v0_, rfl, R_, b_⟩; obtain ⟨A18, c18, rfl⟩ := Kd.R_slice R_; refine ⟨_, rfl, ?_⟩; have O18 := Aside0.mk R_; have HBn := Aside0.mk (below_then HB.out HB.out.size b_); have OOn := Aside0.mk (Kd.R_below OO.out b_); have OPn := Aside0.mk (Kd.R_below OP.out b_); have HS4 : s3 ≤ w4.heap.size := Nat.le_trans HS3 b_.size; clear R_ b_ HB OO OP) | ((with_reducible refine gate_dst (N := 19) rfl ?_); refine Kd.R_append_rows (Kd.int .u8) (w0 := w) w.heap.size rfl (.tmp 16) (.tmp 18) 28 5 (.int .u8 0) 1 rfl Tryd.underlying28 info5_ rfl (by decide) (by omega) v3 bs (leB p 4) _ _ _ (fun k => ¬ Btw s2 s3 k) (fun _ => False) rfl rfl OOn.out (Kd.R_reads' O18.out).2.2 (fun _ _ h => h) (fun _ h => h.elim) (fun k hk h2 => by have h3_ := h2.2; omega) HBn.out HBn.out.size (by have h1_ := HBL.out; have h2_ := C9.out; show (bs.length + (leB p 4).length) * 1 ≤ _; rw [leB_length, h1_]; omega) ?_; intro v19 w5 ho hb hg_ hn_; have OO5 := Aside0.mk ho; have HB5 := Aside0.mk hb; have OP5 := Aside0.mk (Kd.R_grown OPn.out hg_ (fun k hk e_ => OOn.out.1 k e_.symm hk)); have HS5 : s3 ≤ w5.heap.size := Nat.le_trans HS4 hg_.size; clear ho hb hg_ hn_ HBn OOn OPn O18))
      go_roundw
      case rel =>
        refine ⟨j + 1, _, rfl, by rw [show wrap64 ((j : Int) + 1) = ((j + 1 : Nat) : Int) by (have := C9.out; unfold wrap64; omega)], ⟨by have := C9.out; omega⟩, ⟨?_⟩, OP5, HB5, HS5⟩
        have ho := OO5.out
        have e_ : bs ++ leB p 4 = leB s 8 ++ flat4 (xs.take (j + 1)) := by rw [HBS.out, flat4_take xs j (by rw [HXL.out]; exact C9.out), ← HPV.out, List.append_assoc]
        rw [e_] at ho
        exact ho
      case measure =>
        rw [show wrap64 ((j : Int) + 1) = ((j + 1 : Nat) : Int) by (have := C9.out; unfold wrap64; omega)]
        simp only [intOf, Int.toNat_natCast]
        have := C9.out
        omega
    · obtain rfl : j = 14 := by have := hj.out; omega
      have c9b0 : decide ((14 : Int) < (xs.length : Int)) = false := decide_eq_false (by rw [HXL.out]; decide)
      have c9b1 : decide (14 < xs.length) = false := decide_eq_false (by rw [HXL.out]; decide)
      go_wp2
      go_ret
      have ho := OO0.out
      rw [List.take_of_length_le (by rw [HXL.out]; exact Nat.le_refl _), HXS.out, HS.out] at ho
      exact ⟨_, rfl, Kd.R_mono ho (fun _ _ => trivial), HB.out⟩

open Go.Proofs.YtkghgjehjchajaaDoorW Go.Proofs.YtkghgjehjchajaaDoorW.PrintHand Go.Proofs.YtkghgjehjchajaaDoorW.PrintHx
/-! ### spec_EncodeSnap: function 10 -/
open Go.Proofs.YtkghgjehjchajaaDoorW.PrintLe Go.Proofs.YtkghgjehjchajaaDoorW.PrintGrow Go.Proofs.YtkghgjehjchajaaDoorW.PrintDec Go.Proofs.YtkghgjehjchajaaDoorW.PrintIno Go.Proofs.YtkghgjehjchajaaDoorW.PrintTab2 Go.Proofs.YtkghgjehjchajaaDoorW.PrintTab3 Go.Proofs.YtkghgjehjchajaaDoorW.PrintFsi Go.Proofs.YtkghgjehjchajaaDoorW.PrintFsb Go.Proofs.YtkghgjehjchajaaDoorW.PrintFsd Go.Proofs.YtkghgjehjchajaaDoorW.PrintCrc Go.Proofs.YtkghgjehjchajaaDoorW.PrintSnp
theorem l02Fill_l0 (n : Nat) (hn : n ≤ 1048576) : ∀ (d k : Nat) (l : List Int), l.length + d = n → d < k → spec_l02Fill.l0 k (n : Int) l = some (l ++ List.replicate d 0)
  | 0, k, l, h1, h2 => by
    obtain ⟨k, rfl⟩ := sucK h2
    simp only [spec_l02Fill.l0]
    rw [if_neg (by omega)]
    simp
  | d + 1, k, l, h1, h2 => by
    obtain ⟨k, rfl⟩ := sucK h2
    simp only [spec_l02Fill.l0]
    rw [if_pos (by omega), if_pos (by omega), l02Fill_l0 n hn d k _ (by rw [List.length_append, List.length_singleton]; omega) (by omega), List.append_assoc]
    rfl
theorem l02Fill_f (l : List Int) (n d k : Nat) (hn : n ≤ 1048576) (hl : l.length + d = n) (hk : d < k) : spec_l02Fill.f k l (n : Int) = some (l ++ List.replicate d 0) := by
  unfold spec_l02Fill.f
  simp only [Option.bind_some]
  rw [if_pos (by simp; omega), List.nil_append]
  exact l02Fill_l0 n hn d k l hl hk
def sumL : List (List Int) → Nat
  | [] => 0
  | x :: r => x.length + sumL r
theorem sumL_append (a b : List (List Int)) : sumL (a ++ b) = sumL a + sumL b := by
  induction a with
  | nil => simp [sumL]
  | cons x a ih => simp [sumL, ih]; omega
theorem sumL_flatten (a : List (List Int)) : sumL a = a.flatten.length := by
  induction a with
  | nil => simp [sumL]
  | cons x a ih => simp [sumL, ih]
theorem l02Join_l0 (xs : List (List Int)) (hx : xs.length ≤ 1048576) : ∀ (d i k : Nat) (out : List Int), i + d = xs.length → d < k → out.length + sumL (xs.drop i) < 140737488355328 → spec_l02Join.l0 k out xs (xs.length : Int) (i : Int) = some (out ++ (xs.drop i).flatten)
  | 0, i, k, out, h1, h2, h3 => by
    obtain ⟨k, rfl⟩ := sucK h2
    simp only [spec_l02Join.l0]
    rw [if_neg (by omega), List.drop_eq_nil_of_le (by omega)]
    simp
  | d + 1, i, k, out, h1, h2, h3 => by
    obtain ⟨k, rfl⟩ := sucK h2
    simp only [spec_l02Join.l0]
    have hi : i < xs.length := by omega
    have hr : rd_L1 xs (i : Int) = xs[i] := by simp [rd_L1, hi]
    have hd := List.drop_eq_getElem_cons hi
    rw [hd, sumL] at h3
    rw [if_pos (by omega), if_pos (by omega), if_pos (by omega), hr, if_pos (by omega), w64n (by omega), l02Join_l0 xs hx d (i + 1) k _ (by omega) (by omega) (by rw [List.length_append]; omega), List.append_assoc]
    conv => rhs; rw [hd, List.flatten_cons]
theorem l02Join_f (xs : List (List Int)) (k : Nat) (hx : xs.length ≤ 1048576) (hk : xs.length < k) (hl : sumL xs < 140737488355328) : spec_l02Join.f k xs = some xs.flatten := by
  unfold spec_l02Join.f
  have h := l02Join_l0 xs hx xs.length 0 k [] (by omega) hk (by simpa using hl)
  simpa using h
theorem table_l0 : ∀ (d i k n : Nat), i + d = 8 → d < k → n < 4294967296 → spec_l02Table.l0 k (n : Int) (i : Int) = some ((stepN d n : Nat) : Int)
  | 0, i, k, n, h1, h2, h3 => by
    obtain ⟨k, rfl⟩ := sucK h2
    simp only [spec_l02Table.l0]
    rw [if_neg (by omega)]
    rfl
  | d + 1, i, k, n, h1, h2, h3 => by
    obtain ⟨k, rfl⟩ := sucK h2
    have e1 : Int.tmod (n : Int) 2 = ((n % 2 : Nat) : Int) := by rw [Int.tmod_eq_emod_of_nonneg (by omega)]; omega
    have e2 : Int.tdiv (n : Int) 2 % 4294967296 = ((n / 2 : Nat) : Int) := by rw [Int.tdiv_eq_ediv_of_nonneg (by omega)]; omega
    have e3 : (3988292384 : Int) = ((3988292384 : Nat) : Int) := rfl
    simp only [spec_l02Table.l0]
    rw [if_pos (by omega), e1, e2, w64n (by omega)]
    by_cases hp : n % 2 = 1
    · rw [if_pos (by omega), e3, xor_nat _ _ (by omega) (by omega), table_l0 d (i + 1) k _ (by omega) (by omega) (by have := stepB_lt h3; unfold stepB at this; rw [if_pos hp] at this; exact this)]
      simp only [stepN, stepB, if_pos hp]
    · rw [if_neg (by omega), table_l0 d (i + 1) k _ (by omega) (by omega) (by omega)]
      simp only [stepN, stepB, if_neg hp, Nat.xor_zero]
theorem table_f (n k : Nat) (hk : 8 < k) (hn : n < 4294967296) : spec_l02Table.f k (n : Int) = some ((stepN 8 n : Nat) : Int) := table_l0 8 0 k n rfl hk hn
theorem specCrc_l0 (l : List Int) (hb : ∀ x ∈ l, 0 ≤ x ∧ x ≤ 255) (hl : l.length ≤ 1048576) : ∀ (d i k n : Nat), i + d = l.length → d + 10 < k → n < 4294967296 → spec_Crc32.l0 k (n : Int) l (l.length : Int) (i : Int) = some (Go.bits .xor .u32 ((crcS n (nats (l.drop i)) : Nat) : Int) 4294967295)
  | 0, i, k, n, h1, h2, h3 => by
    obtain ⟨k, rfl⟩ := sucK h2
    simp only [spec_Crc32.l0]
    rw [if_neg (by omega), List.drop_eq_nil_of_le (by omega)]
    rfl
  | d + 1, i, k, n, h1, h2, h3 => by
    obtain ⟨k, rfl⟩ := sucK h2
    have hi : i < l.length := by omega
    have hx := hb _ (List.getElem_mem hi)
    obtain ⟨c, hc⟩ := Int.eq_ofNat_of_zero_le hx.1
    have hc8 : c < 256 := by omega
    simp only [spec_Crc32.l0]
    have hlt : n ^^^ c < 2 ^ 32 := Nat.xor_lt_two_pow (by omega) (by omega)
    rw [if_pos (by omega), if_pos (by omega), if_pos (by omega), rd_some hi, hc, show (c : Int) % 4294967296 = (c : Int) by omega, xor_nat _ _ h3 (by omega), Int.tmod_eq_emod_of_nonneg (by omega), show (((n ^^^ c : Nat) : Int) % 256) = (((n ^^^ c) % 256 : Nat) : Int) by omega, table_f _ k (by omega) (by omega), Option.bind_some, Int.tdiv_eq_ediv_of_nonneg (by omega), show ((n : Int) / 256 % 4294967296) = ((n / 256 : Nat) : Int) by omega, xor_nat _ _ (by omega) (stepN_lt 8 (by omega)), w64n (by omega), specCrc_l0 l hb hl d (i + 1) k _ (by omega) (by omega) (by rw [byte_step n c hc8]; exact stepN_lt 8 (by omega)), List.drop_eq_getElem_cons hi]
    simp only [nats, List.map_cons, hc, Int.toNat_natCast, crcS]
theorem specCrc_f (l : List Int) (hb : ∀ x ∈ l, 0 ≤ x ∧ x ≤ 255) (hl : l.length ≤ 1048576) (k : Nat) (hk : l.length + 10 < k) : spec_Crc32.f k l = some (Go.bits .xor .u32 ((crcS 4294967295 (nats l) : Nat) : Int) 4294967295) := by
  unfold spec_Crc32.f
  exact specCrc_l0 l hb hl l.length 0 k 4294967295 (by omega) hk (by omega)
theorem specCrc_v (l : List Int) (hb : ∀ x ∈ l, 0 ≤ x ∧ x ≤ 255) (hl : l.length ≤ 1048576) (k : Nat) (hk : l.length + 10 < k) : spec_Crc32.f k l = some (crcV l) := by
  have hlt := crcI_lt (nats l) (nats_byt hb) 4294967295 (by omega)
  have e : (4294967295 : Int) = ((4294967295 : Nat) : Int) := rfl
  rw [specCrc_f l hb hl k hk, crc_eq _ (nats_byt hb), e, xor_nat _ _ hlt (by omega)]
  rfl
theorem spec_EncodeSnap.sealed {x : Int} {s : ByteArray} {p q : Int} {r : List Int} (hs : s.size ≤ 26) (hr : r.length = 15) : spec_l02Sealed.f 2000 (snapBody x s p q r) = some (snapBytes x s p q r) := by
  have hb := snapFill_byt x s p q r
  have hl : (snapFill x s p q r).length = 508 := snapFill_length hs hr
  have hc := crcV_range hb
  unfold spec_l02Sealed.f
  rw [show spec_l02Fill.f 2000 (snapBody x s p q r) 508 = some (snapFill x s p q r) from l02Fill_f (snapBody x s p q r) 508 388 2000 (by decide) (by rw [snapBody_length hs hr]) (by decide)]
  simp only [Option.bind_some]
  rw [specCrc_v (snapFill x s p q r) hb (by rw [hl]; decide) 2000 (by rw [hl]; decide)]
  simp only [Option.bind_some]
  rw [w64 (by omega) (by omega), show spec_l02Put.f 2000 (crcV (snapFill x s p q r)) 4 = some (leB (crcV (snapFill x s p q r)) 4) from l02Put_f _ 4 2000 (by decide) hc.1 (by omega) (by decide)]
  simp only [Option.bind_some]
  rw [if_pos (by rw [hl, leB_length]; decide)]
  rfl
set_option maxHeartbeats 8000000 in
set_option maxRecDepth 100000 in
theorem spec_EncodeSnap.calls (x : Int) (s : ByteArray) (p q : Int) (r : List Int) (nr : r.length = 15) (k : Nat) (c : Int) (hc : spec_CheckName.f k s = some c) (hsz : c = 0 → s.size ≤ 26) (r1 : List Int) (r2 : Int) (w : World) (h : (if snapGood x c p q r = true then (snapBytes x s p q r, (0 : Int)) else ([], 7)) = (r1, r2)) :
    Calls Tryd.prog 10 #[.agg (snapC x s p q r).toArray] w fun e w' => ∃ v0_ : Value, e = .returned (.tuple #[v0_, .int .i64 r2]) ∧ Kd.R (Kd.int .u8) 5 w' w.heap.size (fun _ => True) v0_ r1 ∧ Below w.heap.size w w' := by
  have H := Aside0.mk h
  have HSZ := Aside0.mk hsz
  clear h hsz
  have NR := Aside0.mk nr
  have WC := Aside0.mk hc
  clear nr hc
  obtain ⟨y0, hy0⟩ : ∃ y, y = r.getD 0 0 := ⟨_, rfl⟩
  obtain ⟨b0, hb0⟩ : ∃ b, b = rng x 1 31 := ⟨_, rfl⟩
  have Wb0 := Aside0.mk (show spec_l02Within.f x 1 31 = some b0 by rw [hb0]; exact within_i _ _ _)
  obtain ⟨b2, hb2⟩ : ∃ b, b = rng p 1 1099511627776 := ⟨_, rfl⟩
  have Wb2 := Aside0.mk (show spec_l02Within.f p 1 1099511627776 = some b2 by rw [hb2]; exact within_i _ _ _)
  obtain ⟨b3, hb3⟩ : ∃ b, b = rng q 1 1099511627776 := ⟨_, rfl⟩
  have Wb3 := Aside0.mk (show spec_l02Within.f q 1 1099511627776 = some b3 by rw [hb3]; exact within_i _ _ _)
  obtain ⟨b4, hb4⟩ : ∃ b, b = rootGood r := ⟨_, rfl⟩
  have Wb4 := Aside0.mk (show spec_l02Root.f r = some b4 by rw [hb4]; rfl)
  obtain ⟨b5, hb5⟩ : ∃ b, b = sizeI y0 := ⟨_, rfl⟩
  have Wb5 := Aside0.mk (show spec_l02TableSize.f y0 = some b5 by rw [hb5]; exact size_i _)
  obtain ⟨b1, hb1⟩ : ∃ b, b = decide (c = 0) := ⟨_, rfl⟩
  have HIN := Aside0.mk (show snapGood x c p q r = (b0 && (b1 && (b2 && (b3 && (b4 && b5))))) by rw [hb0, hb1, hb2, hb3, hb4, hb5, hy0]; rfl)
  have HY0 := Aside0.mk hy0
  have HB1_ := Aside0.mk (show (c == 0) = b1 by rw [hb1]; rfl)
  clear hb0 hb1 hb2 hb3 hb4 hb5 hy0
  have HB0 : Aside0 (Below w.heap.size w w) := ⟨Below.refl _ _⟩
  obtain ⟨s0, Sz0⟩ : ∃ s0, Aside0 (w.heap.size = s0) := ⟨_, ⟨rfl⟩⟩
  have hw0 : w.heap.size ≤ s0 := Nat.le_of_eq Sz0.out
  have hw1 : s0 ≤ w.heap.size := Nat.le_of_eq Sz0.out.symm
  have HBN := Aside0.mk (show (c != 0) = !b1 by rw [← HB1_.out]; rfl)
  have info5_ : (Tryd.prog.info? 5).map (fun i => (i.zero, i.size, i.bytes)) = some (some (.int .u8 0), 1, 1) := by kernel_rfl
  go_enter Tryd.func10, Tryd.ntmps10
  go_wp2_with (first | ((with_reducible refine gate_dst (N := 1) rfl ?_); refine hx_box rfl 1 rfl 33 (.tmp 0) rfl Sz0 (.agg (snapC x s p q r).toArray) (snapC x s p q r).toArray rfl (by simp [Value.cells]) ?_; intro w1 s1 L1 Sz1 b1_ g_; have H1 := Aside0.mk g_; have HB := Aside0.mk (below_then HB0.out HB0.out.size b1_); clear g_ HB0 b1_) | ((with_reducible refine gate_dst (N := 6) rfl ?_); refine wpList_ld1 rfl 3 (.tmp 5) rfl s0 0 rfl (.int .i64 x) Tryd.underlying3 rfl H1.out rfl ?_) | ((with_reducible refine gate_dst (N := 7) rfl ?_); refine goesL_ (some 7) rfl rfl Tryd.func37 (by kernel_rfl) rfl #[.int .i64 x, .int .i64 1, .int .i64 31] rfl (by (try simp only [List.map_toArray, List.map_cons, List.map_nil]); first | done | rfl) ?_; refine (spec_l02Within.calls x 1 31 b0 _ Wb0.out).mono ?_; rintro e_ w_ ⟨rfl, d_⟩; have b_ := kept_drawn d_; refine ⟨_, rfl, ?_⟩; have Hn := Aside0.mk (blk_below H1.out b_); have HBn := Aside0.mk (below_then HB.out HB.out.size b_); clear b_ d_ H1 HB; have H1 := Hn; have HB := HBn; clear Hn HBn; cases b0) | ((with_reducible refine gate_dst (N := 11) rfl ?_); refine Go.Proofs.YtkghgjehjchajaaDoorW.PrintTab2.ungd (by rfl) ?_; refine wpList_ld1 rfl 9 (.tmp 10) rfl s0 1 rfl (.string s) Tryd.underlying9 rfl H1.out rfl ?_) | ((with_reducible refine gate_dst (N := 12) rfl ?_); refine Go.Proofs.YtkghgjehjchajaaDoorW.PrintTab2.ungd (by rfl) ?_; refine goesL_ (some 12) rfl rfl Tryd.func38 (by kernel_rfl) rfl #[.string s] rfl (by (try simp only [List.map_toArray, List.map_cons, List.map_nil]); first | done | rfl) ?_; refine (spec_CheckName.calls k s c _ WC.out).mono ?_; rintro e_ w_ ⟨rfl, d_⟩; have b_ := kept_drawn d_; refine ⟨_, rfl, ?_⟩; have Hn := Aside0.mk (blk_below H1.out b_); have HBn := Aside0.mk (below_then HB.out HB.out.size b_); clear b_ d_ H1 HB; have H1 := Hn; have HB := HBn; clear Hn HBn) | ((with_reducible refine gate_dst (N := 13) rfl ?_); refine Go.Proofs.YtkghgjehjchajaaDoorW.PrintTab2.ungd (by rfl) ?_; refine hx_neqi rfl 3 3 (.tmp 12) _ rfl Tryd.underlying3 c 0 rfl rfl (!b1) HBN ?_; cases b1) | ((with_reducible refine gate_dst (N := 17) rfl ?_); refine Go.Proofs.YtkghgjehjchajaaDoorW.PrintTab2.ungd (by rfl) ?_; refine wpList_ld1 rfl 3 (.tmp 16) rfl s0 2 rfl (.int .i64 p) Tryd.underlying3 rfl H1.out rfl ?_) | ((with_reducible refine gate_dst (N := 18) rfl ?_); refine Go.Proofs.YtkghgjehjchajaaDoorW.PrintTab2.ungd (by rfl) ?_; refine goesL_ (some 18) rfl rfl Tryd.func37 (by kernel_rfl) rfl #[.int .i64 p, .int .i64 1, .int .i64 1099511627776] rfl (by (try simp only [List.map_toArray, List.map_cons, List.map_nil]); first | done | rfl) ?_; refine (spec_l02Within.calls p 1 1099511627776 b2 _ Wb2.out).mono ?_; rintro e_ w_ ⟨rfl, d_⟩; have b_ := kept_drawn d_; refine ⟨_, rfl, ?_⟩; have Hn := Aside0.mk (blk_below H1.out b_); have HBn := Aside0.mk (below_then HB.out HB.out.size b_); clear b_ d_ H1 HB; have H1 := Hn; have HB := HBn; clear Hn HBn; cases b2) | ((with_reducible refine gate_dst (N := 23) rfl ?_); refine Go.Proofs.YtkghgjehjchajaaDoorW.PrintTab2.ungd (by rfl) ?_; refine wpList_ld1 rfl 3 (.tmp 22) rfl s0 3 rfl (.int .i64 q) Tryd.underlying3 rfl H1.out rfl ?_) | ((with_reducible refine gate_dst (N := 24) rfl ?_); refine Go.Proofs.YtkghgjehjchajaaDoorW.PrintTab2.ungd (by rfl) ?_; refine goesL_ (some 24) rfl rfl Tryd.func37 (by kernel_rfl) rfl #[.int .i64 q, .int .i64 1, .int .i64 1099511627776] rfl (by (try simp only [List.map_toArray, List.map_cons, List.map_nil]); first | done | rfl) ?_; refine (spec_l02Within.calls q 1 1099511627776 b3 _ Wb3.out).mono ?_; rintro e_ w_ ⟨rfl, d_⟩; have b_ := kept_drawn d_; refine ⟨_, rfl, ?_⟩; have Hn := Aside0.mk (blk_below H1.out b_); have HBn := Aside0.mk (below_then HB.out HB.out.size b_); clear b_ d_ H1 HB; have H1 := Hn; have HB := HBn; clear Hn HBn; cases b3) | ((with_reducible refine gate_dst (N := 29) rfl ?_); refine Go.Proofs.YtkghgjehjchajaaDoorW.PrintTab2.ungd (by rfl) ?_; refine wpList_ld rfl 31 (.tmp 28) rfl s0 4 15 rfl (nums .i64 r).toArray Tryd.underlying31 rfl (by kernel_rfl) H1.out (by rw [snapC_size NR.out]; decide) (snapC_root NR.out) ?_) | ((with_reducible refine gate_dst (N := 30) rfl ?_); refine Go.Proofs.YtkghgjehjchajaaDoorW.PrintTab2.ungd (by rfl) ?_; refine goesL_ (some 30) rfl rfl Tryd.func39 (by kernel_rfl) rfl #[.agg (nums .i64 r).toArray] rfl (by (try simp only [List.map_toArray, List.map_cons, List.map_nil]); first | done | rfl) ?_; refine (spec_l02Root.calls r NR.out b4 _ Wb4.out).mono ?_; rintro e_ w_ ⟨rfl, d_⟩; have b_ := d_; refine ⟨_, rfl, ?_⟩; have Hn := Aside0.mk (blk_below H1.out b_); have HBn := Aside0.mk (below_then HB.out HB.out.size b_); clear b_ d_ H1 HB; have H1 := Hn; have HB := HBn; clear Hn HBn; cases b4) | ((with_reducible refine gate_dst (N := 36) rfl ?_); refine Go.Proofs.YtkghgjehjchajaaDoorW.PrintTab2.ungd (by rfl) ?_; refine wpList_ld1 rfl 3 (.tmp 35) rfl s0 4 rfl (.int .i64 y0) Tryd.underlying3 rfl H1.out (by rw [HY0.out]; exact snapC_at4 NR.out) ?_) | ((with_reducible refine gate_dst (N := 37) rfl ?_); refine Go.Proofs.YtkghgjehjchajaaDoorW.PrintTab2.ungd (by rfl) ?_; refine goesL_ (some 37) rfl rfl Tryd.func40 (by kernel_rfl) rfl #[.int .i64 y0] rfl (by (try simp only [List.map_toArray, List.map_cons, List.map_nil]); first | done | rfl) ?_; refine (spec_l02TableSize.calls y0 b5 _ Wb5.out).mono ?_; rintro e_ w_ ⟨rfl, d_⟩; have b_ := kept_drawn d_; refine ⟨_, rfl, ?_⟩; have Hn := Aside0.mk (blk_below H1.out b_); have HBn := Aside0.mk (below_then HB.out HB.out.size b_); clear b_ d_ H1 HB; have H1 := Hn; have HB := HBn; clear Hn HBn; cases b5))
  all_goals (try (have hh := H.out; rw [HIN.out] at hh; obtain ⟨rfl, rfl⟩ := Prod.mk.inj hh; go_ret2; exact ⟨_, rfl, Kd.R_nil _ _ _ _ _, HB.out⟩))
  have hg_ : snapGood x c p q r = true := by rw [HIN.out]; rfl
  have hh := H.out
  rw [if_pos hg_] at hh
  obtain ⟨rfl, rfl⟩ := Prod.mk.inj hh
  obtain ⟨gx, gc, gp, gq, gr⟩ := snapGood_get hg_
  have hs26 := HSZ.out gc
  clear hh hg_ H HIN HSZ
  rename World => w2
  have E0 := Aside0.mk (show spec_l02Put.f 20 x 1 = some (leB x 1) from l02Put_f x 1 20 (by decide) (by omega) (by omega) (by decide))
  have E1 := Aside0.mk (show spec_l02Put.f 20 ((s.size : Nat) : Int) 1 = some (leB ((s.size : Nat) : Int) 1) from l02Put_f _ 1 20 (by decide) (by omega) (by omega) (by decide))
  have EF := Aside0.mk (show spec_l02Fill.f 2000 (bytesOf s) 26 = some (nameB s) from l02Fill_f (bytesOf s) 26 (26 - s.size) 2000 (by decide) (by rw [bytesOf_length]; omega) (by omega))
  have EZ := Aside0.mk (show spec_l02Put.f 20 0 4 = some (leB 0 4) from l02Put_f 0 4 20 (by decide) (by omega) (by omega) (by decide))
  have E2 := Aside0.mk (show spec_l02Put.f 20 p 8 = some (leB p 8) from l02Put_f p 8 20 (by decide) (by omega) (by omega) (by decide))
  have E3 := Aside0.mk (show spec_l02Put.f 20 q 8 = some (leB q 8) from l02Put_f q 8 20 (by decide) (by omega) (by omega) (by decide))
  have ER := Aside0.mk (show spec_l02RootBytes.f r = some (rootBytes r) from if_pos gr)
  have EJ1 := Aside0.mk (show spec_l02Join.f 20 [magicS, leB x 1, leB ((s.size : Nat) : Int) 1, nameB s, leB 0 4] = some (snapHead x s) from l02Join_f _ 20 (by simp) (by simp) (by rw [sumL_flatten, show ([magicS, leB x 1, leB ((s.size : Nat) : Int) 1, nameB s, leB 0 4] : List (List Int)).flatten = snapHead x s from rfl, snapHead_length hs26]; decide))
  have EJ2 := Aside0.mk (show spec_l02Join.f 20 [snapHead x s, leB p 8, leB q 8, rootBytes r] = some (snapBody x s p q r) from l02Join_f _ 20 (by simp) (by simp) (by rw [sumL_flatten, show ([snapHead x s, leB p 8, leB q 8, rootBytes r] : List (List Int)).flatten = snapBody x s p q r from rfl, snapBody_length hs26 NR.out]; decide))
  have ESE := Aside0.mk (spec_EncodeSnap.sealed (x := x) (p := p) (q := q) hs26 NR.out)
  have HS63 := Aside0.mk (show s.size ≤ 9223372036854775807 by omega)
  clear gx gc gp gq gr hs26
  (try simp only [Act.put, List.setIfInBounds_toArray, List.set_cons_succ, List.set_cons_zero])
  refine wp_region_grow_tailS 14 [LitB w2.heap.size (nums .u8 magicS).toArray 5 8, Row (Kd.int .u8) magicS, Is (.pointer (some ⟨s0, 0, none⟩)), Is (.int .i64 x), Row (Kd.int .u8) (leB x 1), Is (.pointer (some ⟨s0, 1, none⟩)), Is (.string s), Is (.int .i64 ((s.size : Nat) : Int)), Row (Kd.int .u8) (leB ((s.size : Nat) : Int) 1), Is (.pointer (some ⟨s0, 1, none⟩)), Is (.string s), Row (Kd.int .u8) (bytesOf s), Row (Kd.int .u8) (nameB s), Row (Kd.int .u8) (leB 0 4)] (by kernel_rfl) (by kernel_rfl) (by kernel_rfl) (by kernel_rfl) (allstS_cons stS_lit (allstS_cons stS_row (allstS_cons stS_is (allstS_cons stS_is (allstS_cons stS_row (allstS_cons stS_is (allstS_cons stS_is (allstS_cons stS_is (allstS_cons stS_row (allstS_cons stS_is (allstS_cons stS_is (allstS_cons stS_row (allstS_cons stS_row (allstS_cons stS_row allstS_nil)))))))))))))) ?_ (fun w3 hgn => ?_)
  · refine stepsS_cons ?_ ?_
    · refine stepS_of (stepO_run rfl [] [] (by kernel_rfl) (fun a w_ hg hf => ?_))
      refine ⟨.slice (some ⟨w_.heap.size, 0, none⟩) 8 8, w_.alloc (.cells (nums .u8 magicS).toArray 5), ?_, below_alloc (Below.refl _ _) _, ⟨_, _, hg.size, rfl, blk_new w_ _⟩⟩
      unfold execOp
      go_simp
      (try rfl)
    refine stepsS_cons ?_ ?_
    · refine stepS_run rfl [(0, 40)] [] (by kernel_rfl) (fun a w_ hg hf => ?_)
      obtain ⟨⟨⟨v40, e40, p40⟩, _⟩, _⟩ := hf
      replace e40 : a.tmps[40]? = some (v40) := e40
      obtain ⟨g40, fr40, hB40, rfl, hh40⟩ := p40
      refine ⟨.slice (some ⟨g40, 0, none⟩) 8 8, _, ?_, soft_freeze (p := ⟨g40, (nums .u8 magicS).toArray.size, none⟩) hB40 1, stS_row _ _ _ (soft_freeze (p := ⟨g40, (nums .u8 magicS).toArray.size, none⟩) hB40 1) (lit_row (k := .u8) magicS hh40 (by decide))⟩
      have h_ := run_convert_mark (P := Tryd.prog) w_ 28 5 _ fr40 g40 8 8 Tryd.underlying28 Tryd.underlying5 hh40
      unfold execOp
      simp only [PrintLast.eval_of e40, Sem.run_bind, h_, Result.andThen_ok, Sem.run_pure]
      (try rfl)
    refine stepsS_cons ?_ ?_
    · refine stepS_of (stepO_val rfl [] [1] (by kernel_rfl) (.pointer (some ⟨s0, 0, none⟩)) (fun a w_ hg hf => ?_) (fun w_ _ => rfl))
      obtain ⟨_, ⟨o1, _⟩⟩ := hf
      have e1 : a.tmps[1]? = some (.pointer (some ⟨s0, 0, none⟩)) := o1.trans rfl
      unfold execOp
      simp only [PrintLast.eval_of e1, Act.eval]
      go_simp
      (try rfl)
    refine stepsS_cons ?_ ?_
    · refine stepS_of (stepO_val rfl [(2, 42)] [] (by kernel_rfl) (.int .i64 x) (fun a w_ hg hf => ?_) (fun w_ _ => rfl))
      obtain ⟨⟨⟨_, e42, rfl⟩, _⟩, _⟩ := hf
      replace e42 : a.tmps[42]? = some (.pointer (some ⟨s0, 0, none⟩)) := e42
      have c_ : w_.cell? ⟨s0, 0, none⟩ = some (.int .i64 x) := blk_cell (blk_below H1.out hg) 0
      unfold execOp
      simp only [PrintLast.eval_of e42, Act.eval]
      go_simp
      (try rfl)
    refine stepsS_cons ?_ ?_
    · refine stepS_of (stepO_call rfl [(3, 43)] [] (by kernel_rfl) Tryd.func42 (by kernel_rfl) rfl rfl (fun a w_ hg hf => ?_))
      obtain ⟨⟨⟨_, e43, rfl⟩, _⟩, _⟩ := hf
      replace e43 : a.tmps[43]? = some (.int .i64 x) := e43
      refine ⟨#[.int .i64 x, .int .i64 1], (by simp only [List.map_toArray, List.map_cons, List.map_nil, PrintLast.eval_of e43]; first | done | rfl), (spec_l02Put.calls 20 x 1 (leB x 1) w_ E0.out).mono ?_⟩
      rintro e_ w2_ ⟨v_, rfl, R_, b_⟩
      exact ⟨_, rfl, b_, own_row R_⟩
    refine stepsS_cons ?_ ?_
    · refine stepS_of (stepO_val rfl [] [1] (by kernel_rfl) (.pointer (some ⟨s0, 1, none⟩)) (fun a w_ hg hf => ?_) (fun w_ _ => rfl))
      obtain ⟨_, ⟨o1, _⟩⟩ := hf
      have e1 : a.tmps[1]? = some (.pointer (some ⟨s0, 0, none⟩)) := o1.trans rfl
      unfold execOp
      simp only [PrintLast.eval_of e1, Act.eval]
      go_simp
      (try rfl)
    refine stepsS_cons ?_ ?_
    · refine stepS_of (stepO_val rfl [(5, 45)] [] (by kernel_rfl) (.string s) (fun a w_ hg hf => ?_) (fun w_ _ => rfl))
      obtain ⟨⟨⟨_, e45, rfl⟩, _⟩, _⟩ := hf
      replace e45 : a.tmps[45]? = some (.pointer (some ⟨s0, 1, none⟩)) := e45
      have c_ : w_.cell? ⟨s0, 1, none⟩ = some (.string s) := blk_cell (blk_below H1.out hg) 1
      unfold execOp
      simp only [PrintLast.eval_of e45, Act.eval]
      go_simp
      (try rfl)
    refine stepsS_cons ?_ ?_
    · refine stepS_of (stepO_val rfl [(6, 46)] [] (by kernel_rfl) (.int .i64 ((s.size : Nat) : Int)) (fun a w_ hg hf => ?_) (fun w_ _ => rfl))
      obtain ⟨⟨⟨_, e46, rfl⟩, _⟩, _⟩ := hf
      replace e46 : a.tmps[46]? = some (.string s) := e46
      unfold execOp
      simp only [PrintLast.eval_of e46, Act.eval]
      go_simp
      (try rfl)
    refine stepsS_cons ?_ ?_
    · refine stepS_of (stepO_call rfl [(7, 47)] [] (by kernel_rfl) Tryd.func42 (by kernel_rfl) rfl rfl (fun a w_ hg hf => ?_))
      obtain ⟨⟨⟨_, e47, rfl⟩, _⟩, _⟩ := hf
      replace e47 : a.tmps[47]? = some (.int .i64 ((s.size : Nat) : Int)) := e47
      refine ⟨#[.int .i64 ((s.size : Nat) : Int), .int .i64 1], (by simp only [List.map_toArray, List.map_cons, List.map_nil, PrintLast.eval_of e47]; first | done | rfl), (spec_l02Put.calls 20 ((s.size : Nat) : Int) 1 (leB ((s.size : Nat) : Int) 1) w_ E1.out).mono ?_⟩
      rintro e_ w2_ ⟨v_, rfl, R_, b_⟩
      exact ⟨_, rfl, b_, own_row R_⟩
    refine stepsS_cons ?_ ?_
    · refine stepS_of (stepO_val rfl [] [1] (by kernel_rfl) (.pointer (some ⟨s0, 1, none⟩)) (fun a w_ hg hf => ?_) (fun w_ _ => rfl))
      obtain ⟨_, ⟨o1, _⟩⟩ := hf
      have e1 : a.tmps[1]? = some (.pointer (some ⟨s0, 0, none⟩)) := o1.trans rfl
      unfold execOp
      simp only [PrintLast.eval_of e1, Act.eval]
      go_simp
      (try rfl)
    refine stepsS_cons ?_ ?_
    · refine stepS_of (stepO_val rfl [(9, 49)] [] (by kernel_rfl) (.string s) (fun a w_ hg hf => ?_) (fun w_ _ => rfl))
      obtain ⟨⟨⟨_, e49, rfl⟩, _⟩, _⟩ := hf
      replace e49 : a.tmps[49]? = some (.pointer (some ⟨s0, 1, none⟩)) := e49
      have c_ : w_.cell? ⟨s0, 1, none⟩ = some (.string s) := blk_cell (blk_below H1.out hg) 1
      unfold execOp
      simp only [PrintLast.eval_of e49, Act.eval]
      go_simp
      (try rfl)
    refine stepsS_cons ?_ ?_
    · refine stepS_of (stepO_bytes rfl [(10, 50)] [] (by kernel_rfl) rfl Tryd.underlying9 Tryd.underlying28 Tryd.underlying5 s HS63.out (fun a w_ hg hf => ?_) (fun _ _ h => h))
      obtain ⟨⟨⟨_, e50, rfl⟩, _⟩, _⟩ := hf
      replace e50 : a.tmps[50]? = some (.string s) := e50
      exact PrintLast.eval_of e50
    refine stepsS_cons ?_ ?_
    · refine stepS_of (stepO_call rfl [(11, 51)] [] (by kernel_rfl) Tryd.func43 (by kernel_rfl) rfl rfl (fun a w_ hg hf => ?_))
      obtain ⟨⟨⟨v51, e51, p51⟩, _⟩, _⟩ := hf
      replace e51 : a.tmps[51]? = some (v51) := e51
      obtain ⟨A51, c51, rfl, h51, C51⟩ := p51
      refine ⟨#[.slice A51 (bytesOf s).length c51, .int .i64 26], (by simp only [List.map_toArray, List.map_cons, List.map_nil, PrintLast.eval_of e51]; first | done | rfl), (spec_l02Fill.calls 2000 A51 c51 _ 26 (nameB s) w_ C51 h51 EF.out).mono ?_⟩
      rintro e_ w2_ ⟨v_, rfl, R_, b_⟩
      exact ⟨_, rfl, b_, own_row R_⟩
    refine stepsS_cons ?_ ?_
    · refine stepS_of (stepO_call rfl [] [] (by kernel_rfl) Tryd.func42 (by kernel_rfl) rfl rfl (fun a w_ hg hf => ?_))
      obtain ⟨_, _⟩ := hf
      refine ⟨#[.int .i64 0, .int .i64 4], (by simp only [List.map_toArray, List.map_cons, List.map_nil]; first | done | rfl), (spec_l02Put.calls 20 0 4 (leB 0 4) w_ EZ.out).mono ?_⟩
      rintro e_ w2_ ⟨v_, rfl, R_, b_⟩
      exact ⟨_, rfl, b_, own_row R_⟩
    exact stepsS_nil
  · skip
    refine ends_cons (fun v0_ p0_ => ?_)
    replace p0_ := Aside0.mk (show LitB w2.heap.size (nums .u8 magicS).toArray 5 8 v0_ w3 from p0_)
    refine ends_cons (fun v1_ p1_ => ?_)
    replace p1_ := Aside0.mk (show Row (Kd.int .u8) magicS v1_ w3 from p1_)
    refine ends_cons (fun v2_ p2_ => ?_)
    obtain rfl : v2_ = _ := p2_
    refine ends_cons (fun v3_ p3_ => ?_)
    obtain rfl : v3_ = _ := p3_
    refine ends_cons (fun v4_ p4_ => ?_)
    replace p4_ := Aside0.mk (show Row (Kd.int .u8) (leB x 1) v4_ w3 from p4_)
    refine ends_cons (fun v5_ p5_ => ?_)
    obtain rfl : v5_ = _ := p5_
    refine ends_cons (fun v6_ p6_ => ?_)
    obtain rfl : v6_ = _ := p6_
    refine ends_cons (fun v7_ p7_ => ?_)
    obtain rfl : v7_ = _ := p7_
    refine ends_cons (fun v8_ p8_ => ?_)
    replace p8_ := Aside0.mk (show Row (Kd.int .u8) (leB ((s.size : Nat) : Int) 1) v8_ w3 from p8_)
    refine ends_cons (fun v9_ p9_ => ?_)
    obtain rfl : v9_ = _ := p9_
    refine ends_cons (fun v10_ p10_ => ?_)
    obtain rfl : v10_ = _ := p10_
    refine ends_cons (fun v11_ p11_ => ?_)
    replace p11_ := Aside0.mk (show Row (Kd.int .u8) (bytesOf s) v11_ w3 from p11_)
    refine ends_cons (fun v12_ p12_ => ?_)
    replace p12_ := Aside0.mk (show Row (Kd.int .u8) (nameB s) v12_ w3 from p12_)
    refine ends_cons (fun v13_ p13_ => ?_)
    replace p13_ := Aside0.mk (show Row (Kd.int .u8) (leB 0 4) v13_ w3 from p13_)
    refine ends_nil ?_
    simp only [Act.put, List.setIfInBounds_toArray, List.set_cons_succ, List.set_cons_zero]
    have HB3 := Aside0.mk (below_then HB.out HB.out.size hgn)
    have H_3 := Aside0.mk (blk_below H1.out hgn)
    clear hgn HB H1 p0_
    obtain ⟨A1, c1, rfl, h1, C1⟩ := p1_.out
    obtain ⟨A4, c4, rfl, h4, C4⟩ := p4_.out
    obtain ⟨A8, c8, rfl, h8, C8⟩ := p8_.out
    obtain ⟨A12, c12, rfl, h12, C12⟩ := p12_.out
    obtain ⟨A13, c13, rfl, h13, C13⟩ := p13_.out
    clear p1_ p4_ p8_ p11_ p12_ p13_
    simp only [List.drop_succ_cons, List.drop_zero]
    go_wp2_with (first | ((with_reducible refine gate_dst (N := 54) rfl ?_); refine wpList_rows rfl (N := 54) rfl (Kd.int .u8) 5 28 [(.slice A1 magicS.length c1), (.slice A4 (leB x 1).length c4), (.slice A8 (leB ((s.size : Nat) : Int) 1).length c8), (.slice A12 (nameB s).length c12), (.slice A13 (leB 0 4).length c13)] [magicS, (leB x 1), (leB ((s.size : Nat) : Int) 1), (nameB s), (leB 0 4)] (by simp) ?hr (rows_cons ⟨_, _, rfl, h1, C1⟩ (rows_cons ⟨_, _, rfl, h4, C4⟩ (rows_cons ⟨_, _, rfl, h8, C8⟩ (rows_cons ⟨_, _, rfl, h12, C12⟩ (rows_cons ⟨_, _, rfl, h13, C13⟩ (rows_nil)))))) ?_; (case hr => first | (go_simp; done) | (go_simp; rfl)); intro A54 c54 w4 h54 C_ b_; have C54_4 := Aside0.mk C_; clear C_; have HB4 := Aside0.mk (below_then HB3.out HB3.out.size b_); have H_4 := Aside0.mk (blk_below H_3.out b_); clear b_ HB3 H_3) | ((with_reducible refine gate_dst (N := 55) rfl ?_); refine goesL_ (some 55) rfl rfl Tryd.func41 (by kernel_rfl) rfl #[.slice A54 [magicS, leB x 1, leB ((s.size : Nat) : Int) 1, nameB s, leB 0 4].length c54] rfl (by (try simp only [List.map_toArray, List.map_cons, List.map_nil]); first | done | rfl) ?_; refine (spec_l02Join.calls 20 A54 c54 _ (snapHead x s) w4 C54_4.out h54 EJ1.out).mono ?_; rintro e_ w5 ⟨v_, rfl, R_, b_⟩; obtain ⟨A55, c55, rfl⟩ := Kd.R_slice R_; refine ⟨_, rfl, ?_⟩; have O55_5 := Aside0.mk (Kd.R_lower R_ HB4.out.size); clear R_; have HB5 := Aside0.mk (below_then HB4.out HB4.out.size b_); have H_5 := Aside0.mk (blk_below H_4.out b_); have C54_5 := Aside0.mk (Kd.C_below C54_4.out b_); clear b_ HB4 H_4 C54_4))
    (try simp only [Act.put, List.setIfInBounds_toArray, List.set_cons_succ, List.set_cons_zero])
    refine wp_region_grow_tailS 10 [Is (.slice A55 (snapHead x s).length c55), Is (.pointer (some ⟨s0, 2, none⟩)), Is (.int .i64 p), Row (Kd.int .u8) (leB p 8), Is (.pointer (some ⟨s0, 3, none⟩)), Is (.int .i64 q), Row (Kd.int .u8) (leB q 8), Is (.pointer (some ⟨s0, 4, none⟩)), Is (.agg (nums .i64 r).toArray), Row (Kd.int .u8) (rootBytes r)] (by kernel_rfl) (by kernel_rfl) (by kernel_rfl) (by kernel_rfl) (allstS_cons stS_is (allstS_cons stS_is (allstS_cons stS_is (allstS_cons stS_row (allstS_cons stS_is (allstS_cons stS_is (allstS_cons stS_row (allstS_cons stS_is (allstS_cons stS_is (allstS_cons stS_row allstS_nil)))))))))) ?_ (fun w6 hgn => ?_)
    · refine stepsS_cons ?_ ?_
      · refine stepS_of (stepO_val rfl [] [4] (by kernel_rfl) (.slice A55 (snapHead x s).length c55) (fun a w_ hg hf => ?_) (fun w_ _ => rfl))
        obtain ⟨_, ⟨o4, _⟩⟩ := hf
        have e4 : a.tmps[4]? = some (.slice A55 (snapHead x s).length c55) := o4.trans rfl
        unfold execOp
        simp only [PrintLast.eval_of e4]
        rfl
      refine stepsS_cons ?_ ?_
      · refine stepS_of (stepO_val rfl [] [1] (by kernel_rfl) (.pointer (some ⟨s0, 2, none⟩)) (fun a w_ hg hf => ?_) (fun w_ _ => rfl))
        obtain ⟨_, ⟨o1, _⟩⟩ := hf
        have e1 : a.tmps[1]? = some (.pointer (some ⟨s0, 0, none⟩)) := o1.trans rfl
        unfold execOp
        simp only [PrintLast.eval_of e1, Act.eval]
        go_simp
        (try rfl)
      refine stepsS_cons ?_ ?_
      · refine stepS_of (stepO_val rfl [(1, 57)] [] (by kernel_rfl) (.int .i64 p) (fun a w_ hg hf => ?_) (fun w_ _ => rfl))
        obtain ⟨⟨⟨_, e57, rfl⟩, _⟩, _⟩ := hf
        replace e57 : a.tmps[57]? = some (.pointer (some ⟨s0, 2, none⟩)) := e57
        have c_ : w_.cell? ⟨s0, 2, none⟩ = some (.int .i64 p) := blk_cell (blk_below H_5.out hg) 2
        unfold execOp
        simp only [PrintLast.eval_of e57, Act.eval]
        go_simp
        (try rfl)
      refine stepsS_cons ?_ ?_
      · refine stepS_of (stepO_call rfl [(2, 58)] [] (by kernel_rfl) Tryd.func42 (by kernel_rfl) rfl rfl (fun a w_ hg hf => ?_))
        obtain ⟨⟨⟨_, e58, rfl⟩, _⟩, _⟩ := hf
        replace e58 : a.tmps[58]? = some (.int .i64 p) := e58
        refine ⟨#[.int .i64 p, .int .i64 8], (by simp only [List.map_toArray, List.map_cons, List.map_nil, PrintLast.eval_of e58]; first | done | rfl), (spec_l02Put.calls 20 p 8 (leB p 8) w_ E2.out).mono ?_⟩
        rintro e_ w2_ ⟨v_, rfl, R_, b_⟩
        exact ⟨_, rfl, b_, own_row R_⟩
      refine stepsS_cons ?_ ?_
      · refine stepS_of (stepO_val rfl [] [1] (by kernel_rfl) (.pointer (some ⟨s0, 3, none⟩)) (fun a w_ hg hf => ?_) (fun w_ _ => rfl))
        obtain ⟨_, ⟨o1, _⟩⟩ := hf
        have e1 : a.tmps[1]? = some (.pointer (some ⟨s0, 0, none⟩)) := o1.trans rfl
        unfold execOp
        simp only [PrintLast.eval_of e1, Act.eval]
        go_simp
        (try rfl)
      refine stepsS_cons ?_ ?_
      · refine stepS_of (stepO_val rfl [(4, 60)] [] (by kernel_rfl) (.int .i64 q) (fun a w_ hg hf => ?_) (fun w_ _ => rfl))
        obtain ⟨⟨⟨_, e60, rfl⟩, _⟩, _⟩ := hf
        replace e60 : a.tmps[60]? = some (.pointer (some ⟨s0, 3, none⟩)) := e60
        have c_ : w_.cell? ⟨s0, 3, none⟩ = some (.int .i64 q) := blk_cell (blk_below H_5.out hg) 3
        unfold execOp
        simp only [PrintLast.eval_of e60, Act.eval]
        go_simp
        (try rfl)
      refine stepsS_cons ?_ ?_
      · refine stepS_of (stepO_call rfl [(5, 61)] [] (by kernel_rfl) Tryd.func42 (by kernel_rfl) rfl rfl (fun a w_ hg hf => ?_))
        obtain ⟨⟨⟨_, e61, rfl⟩, _⟩, _⟩ := hf
        replace e61 : a.tmps[61]? = some (.int .i64 q) := e61
        refine ⟨#[.int .i64 q, .int .i64 8], (by simp only [List.map_toArray, List.map_cons, List.map_nil, PrintLast.eval_of e61]; first | done | rfl), (spec_l02Put.calls 20 q 8 (leB q 8) w_ E3.out).mono ?_⟩
        rintro e_ w2_ ⟨v_, rfl, R_, b_⟩
        exact ⟨_, rfl, b_, own_row R_⟩
      refine stepsS_cons ?_ ?_
      · refine stepS_of (stepO_val rfl [] [1] (by kernel_rfl) (.pointer (some ⟨s0, 4, none⟩)) (fun a w_ hg hf => ?_) (fun w_ _ => rfl))
        obtain ⟨_, ⟨o1, _⟩⟩ := hf
        have e1 : a.tmps[1]? = some (.pointer (some ⟨s0, 0, none⟩)) := o1.trans rfl
        unfold execOp
        simp only [PrintLast.eval_of e1, Act.eval]
        go_simp
        (try rfl)
      refine stepsS_cons ?_ ?_
      · refine stepS_of (stepO_val rfl [(7, 63)] [] (by kernel_rfl) (.agg (nums .i64 r).toArray) (fun a w_ hg hf => ?_) (fun w_ _ => rfl))
        obtain ⟨⟨⟨_, e63, rfl⟩, _⟩, _⟩ := hf
        replace e63 : a.tmps[63]? = some (.pointer (some ⟨s0, 4, none⟩)) := e63
        have c_ : (loadVar 31 ⟨s0, 4, none⟩).run Tryd.prog w_ = .ok (.agg (nums .i64 r).toArray) w_ := by have h_ := run_load_part (P := Tryd.prog) w_ s0 4 15 33 31 _ (0, 0) _ (blk_below H_5.out hg) Tryd.underlying31 rfl (by kernel_rfl) (by rw [snapC_size NR.out]; decide); rw [snapC_root NR.out, Array.toArray_toList] at h_; exact h_
        unfold execOp
        simp only [PrintLast.eval_of e63, Instr.loadAt, Instr.sureAddr, Sem.run_bind, Sem.run_pure, Result.andThen_ok, c_]
      refine stepsS_cons ?_ ?_
      · refine stepS_of (stepO_call rfl [(8, 64)] [] (by kernel_rfl) Tryd.func45 (by kernel_rfl) rfl rfl (fun a w_ hg hf => ?_))
        obtain ⟨⟨⟨_, e64, rfl⟩, _⟩, _⟩ := hf
        replace e64 : a.tmps[64]? = some (.agg (nums .i64 r).toArray) := e64
        refine ⟨#[.agg (nums .i64 r).toArray], (by simp only [List.map_toArray, List.map_cons, List.map_nil, PrintLast.eval_of e64]; first | done | rfl), (spec_l02RootBytes.calls r NR.out (rootBytes r) w_ ER.out).mono ?_⟩
        rintro e_ w2_ ⟨v_, rfl, R_, b_⟩
        exact ⟨_, rfl, b_, own_row R_⟩
      exact stepsS_nil
    · skip
      refine ends_cons (fun v0_ p0_ => ?_)
      obtain rfl : v0_ = _ := p0_
      refine ends_cons (fun v1_ p1_ => ?_)
      obtain rfl : v1_ = _ := p1_
      refine ends_cons (fun v2_ p2_ => ?_)
      obtain rfl : v2_ = _ := p2_
      refine ends_cons (fun v3_ p3_ => ?_)
      replace p3_ := Aside0.mk (show Row (Kd.int .u8) (leB p 8) v3_ w6 from p3_)
      refine ends_cons (fun v4_ p4_ => ?_)
      obtain rfl : v4_ = _ := p4_
      refine ends_cons (fun v5_ p5_ => ?_)
      obtain rfl : v5_ = _ := p5_
      refine ends_cons (fun v6_ p6_ => ?_)
      replace p6_ := Aside0.mk (show Row (Kd.int .u8) (leB q 8) v6_ w6 from p6_)
      refine ends_cons (fun v7_ p7_ => ?_)
      obtain rfl : v7_ = _ := p7_
      refine ends_cons (fun v8_ p8_ => ?_)
      obtain rfl : v8_ = _ := p8_
      refine ends_cons (fun v9_ p9_ => ?_)
      replace p9_ := Aside0.mk (show Row (Kd.int .u8) (rootBytes r) v9_ w6 from p9_)
      refine ends_nil ?_
      simp only [Act.put, List.setIfInBounds_toArray, List.set_cons_succ, List.set_cons_zero]
      have HB6 := Aside0.mk (below_then HB5.out HB5.out.size hgn)
      have H_6 := Aside0.mk (blk_below H_5.out hgn)
      have O55_6 := Aside0.mk (Kd.R_below O55_5.out hgn)
      clear hgn HB5 H_5 O55_5
      obtain ⟨A3, c3, rfl, h3, C3⟩ := p3_.out
      obtain ⟨A6, c6, rfl, h6, C6⟩ := p6_.out
      obtain ⟨A9, c9, rfl, h9, C9⟩ := p9_.out
      clear p3_ p6_ p9_
      simp only [List.drop_succ_cons, List.drop_zero]
      go_wp2_with (first | ((with_reducible refine gate_dst (N := 66) rfl ?_); refine wpList_rows rfl (N := 66) rfl (Kd.int .u8) 5 28 [(.slice A55 (snapHead x s).length c55), (.slice A3 (leB p 8).length c3), (.slice A6 (leB q 8).length c6), (.slice A9 (rootBytes r).length c9)] [(snapHead x s), (leB p 8), (leB q 8), (rootBytes r)] (by simp) ?hr (rows_cons ⟨_, _, rfl, (Kd.R_reads' O55_6.out).2.1, (Kd.R_reads' O55_6.out).2.2⟩ (rows_cons ⟨_, _, rfl, h3, C3⟩ (rows_cons ⟨_, _, rfl, h6, C6⟩ (rows_cons ⟨_, _, rfl, h9, C9⟩ (rows_nil))))) ?_; (case hr => first | (go_simp; done) | (go_simp; rfl)); intro A66 c66 w7 h66 C_ b_; have C66_7 := Aside0.mk C_; clear C_; have HB7 := Aside0.mk (below_then HB6.out HB6.out.size b_); have H_7 := Aside0.mk (blk_below H_6.out b_); have O55_7 := Aside0.mk (Kd.R_below O55_6.out b_); clear b_ HB6 H_6 O55_6) | ((with_reducible refine gate_dst (N := 67) rfl ?_); refine goesL_ (some 67) rfl rfl Tryd.func41 (by kernel_rfl) rfl #[.slice A66 [snapHead x s, leB p 8, leB q 8, rootBytes r].length c66] rfl (by (try simp only [List.map_toArray, List.map_cons, List.map_nil]); first | done | rfl) ?_; refine (spec_l02Join.calls 20 A66 c66 _ (snapBody x s p q r) w7 C66_7.out h66 EJ2.out).mono ?_; rintro e_ w8 ⟨v_, rfl, R_, b_⟩; obtain ⟨A67, c67, rfl⟩ := Kd.R_slice R_; refine ⟨_, rfl, ?_⟩; have O67_8 := Aside0.mk (Kd.R_lower R_ HB7.out.size); clear R_; have HB8 := Aside0.mk (below_then HB7.out HB7.out.size b_); have H_8 := Aside0.mk (blk_below H_7.out b_); have O55_8 := Aside0.mk (Kd.R_below O55_7.out b_); have C66_8 := Aside0.mk (Kd.C_below C66_7.out b_); clear b_ HB7 H_7 O55_7 C66_7) | ((with_reducible refine gate_dst (N := 68) rfl ?_); refine goesL_ (some 68) rfl rfl Tryd.func44 (by kernel_rfl) rfl #[.slice A67 (snapBody x s p q r).length c67] rfl (by (try simp only [List.map_toArray, List.map_cons, List.map_nil]); first | done | rfl) ?_; refine (spec_l02Sealed.calls 2000 A67 c67 _ (snapBytes x s p q r) w8 (Kd.R_reads' O67_8.out).2.2 (Kd.R_reads' O67_8.out).2.1 ESE.out).mono ?_; rintro e_ w9 ⟨v_, rfl, R_, b_⟩; obtain ⟨A68, c68, rfl⟩ := Kd.R_slice R_; refine ⟨_, rfl, ?_⟩; have O68_9 := Aside0.mk (Kd.R_lower R_ HB8.out.size); clear R_; have HB9 := Aside0.mk (below_then HB8.out HB8.out.size b_); have H_9 := Aside0.mk (blk_below H_8.out b_); have O55_9 := Aside0.mk (Kd.R_below O55_8.out b_); have C66_9 := Aside0.mk (Kd.C_below C66_8.out b_); have O67_9 := Aside0.mk (Kd.R_below O67_8.out b_); clear b_ HB8 H_8 O55_8 C66_8 O67_8))
      go_ret2
      exact ⟨_, rfl, O68_9.out, HB9.out⟩

open Go.Proofs.YtkghgjehjchajaaDoorW Go.Proofs.YtkghgjehjchajaaDoorW.PrintHand Go.Proofs.YtkghgjehjchajaaDoorW.PrintHx
/-! ### laws_toIntA12: function 75 -/
def laws_toIntA12.f (a0 : List Int) : Option (List Int) := if a0.length = 12 then some a0 else none
set_option maxHeartbeats 4000000 in
set_option maxRecDepth 100000 in
theorem laws_toIntA12.calls (a0 : List Int) (n0 : a0.length = 12) (r : List Int) (w : World) (h : laws_toIntA12.f a0 = some r) :
    Calls Tryd.prog 75 #[.agg (nums .i64 a0).toArray] w fun e w' => e = .returned (.agg (nums .i64 r).toArray) ∧ Below w.heap.size w w' := by
  unfold laws_toIntA12.f at h
  rw [if_pos n0] at h
  obtain rfl := Option.some.inj h
  have N_ := Aside0.mk n0
  clear n0 h
  have Z_ : ∀ w, (zeroValue 22).run Tryd.prog w = .ok (.agg (nums .i64 (List.replicate 12 0)).toArray) w := fun _ => by kernel_rfl
  have HB0 : Aside0 (Below w.heap.size w w) := ⟨Below.refl _ _⟩
  obtain ⟨s0, Sz0⟩ : ∃ s0, Aside0 (w.heap.size = s0) := ⟨_, ⟨rfl⟩⟩
  have hw0 : w.heap.size ≤ s0 := Nat.le_of_eq Sz0.out
  have hu22 := Tryd.underlying22
  go_enter Tryd.func75, Tryd.ntmps75
  go_wp2_with (first | ((with_reducible refine gate_dst (N := 1) rfl ?_); refine hx_box rfl 1 rfl 22 (.tmp 0) rfl Sz0 (.agg (nums .i64 a0).toArray) (nums .i64 a0).toArray rfl rfl ?_; intro w1 s1 L1 Sz1 b1 g_; have H0 := Aside0.mk g_; have HB1 := Aside0.mk (below_then HB0.out HB0.out.size b1); clear g_ HB0 b1) | ((with_reducible refine gate_dst (N := 2) rfl ?_); refine hx_alloc rfl 2 rfl 22 rfl Sz1 (.agg (nums .i64 (List.replicate 12 0)).toArray) (nums .i64 (List.replicate 12 0)).toArray Z_ rfl ?_; intro w2 s2 L2 Sz2 b2 g_; have H1 := Aside0.mk g_; have H0 := Aside0.mk (blk_below H0.out b2); have HB2 := Aside0.mk (below_then HB1.out HB1.out.size b2); clear g_ HB1 b2) | ((with_reducible refine gate_dst (N := 3) rfl ?_); refine hx_alloc rfl 3 rfl 22 rfl Sz2 (.agg (nums .i64 (List.replicate 12 0)).toArray) (nums .i64 (List.replicate 12 0)).toArray Z_ rfl ?_; intro w3 s3 L3 Sz3 b3 g_; have H2 := Aside0.mk g_; have H0 := Aside0.mk (blk_below H0.out b3); have H1 := Aside0.mk (blk_below H1.out b3); have HB3 := Aside0.mk (below_then HB2.out HB2.out.size b3); clear g_ HB2 b3))
  (try simp only [Act.put, List.setIfInBounds_toArray, List.set_cons_succ, List.set_cons_zero])
  go_loopw [4] (fun i wr => ∃ k : Nat, k ≤ 12 ∧ i = .int .i64 (k : Int) ∧ Aside0 (Below w.heap.size w wr) ∧ Aside0 (wr.heap[s0]? = some (.cells (nums .i64 a0).toArray 22 (0, 0))) ∧ Aside0 (wr.heap[s1]? = some (.cells (nums .i64 (List.replicate 12 0)).toArray 22 (0, 0))) ∧ Aside0 (wr.heap[s2]? = some (.cells (nums .i64 (a0.take k ++ List.replicate (12 - k) 0)).toArray 22 (0, 0)))) (fun i _ => 12 - (intOf i).toNat)
  case atStart => exact ⟨0, by omega, rfl, HB3, H0, H1, H2⟩
  case round =>
    clear HB3 H0 H1 H2
    obtain ⟨k, hk, rfl, hB, h0, h1, h2⟩ := hrel
    by_cases hlt : k < 12
    · have c0 := row_cell h0.out k (by rw [N_.out]; exact hlt)
      have c2 := row_cell h2.out k (by rw [List.length_append, List.length_take, List.length_replicate, N_.out]; omega)
      have f2 := row_frozen h2.out k
      obtain ⟨y, hy⟩ : ∃ y, y = (a0.take k ++ List.replicate (12 - k) 0).getD k 0 := ⟨_, rfl⟩
      obtain ⟨x, hx⟩ : ∃ x, x = a0.getD k 0 := ⟨_, rfl⟩
      rw [← hy] at c2
      rw [← hx] at c0
      have HX := Aside0.mk hx
      clear hx hy
      go_wp2
      go_roundw
      case rel =>
        refine ⟨k + 1, by omega, by go_num, ⟨hB.out.setCell (show w.heap.size ≤ s2 by omega) _⟩, ⟨row_other h0.out (by omega) _ _⟩, ⟨row_other h1.out (by omega) _ _⟩, ⟨?_⟩⟩
        have h := row_set h2.out k (a0.getD k 0)
        have e : (a0.take k ++ List.replicate (12 - k) 0).set k (a0.getD k 0) = a0.take (k + 1) ++ List.replicate (12 - (k + 1)) 0 := by
          have hl : k < a0.length := by rw [N_.out]; exact hlt
          have ht : (a0.take k).length = k := by rw [List.length_take]; omega
          rw [List.set_append_right _ _ (by omega), ht, Nat.sub_self, show 12 - k = (12 - (k + 1)) + 1 by omega, List.replicate_succ, List.set_cons_zero, List.take_succ_eq_append_getElem hl, List.append_assoc, List.getD_eq_getElem?_getD, List.getElem?_eq_getElem hl]
          rfl
        rw [e, List.getD_eq_getElem?_getD, List.getElem?_eq_getElem (show k < a0.length by rw [N_.out]; exact hlt)] at h
        have hx := HX.out
        rw [List.getD_eq_getElem?_getD, List.getElem?_eq_getElem (show k < a0.length by rw [N_.out]; exact hlt)] at hx
        rw [hx]
        exact h
      case measure => simp [intOf]; omega
    · obtain rfl : k = 12 := by omega
      have e2 : a0.take 12 ++ List.replicate (12 - 12) 0 = a0 := by
        rw [List.take_of_length_le (by rw [N_.out]; exact Nat.le_refl _)]
        simp
      have h3 := h2.out
      rw [e2] at h3
      have H3 := Aside0.mk h3
      clear h2 e2 h3
      go_wp2_with (first | ((with_reducible refine gate_dst (N := 14) rfl ?_); refine hx_load rfl 22 (.tmp 3) rfl s2 12 rfl Tryd.underlying22 rfl (by kernel_rfl) H3.out (nums_size _ _ _ N_.out) ?_) | ((with_reducible refine gate_store (t := 22) (p := 2) (v := .tmp 14) rfl ?_); refine hx_store rfl rfl 22 (.tmp 2) (.tmp 14) rfl s1 12 rfl (nums .i64 a0).toArray rfl (by kernel_rfl) (nums_size _ _ _ N_.out) (nums_one _ _) h1.out (nums_size _ _ _ (by simp)) ?_; intro w4 t4 g4))
      refine bodyPost_ret (results_cell_row rfl _ _ s1 22 _ (0, 0) _ rfl g4 Tryd.underlying22 rfl (by rw [nums_size _ _ _ N_.out]; kernel_rfl)) rfl ⟨rfl, ?_⟩
      exact t4.below hB.out (by omega)

open Go.Proofs.YtkghgjehjchajaaDoorW Go.Proofs.YtkghgjehjchajaaDoorW.PrintHand Go.Proofs.YtkghgjehjchajaaDoorW.PrintHx
/-! ### laws_toRoot: function 46 -/
def laws_toRoot.f (a0 : List Int) : Option (List Int) := if a0.length = 15 then some a0 else none
theorem laws_toRoot.same (a0 : List Int) (h : a0.length = 15) (M4 M6 M7 M8 : List Int) (q4 : M4 = (List.replicate 15 0).set 0 (a0.getD 0 0)) (q6 : M6 = M4.take 1 ++ (seg a0 1 12) ++ M4.drop (1 + 12)) (q7 : M7 = M6.set 13 (a0.getD 13 0)) (q8 : M8 = M7.set 14 (a0.getD 14 0)) : M8 = a0 := by
  subst q4
  subst q6
  subst q7
  subst q8
  obtain ⟨x0, a1, rfl, h0⟩ := cons_of_len h
  obtain ⟨x1, a2, rfl, h1⟩ := cons_of_len h0
  obtain ⟨x2, a3, rfl, h2⟩ := cons_of_len h1
  obtain ⟨x3, a4, rfl, h3⟩ := cons_of_len h2
  obtain ⟨x4, a5, rfl, h4⟩ := cons_of_len h3
  obtain ⟨x5, a6, rfl, h5⟩ := cons_of_len h4
  obtain ⟨x6, a7, rfl, h6⟩ := cons_of_len h5
  obtain ⟨x7, a8, rfl, h7⟩ := cons_of_len h6
  obtain ⟨x8, a9, rfl, h8⟩ := cons_of_len h7
  obtain ⟨x9, a10, rfl, h9⟩ := cons_of_len h8
  obtain ⟨x10, a11, rfl, h10⟩ := cons_of_len h9
  obtain ⟨x11, a12, rfl, h11⟩ := cons_of_len h10
  obtain ⟨x12, a13, rfl, h12⟩ := cons_of_len h11
  obtain ⟨x13, a14, rfl, h13⟩ := cons_of_len h12
  obtain ⟨x14, a15, rfl, h14⟩ := cons_of_len h13
  obtain rfl := List.length_eq_zero_iff.mp h14
  rfl
set_option maxHeartbeats 8000000 in
set_option maxRecDepth 100000 in
theorem laws_toRoot.calls (a0 : List Int) (n0 : a0.length = 15) (r : List Int) (w : World) (h : laws_toRoot.f a0 = some r) :
    Calls Tryd.prog 46 #[.agg (nums .i64 a0).toArray] w fun e w' => e = .returned (.agg (nums .i64 r).toArray) ∧ Below w.heap.size w w' := by
  unfold laws_toRoot.f at h
  rw [if_pos n0] at h
  obtain rfl := Option.some.inj h
  have N_ := Aside0.mk n0
  clear n0 h
  have HB0 : Aside0 (Below w.heap.size w w) := ⟨Below.refl _ _⟩
  obtain ⟨s0, Sz0⟩ : ∃ s0, Aside0 (w.heap.size = s0) := ⟨_, ⟨rfl⟩⟩
  have hw0 : w.heap.size ≤ s0 := Nat.le_of_eq Sz0.out
  have hw1 : s0 ≤ w.heap.size := Nat.le_of_eq Sz0.out.symm
  have Z31 : ∀ w, (zeroValue 31).run Tryd.prog w = .ok (.agg (nums .i64 (List.replicate 15 0)).toArray) w := fun _ => by kernel_rfl
  go_enter Tryd.func46, Tryd.ntmps46
  go_wp2_with (first | ((with_reducible refine gate_dst (N := 1) rfl ?_); refine hx_box rfl 1 rfl 24 (.tmp 0) rfl Sz0 (.agg (nums .i64 a0).toArray) (nums .i64 a0).toArray rfl rfl ?_; intro w1 s1 L1 Sz1 b1 g_; have H1_1 := Aside0.mk g_; clear g_; have K0 := kept_below b1; have HB1 := Aside0.mk (below_then HB0.out HB0.out.size b1); clear b1; clear K0 HB0) | ((with_reducible refine gate_dst (N := 2) rfl ?_); refine hx_alloc rfl 2 rfl 31 rfl Sz1 (.agg (nums .i64 (List.replicate 15 0)).toArray) (nums .i64 (List.replicate 15 0)).toArray Z31 rfl ?_; intro w2 s2 L2 Sz2 b2 g_; have H2_2 := Aside0.mk g_; clear g_; have K1 := kept_below b2; have HB2 := Aside0.mk (below_then HB1.out HB1.out.size b2); have H1_2 := Aside0.mk (blk_kept H1_1.out K1 (fun h_ => h_)); clear b2; clear K1 HB1 H1_1) | ((with_reducible refine gate_dst (N := 3) rfl ?_); refine hx_alloc rfl 3 rfl 31 rfl Sz2 (.agg (nums .i64 (List.replicate 15 0)).toArray) (nums .i64 (List.replicate 15 0)).toArray Z31 rfl ?_; intro w3 s3 L3 Sz3 b3 g_; have H3_3 := Aside0.mk g_; clear g_; have K2 := kept_below b3; have HB3 := Aside0.mk (below_then HB2.out HB2.out.size b3); have H1_3 := Aside0.mk (blk_kept H1_2.out K2 (fun h_ => h_)); have H2_3 := Aside0.mk (blk_kept H2_2.out K2 (fun h_ => h_)); clear b3; clear K2 HB2 H1_2 H2_2) | ((with_reducible refine gate_dst (N := 5) rfl ?_); refine hx_loadf rfl 3 (.tmp 4) rfl s0 0 rfl Tryd.underlying3 rfl H1_3.out (lt_len (n := 15) N_.out (by decide)) ?_) | ((with_reducible refine gate_store (t := 3) (p := 6) (v := .tmp 5) rfl ?_); refine hx_storef rfl rfl 3 (.tmp 6) (.tmp 5) rfl s2 0 rfl (a0.getD 0 0) rfl (by kernel_rfl) H3_3.out (lt_len (n := 15) (by simp) (by decide)) ?_; intro w4 M4 t4 Q4 l_ g4; have N4 : Aside0 (M4.length = 15) := ⟨l_.out.trans (by simp)⟩; clear l_; have K3 := kept_touch t4; have HB4 := Aside0.mk (t4.below HB3.out (by omega)); have H1_4 := Aside0.mk (blk_kept H1_3.out K3 (by show ¬ (_ = _); omega)); have H2_4 := Aside0.mk (blk_kept H2_3.out K3 (by show ¬ (_ = _); omega)); have H3_4 := Aside0.mk g4; have Sz4 := Aside0.mk (t4.size.trans Sz3.out); clear t4 g4; clear K3 HB3 H1_3 H2_3 H3_3) | ((with_reducible refine gate_dst (N := 8) rfl ?_); refine hx_loadp rfl 22 (.tmp 7) rfl s0 1 12 rfl Tryd.underlying22 rfl (by kernel_rfl) H1_4.out (le_len (n := 15) N_.out (by decide)) ?_) | ((with_reducible refine gate_dst (N := 9) rfl ?_); refine goesL_ (some 9) rfl rfl Tryd.func75 (by kernel_rfl) rfl #[.agg (nums .i64 (seg a0 1 12)).toArray] rfl (by (try simp only [List.map_toArray, List.map_cons, List.map_nil]); first | done | rfl) ?_; refine (laws_toIntA12.calls _ (part_len (n := 15) N_.out (by decide)) _ _ (if_pos (part_len (n := 15) N_.out (by decide)))).mono ?_; rintro e_ w5 ⟨rfl, b5⟩; refine ⟨_, rfl, ?_⟩; obtain ⟨s5, L5, Sz5⟩ := size_letter Sz4 (kept_below b5); have K4 := kept_below b5; have HB5 := Aside0.mk (below_then HB4.out HB4.out.size b5); have H1_5 := Aside0.mk (blk_kept H1_4.out K4 (fun h_ => h_)); have H2_5 := Aside0.mk (blk_kept H2_4.out K4 (fun h_ => h_)); have H3_5 := Aside0.mk (blk_kept H3_4.out K4 (fun h_ => h_)); clear b5; clear K4 HB4 H1_4 H2_4 H3_4) | ((with_reducible refine gate_store (t := 22) (p := 10) (v := .tmp 9) rfl ?_); refine hx_storep rfl rfl 22 (.tmp 10) (.tmp 9) rfl s2 1 12 rfl (seg a0 1 12) rfl (by kernel_rfl) (part_len (n := 15) N_.out (by decide)) H3_5.out (le_len (n := 15) N4.out (by decide)) ?_; intro w6 M6 t6 Q6 l_ g6; have N6 : Aside0 (M6.length = 15) := ⟨l_.out.trans N4.out⟩; clear l_; have K5 := kept_touch t6; have HB6 := Aside0.mk (t6.below HB5.out (by omega)); have H1_6 := Aside0.mk (blk_kept H1_5.out K5 (by show ¬ (_ = _); omega)); have H2_6 := Aside0.mk (blk_kept H2_5.out K5 (by show ¬ (_ = _); omega)); have H3_6 := Aside0.mk g6; have Sz6 := Aside0.mk (t6.size.trans Sz5.out); clear t6 g6; clear K5 HB5 H1_5 H2_5 H3_5) | ((with_reducible refine gate_dst (N := 12) rfl ?_); refine hx_loadf rfl 3 (.tmp 11) rfl s0 13 rfl Tryd.underlying3 rfl H1_6.out (lt_len (n := 15) N_.out (by decide)) ?_) | ((with_reducible refine gate_store (t := 3) (p := 13) (v := .tmp 12) rfl ?_); refine hx_storef rfl rfl 3 (.tmp 13) (.tmp 12) rfl s2 13 rfl (a0.getD 13 0) rfl (by kernel_rfl) H3_6.out (lt_len (n := 15) N6.out (by decide)) ?_; intro w7 M7 t7 Q7 l_ g7; have N7 : Aside0 (M7.length = 15) := ⟨l_.out.trans N6.out⟩; clear l_; have K6 := kept_touch t7; have HB7 := Aside0.mk (t7.below HB6.out (by omega)); have H1_7 := Aside0.mk (blk_kept H1_6.out K6 (by show ¬ (_ = _); omega)); have H2_7 := Aside0.mk (blk_kept H2_6.out K6 (by show ¬ (_ = _); omega)); have H3_7 := Aside0.mk g7; have Sz7 := Aside0.mk (t7.size.trans Sz6.out); clear t7 g7; clear K6 HB6 H1_6 H2_6 H3_6) | ((with_reducible refine gate_dst (N := 15) rfl ?_); refine hx_loadf rfl 3 (.tmp 14) rfl s0 14 rfl Tryd.underlying3 rfl H1_7.out (lt_len (n := 15) N_.out (by decide)) ?_) | ((with_reducible refine gate_store (t := 3) (p := 16) (v := .tmp 15) rfl ?_); refine hx_storef rfl rfl 3 (.tmp 16) (.tmp 15) rfl s2 14 rfl (a0.getD 14 0) rfl (by kernel_rfl) H3_7.out (lt_len (n := 15) N7.out (by decide)) ?_; intro w8 M8 t8 Q8 l_ g8; have N8 : Aside0 (M8.length = 15) := ⟨l_.out.trans N7.out⟩; clear l_; have K7 := kept_touch t8; have HB8 := Aside0.mk (t8.below HB7.out (by omega)); have H1_8 := Aside0.mk (blk_kept H1_7.out K7 (by show ¬ (_ = _); omega)); have H2_8 := Aside0.mk (blk_kept H2_7.out K7 (by show ¬ (_ = _); omega)); have H3_8 := Aside0.mk g8; have Sz8 := Aside0.mk (t8.size.trans Sz7.out); clear t8 g8; clear K7 HB7 H1_7 H2_7 H3_7) | ((with_reducible refine gate_dst (N := 17) rfl ?_); refine hx_load rfl 31 (.tmp 3) rfl s2 15 rfl Tryd.underlying31 rfl (by kernel_rfl) H3_8.out (nums_size _ _ _ N8.out) ?_) | ((with_reducible refine gate_store (t := 31) (p := 2) (v := .tmp 17) rfl ?_); refine hx_store rfl rfl 31 (.tmp 2) (.tmp 17) rfl s1 15 rfl (nums .i64 M8).toArray rfl (by kernel_rfl) (nums_size _ _ _ N8.out) (nums_one _ _) H2_8.out (nums_size _ _ _ (by simp)) ?_; intro w9 t9 g9; have K8 := kept_touch t9; have HB9 := Aside0.mk (t9.below HB8.out (by omega)); have H1_9 := Aside0.mk (blk_kept H1_8.out K8 (by show ¬ (_ = _); omega)); have H2_9 := Aside0.mk g9; have H3_9 := Aside0.mk (blk_kept H3_8.out K8 (by show ¬ (_ = _); omega)); have Sz9 := Aside0.mk (t9.size.trans Sz8.out); clear t9 g9; clear K8 HB8 H1_8 H2_8 H3_8))
  have e_ := laws_toRoot.same a0 N_.out _ _ _ _ Q4.out Q6.out Q7.out Q8.out
  have HF := H2_9.out
  rw [e_] at HF
  exact bodyPost_ret (results_cell_row rfl _ _ s1 31 _ (0, 0) _ rfl HF Tryd.underlying31 rfl (by rw [nums_size _ _ _ N_.out]; kernel_rfl)) rfl ⟨rfl, HB9.out⟩

open Go.Proofs.YtkghgjehjchajaaDoorW Go.Proofs.YtkghgjehjchajaaDoorW.PrintHand Go.Proofs.YtkghgjehjchajaaDoorW.PrintHx
/-! ### laws_toSnap: function 11 -/
open Go.Proofs.YtkghgjehjchajaaDoorW.PrintLe Go.Proofs.YtkghgjehjchajaaDoorW.PrintGrow Go.Proofs.YtkghgjehjchajaaDoorW.PrintDec Go.Proofs.YtkghgjehjchajaaDoorW.PrintIno Go.Proofs.YtkghgjehjchajaaDoorW.PrintTab2 Go.Proofs.YtkghgjehjchajaaDoorW.PrintTab3 Go.Proofs.YtkghgjehjchajaaDoorW.PrintFsi Go.Proofs.YtkghgjehjchajaaDoorW.PrintFsb Go.Proofs.YtkghgjehjchajaaDoorW.PrintFsd Go.Proofs.YtkghgjehjchajaaDoorW.PrintCrc Go.Proofs.YtkghgjehjchajaaDoorW.PrintSnp
set_option maxHeartbeats 8000000 in
set_option maxRecDepth 100000 in
theorem laws_toSnap.calls (x : Int) (s : ByteArray) (p q : Int) (r : List Int) (nr : r.length = 15) (w : World) :
    Calls Tryd.prog 11 #[.agg (snapC x s p q r).toArray] w fun e w' => e = .returned (.agg (snapC x s p q r).toArray) ∧ Below w.heap.size w w' := by
  have NR := Aside0.mk nr
  have WR := Aside0.mk (show laws_toRoot.f r = some r from if_pos nr)
  clear nr
  obtain ⟨zz, hzz⟩ : ∃ z, z = List.replicate 15 (0 : Int) := ⟨_, rfl⟩
  have NZ := Aside0.mk (show zz.length = 15 by rw [hzz]; simp)
  have Z33 : ∀ w, (zeroValue 33).run Tryd.prog w = .ok (.agg (snapC 0 ByteArray.empty 0 0 zz).toArray) w := fun _ => by rw [hzz]; kernel_rfl
  clear hzz
  have HB0 : Aside0 (Below w.heap.size w w) := ⟨Below.refl _ _⟩
  obtain ⟨s0, Sz0⟩ : ∃ s0, Aside0 (w.heap.size = s0) := ⟨_, ⟨rfl⟩⟩
  have hw0 : w.heap.size ≤ s0 := Nat.le_of_eq Sz0.out
  have hw1 : s0 ≤ w.heap.size := Nat.le_of_eq Sz0.out.symm
  go_enter Tryd.func11, Tryd.ntmps11
  go_wp2_with (first | ((with_reducible refine gate_dst (N := 1) rfl ?_); refine hx_box rfl 1 rfl 26 (.tmp 0) rfl Sz0 (.agg (snapC x s p q r).toArray) (snapC x s p q r).toArray rfl (by simp [Value.cells]) ?_; intro w1 s1 L1 Sz1 b1_ g_; have H1 := Aside0.mk g_; have HB := Aside0.mk (below_then HB0.out HB0.out.size b1_); clear g_ HB0 b1_) | ((with_reducible refine gate_dst (N := 2) rfl ?_); refine hx_alloc rfl 2 rfl 33 rfl Sz1 (.agg (snapC 0 ByteArray.empty 0 0 zz).toArray) (snapC 0 ByteArray.empty 0 0 zz).toArray Z33 (by simp [Value.cells]) ?_; intro w2 s2 Ls2 Ss2 b_ g_; have H2 := Aside0.mk g_; have H1n := Aside0.mk (blk_below H1.out b_); have HBn := Aside0.mk (below_then HB.out HB.out.size b_); clear b_ g_; clear H1 HB; have H1 := H1n; have HB := HBn; clear H1n HBn) | ((with_reducible refine gate_dst (N := 3) rfl ?_); refine hx_alloc rfl 3 rfl 33 rfl Ss2 (.agg (snapC 0 ByteArray.empty 0 0 zz).toArray) (snapC 0 ByteArray.empty 0 0 zz).toArray Z33 (by simp [Value.cells]) ?_; intro w3 s3 Ls3 Ss3 b_ g_; have H3 := Aside0.mk g_; have H1n := Aside0.mk (blk_below H1.out b_); have H2n := Aside0.mk (blk_below H2.out b_); have HBn := Aside0.mk (below_then HB.out HB.out.size b_); clear b_ g_; clear H1 H2 HB; have H1 := H1n; have H2 := H2n; have HB := HBn; clear H1n H2n HBn) | ((with_reducible refine gate_dst (N := 5) rfl ?_); refine wpList_ld1 rfl 3 (.tmp 4) rfl s0 0 rfl (.int .i64 x) Tryd.underlying3 rfl H1.out rfl ?_) | ((with_reducible refine gate_store (t := 3) (p := 6) (v := .tmp 5) rfl ?_); refine wpList_st rfl rfl 3 (.tmp 6) (.tmp 5) rfl s2 0 rfl (.int .i64 x) rfl [.int .i64 x] (snapC x ByteArray.empty 0 0 zz).toArray rfl (show (Tryd.prog.info? 3).map (·.size) = some 1 by kernel_rfl) rfl H3.out (by rw [snapC_size NZ.out]; exact (show 0 + 1 ≤ 19 by decide)) (by rfl) ?_; intro w_ t_ g_; have H3n := Aside0.mk g_; have H1n := Aside0.mk (t_.keep (show s0 ≠ s2 by omega) H1.out); have H2n := Aside0.mk (t_.keep (show s1 ≠ s2 by omega) H2.out); have HBn := Aside0.mk (t_.below HB.out (by omega)); clear t_ g_; clear H1 H2 H3 HB; have H1 := H1n; have H2 := H2n; have H3 := H3n; have HB := HBn; clear H1n H2n H3n HBn) | ((with_reducible refine gate_dst (N := 8) rfl ?_); refine wpList_ld1 rfl 9 (.tmp 7) rfl s0 1 rfl (.string s) Tryd.underlying9 rfl H1.out rfl ?_) | ((with_reducible refine gate_store (t := 9) (p := 9) (v := .tmp 8) rfl ?_); refine wpList_st rfl rfl 9 (.tmp 9) (.tmp 8) rfl s2 1 rfl (.string s) rfl [.string s] (snapC x s 0 0 zz).toArray rfl (show (Tryd.prog.info? 9).map (·.size) = some 1 by kernel_rfl) rfl H3.out (by rw [snapC_size NZ.out]; exact (show 1 + 1 ≤ 19 by decide)) (by rfl) ?_; intro w_ t_ g_; have H3n := Aside0.mk g_; have H1n := Aside0.mk (t_.keep (show s0 ≠ s2 by omega) H1.out); have H2n := Aside0.mk (t_.keep (show s1 ≠ s2 by omega) H2.out); have HBn := Aside0.mk (t_.below HB.out (by omega)); clear t_ g_; clear H1 H2 H3 HB; have H1 := H1n; have H2 := H2n; have H3 := H3n; have HB := HBn; clear H1n H2n H3n HBn) | ((with_reducible refine gate_dst (N := 11) rfl ?_); refine wpList_ld1 rfl 3 (.tmp 10) rfl s0 2 rfl (.int .i64 p) Tryd.underlying3 rfl H1.out rfl ?_) | ((with_reducible refine gate_store (t := 3) (p := 12) (v := .tmp 11) rfl ?_); refine wpList_st rfl rfl 3 (.tmp 12) (.tmp 11) rfl s2 2 rfl (.int .i64 p) rfl [.int .i64 p] (snapC x s p 0 zz).toArray rfl (show (Tryd.prog.info? 3).map (·.size) = some 1 by kernel_rfl) rfl H3.out (by rw [snapC_size NZ.out]; exact (show 2 + 1 ≤ 19 by decide)) (by rfl) ?_; intro w_ t_ g_; have H3n := Aside0.mk g_; have H1n := Aside0.mk (t_.keep (show s0 ≠ s2 by omega) H1.out); have H2n := Aside0.mk (t_.keep (show s1 ≠ s2 by omega) H2.out); have HBn := Aside0.mk (t_.below HB.out (by omega)); clear t_ g_; clear H1 H2 H3 HB; have H1 := H1n; have H2 := H2n; have H3 := H3n; have HB := HBn; clear H1n H2n H3n HBn) | ((with_reducible refine gate_dst (N := 14) rfl ?_); refine wpList_ld1 rfl 3 (.tmp 13) rfl s0 3 rfl (.int .i64 q) Tryd.underlying3 rfl H1.out rfl ?_) | ((with_reducible refine gate_store (t := 3) (p := 15) (v := .tmp 14) rfl ?_); refine wpList_st rfl rfl 3 (.tmp 15) (.tmp 14) rfl s2 3 rfl (.int .i64 q) rfl [.int .i64 q] (snapC x s p q zz).toArray rfl (show (Tryd.prog.info? 3).map (·.size) = some 1 by kernel_rfl) rfl H3.out (by rw [snapC_size NZ.out]; exact (show 3 + 1 ≤ 19 by decide)) (by rfl) ?_; intro w_ t_ g_; have H3n := Aside0.mk g_; have H1n := Aside0.mk (t_.keep (show s0 ≠ s2 by omega) H1.out); have H2n := Aside0.mk (t_.keep (show s1 ≠ s2 by omega) H2.out); have HBn := Aside0.mk (t_.below HB.out (by omega)); clear t_ g_; clear H1 H2 H3 HB; have H1 := H1n; have H2 := H2n; have H3 := H3n; have HB := HBn; clear H1n H2n H3n HBn) | ((with_reducible refine gate_dst (N := 17) rfl ?_); refine wpList_ld rfl 24 (.tmp 16) rfl s0 4 15 rfl (nums .i64 r).toArray Tryd.underlying24 rfl (by kernel_rfl) H1.out (by rw [snapC_size NR.out]; decide) (snapC_root NR.out) ?_) | ((with_reducible refine gate_dst (N := 18) rfl ?_); refine goesL_ (some 18) rfl rfl Tryd.func46 (by kernel_rfl) rfl #[.agg (nums .i64 r).toArray] rfl (by (try simp only [List.map_toArray, List.map_cons, List.map_nil]); first | done | rfl) ?_; refine (laws_toRoot.calls r NR.out r _ WR.out).mono ?_; rintro e_ w_ ⟨rfl, b_⟩; refine ⟨_, rfl, ?_⟩; have H1n := Aside0.mk (blk_below H1.out b_); have H2n := Aside0.mk (blk_below H2.out b_); have H3n := Aside0.mk (blk_below H3.out b_); have HBn := Aside0.mk (below_then HB.out HB.out.size b_); clear b_; clear H1 H2 H3 HB; have H1 := H1n; have H2 := H2n; have H3 := H3n; have HB := HBn; clear H1n H2n H3n HBn) | ((with_reducible refine gate_store (t := 31) (p := 19) (v := .tmp 18) rfl ?_); refine wpList_st rfl rfl 31 (.tmp 19) (.tmp 18) rfl s2 4 rfl (.agg (nums .i64 r).toArray) rfl (nums .i64 r) (snapC x s p q r).toArray (by simp [Value.cells]) (by rw [show (nums .i64 r).length = 15 by simp [nums, NR.out]]; kernel_rfl) (by simpa using nums_one .i64 r) H3.out (by rw [snapC_size NZ.out]; simp [nums, NR.out]) (snapC_setr NZ.out NR.out) ?_; intro w_ t_ g_; have H3n := Aside0.mk g_; have H1n := Aside0.mk (t_.keep (show s0 ≠ s2 by omega) H1.out); have H2n := Aside0.mk (t_.keep (show s1 ≠ s2 by omega) H2.out); have HBn := Aside0.mk (t_.below HB.out (by omega)); clear t_ g_; clear H1 H2 H3 HB; have H1 := H1n; have H2 := H2n; have H3 := H3n; have HB := HBn; clear H1n H2n H3n HBn) | ((with_reducible refine gate_dst (N := 20) rfl ?_); refine hx_load rfl 33 (.tmp 3) rfl s2 19 rfl Tryd.underlying33 rfl (by kernel_rfl) H3.out (snapC_size NR.out) ?_) | ((with_reducible refine gate_store (t := 33) (p := 2) (v := .tmp 20) rfl ?_); refine hx_store rfl rfl 33 (.tmp 2) (.tmp 20) rfl s1 19 rfl (snapC x s p q r).toArray rfl (by kernel_rfl) (snapC_size NR.out) (snapC_one _ _ _ _ _) H2.out (snapC_size NZ.out) ?_; intro we t_ g_; have HE := Aside0.mk g_; have HEB := Aside0.mk (t_.below HB.out (by omega)); clear t_ g_ H2 HB))
  exact bodyPost_ret (results_cell_row rfl _ _ s1 33 _ (0, 0) _ rfl HE.out Tryd.underlying33 rfl (by rw [snapC_size NR.out]; kernel_rfl)) rfl ⟨rfl, HEB.out⟩

/-! ### impl_within: function 76 -/
def impl_within.f (a0 : Int) (a1 : Int) (a2 : Int) : Option (Bool) := if a0 ≥ a1 then (some (decide (a0 ≤ a2))) else (some false)
set_option maxHeartbeats 8000000 in
set_option maxRecDepth 100000 in
theorem impl_within.calls (a0 : Int) (a1 : Int) (a2 : Int) (r : Bool) (w : World) (h : impl_within.f a0 a1 a2 = some r) :
    Calls Tryd.prog 76 #[.int .i64 a0, .int .i64 a1, .int .i64 a2] w fun e w' => e = .returned (.bool r) ∧ Drawn0 w w' := by
  have H : (if a0 ≥ a1 then (some (decide (a0 ≤ a2))) else (some false)) = some r := h
  clear h
  by_cases c4 : a0 ≥ a1
  · rw [if_pos c4] at H
    have c4b0 : decide (a1 ≤ a0) = true := decide_eq_true c4
    clear c4
    obtain rfl := Option.some.inj H
    go_enter Tryd.func76, Tryd.ntmps76
    go_wp2
    go_ret
    exact ⟨by first | rfl | (simp; done) | (simp [*]; done), by repeat (first | exact Drawn0.refl _ | apply Drawn0.step)⟩
  · rw [if_neg c4] at H
    have c4b0 : decide (a1 ≤ a0) = false := decide_eq_false c4
    clear c4
    obtain rfl := Option.some.inj H
    go_enter Tryd.func76, Tryd.ntmps76
    go_wp2
    go_ret
    exact ⟨by first | rfl | (simp; done) | (simp [*]; done), by repeat (first | exact Drawn0.refl _ | apply Drawn0.step)⟩

open Go.Proofs.YtkghgjehjchajaaDoorW Go.Proofs.YtkghgjehjchajaaDoorW.PrintHand Go.Proofs.YtkghgjehjchajaaDoorW.PrintHx
/-! ### impl_CheckName: function 77 -/
def impl_CheckName.l0 : Nat → ByteArray → Nat → Option (Int)
  | 0, _, _ => none
  | k + 1, s, i => if i < s.size then (if (Utf8.decode s i).1 = 47 then (some 7) else (if (Utf8.decode s i).1 = 0 then (some 7) else (impl_CheckName.l0 k s (i + (Utf8.decode s i).2)))) else (some 0)
def impl_CheckName.f (k : Nat) (a0 : ByteArray) : Option (Int) := if a0.toList = ([] : List UInt8) then (some 7) else (if a0.toList = ([46] : List UInt8) then (some 7) else (if a0.toList = ([46, 46] : List UInt8) then (some 7) else (if (a0.size : Int) > 26 then (some 12) else (impl_CheckName.l0 k a0 0))))
theorem impl_CheckName.mono_l : ∀ k s i, LeO (impl_CheckName.l0 k s i) (impl_CheckName.l0 (k + 1) s i)
  | 0, _, _ => LeO.none _
  | k + 1, s, i => by
    have ih := impl_CheckName.mono_l k
    unfold impl_CheckName.l0
    repeat' first
      | exact ih _ _
      | exact LeO.refl _
      | refine LeO.ite ?_ ?_
theorem impl_CheckName.mono : ∀ a0 k, LeO (impl_CheckName.f k a0) (impl_CheckName.f (k + 1) a0) := by
  intro a0 k
  have ih := impl_CheckName.mono_l k
  unfold impl_CheckName.f
  repeat' first
      | exact ih _ _
      | exact LeO.refl _
      | refine LeO.ite ?_ ?_
set_option maxHeartbeats 4000000 in
set_option maxRecDepth 100000 in
theorem impl_CheckName.calls (k : Nat) (a0 : ByteArray) (r : Int) (w : World) (h : impl_CheckName.f k a0 = some r) :
    Calls Tryd.prog 77 #[.string a0] w fun e w' => e = .returned (.int .i64 r) ∧ Below w.heap.size w w' := by
  unfold impl_CheckName.f at h
  have hu9 := Tryd.underlying9
  by_cases c3 : a0.toList = ([] : List UInt8)
  · rw [if_pos c3] at h
    obtain rfl := Option.some.inj h
    have c3b0 : (a0.toList == ([] : List UInt8)) = true := beq_iff_eq.mpr c3
    clear c3
    go_enter Tryd.func77, Tryd.ntmps77
    go_wp2
    go_ret
    exact ⟨rfl, Below.refl _ _⟩
  rw [if_neg c3] at h
  have c3b0 : (a0.toList == ([] : List UInt8)) = false := beq_eq_false_iff_ne.mpr c3
  by_cases c4 : a0.toList = ([46] : List UInt8)
  · rw [if_pos c4] at h
    obtain rfl := Option.some.inj h
    have c4b0 : (a0.toList == ([46] : List UInt8)) = true := beq_iff_eq.mpr c4
    clear c3 c4
    go_enter Tryd.func77, Tryd.ntmps77
    go_wp2
    go_ret
    exact ⟨rfl, Below.refl _ _⟩
  rw [if_neg c4] at h
  have c4b0 : (a0.toList == ([46] : List UInt8)) = false := beq_eq_false_iff_ne.mpr c4
  by_cases c5 : a0.toList = ([46, 46] : List UInt8)
  · rw [if_pos c5] at h
    obtain rfl := Option.some.inj h
    have c5b0 : (a0.toList == ([46, 46] : List UInt8)) = true := beq_iff_eq.mpr c5
    clear c3 c4 c5
    go_enter Tryd.func77, Tryd.ntmps77
    go_wp2
    go_ret
    exact ⟨rfl, Below.refl _ _⟩
  rw [if_neg c5] at h
  have c5b0 : (a0.toList == ([46, 46] : List UInt8)) = false := beq_eq_false_iff_ne.mpr c5
  by_cases c6 : (a0.size : Int) > 26
  · rw [if_pos c6] at h
    obtain rfl := Option.some.inj h
    have c6b0 : decide (26 < (a0.size : Int)) = true := decide_eq_true c6
    have c6b1 : decide (26 < a0.size) = true := decide_eq_true (by omega)
    clear c3 c4 c5 c6
    go_enter Tryd.func77, Tryd.ntmps77
    go_wp2
    go_ret
    exact ⟨rfl, Below.refl _ _⟩
  rw [if_neg c6] at h
  have c6b0 : decide (26 < (a0.size : Int)) = false := decide_eq_false c6
  have c6b1 : decide (26 < a0.size) = false := decide_eq_false (by omega)
  clear c3 c4 c5 c6
  have HR := Aside0.mk h
  clear h
  go_enter Tryd.func77, Tryd.ntmps77
  go_wp2_with (first | (refine wpList_range_str rfl (.tmp 18) 9 rfl a0 rfl Tryd.underlying9 ?_))
  simp only [Act.put, List.setIfInBounds_toArray, List.set_cons_succ, List.set_cons_zero]
  go_loopg [4] k (fun kq v4 wr => ∃ pos : Nat, Aside0 (impl_CheckName.l0 kq a0 pos = some r) ∧ Aside0 (kq ≤ k) ∧ Aside0 (Below w.heap.size w wr) ∧ Aside0 (wr.heap[w.heap.size]? = some (.stringIter a0 pos)))
  case atStart =>
    exact ⟨0, HR, ⟨Nat.le_refl _⟩, ⟨(Below.refl _ _).alloc (Nat.le_refl _) _⟩, ⟨blk_new _ _⟩⟩
  case round =>
    obtain ⟨pos, HA, HK, HB, HI⟩ := hrel
    clear HR c3b0 c4b0 c5b0 c6b0 c6b1
    cases gk with
    | zero => exact absurd HA.out (by simp [impl_CheckName.l0])
    | succ k2 =>
      have H := HA.out
      clear HA
      unfold impl_CheckName.l0 at H
      by_cases c7 : pos < a0.size
      · rw [if_pos c7] at H
        have C7 := Aside0.mk c7
        clear c7
        by_cases c8 : (Utf8.decode a0 pos).1 = 47
        · rw [if_pos c8] at H
          obtain rfl := Option.some.inj H
          have c8b0 : ((((Utf8.decode a0 pos).1 : Nat) : Int) == 47) = true := by rw [c8]; rfl
          clear c8
          go_wp2_with (first | (refine wpList_next_str rfl (.tmp 19) rfl w.heap.size a0 pos rfl HI.out C7.out ?_; intro w_ t_ g_; have HB' := Aside0.mk (t_.below HB.out (Nat.le_refl _)); clear t_ g_))
          go_ret
          exact ⟨rfl, HB'.out⟩
        · rw [if_neg c8] at H
          have c8b0 : ((((Utf8.decode a0 pos).1 : Nat) : Int) == 47) = false := by simpa using (by omega : ¬ (((Utf8.decode a0 pos).1 : Nat) : Int) = 47)
          clear c8
          by_cases c9 : (Utf8.decode a0 pos).1 = 0
          · rw [if_pos c9] at H
            obtain rfl := Option.some.inj H
            have c9b0 : ((((Utf8.decode a0 pos).1 : Nat) : Int) == 0) = true := by rw [c9]; rfl
            clear c9
            go_wp2_with (first | (refine wpList_next_str rfl (.tmp 19) rfl w.heap.size a0 pos rfl HI.out C7.out ?_; intro w_ t_ g_; have HB' := Aside0.mk (t_.below HB.out (Nat.le_refl _)); clear t_ g_))
            go_ret
            exact ⟨rfl, HB'.out⟩
          · rw [if_neg c9] at H
            have c9b0 : ((((Utf8.decode a0 pos).1 : Nat) : Int) == 0) = false := by simpa using c9
            clear c9
            have H' := Aside0.mk H
            clear H
            go_wp2_with (first | (refine wpList_next_str rfl (.tmp 19) rfl w.heap.size a0 pos rfl HI.out C7.out ?_; intro w_ t_ g_; have HB' := Aside0.mk (t_.below HB.out (Nat.le_refl _)); have HI' := Aside0.mk g_; clear t_ g_))
            go_roundg k2
            case measure => have := HK.out; omega
            case rel => exact ⟨_, H', ⟨by have := HK.out; omega⟩, HB', HI'⟩
      · rw [if_neg c7] at H
        obtain rfl := Option.some.inj H
        have C7 := Aside0.mk c7
        clear c7
        go_wp2_with (first | (refine wpList_next_str_end rfl (.tmp 19) rfl w.heap.size a0 pos rfl HI.out C7.out ?_))
        go_ret
        exact ⟨rfl, HB.out⟩

open Go.Proofs.YtkghgjehjchajaaDoorW Go.Proofs.YtkghgjehjchajaaDoorW.PrintHand Go.Proofs.YtkghgjehjchajaaDoorW.PrintHx
/-! ### impl_Root_pointers: function 80 -/
def impl_Root_pointers.f (a0 : List Int) : Option (List Int) := if a0.length = 15 then some (seg a0 1 14) else none
def impl_Root_pointers.T1 : Bool × List (List Nat × List Nat) := (true, [([], []), ([], []), ([1], [1]), ([0, 2], [0, 2]), ([], []), ([4], [4]), ([], []), ([6], [6]), ([5, 7], [5, 7]), ([3, 8, 3], [3, 8]), ([9, 9, 0, 1, 2, 3, 4, 5, 6, 7, 8, 9], [9])])
def impl_Root_pointers.B1 : List Nat := [0, 0, 2, 7, 0, 16, 0, 64, 240, 511, 1023]
theorem impl_Root_pointers.tab1 : rtab .any (opsOf Tryd.f80 1) = impl_Root_pointers.T1 := by kernel_rfl
theorem impl_Root_pointers.bits1 : waitsOk impl_Root_pointers.T1.2 impl_Root_pointers.B1 = true := by kernel_rfl
set_option maxHeartbeats 8000000 in
set_option maxRecDepth 100000 in
theorem impl_Root_pointers.calls (a0 : List Int) (n0 : a0.length = 15) (r : List Int) (w : World) (h : impl_Root_pointers.f a0 = some r) :
    Calls Tryd.prog 80 #[.agg (nums .i64 a0).toArray] w fun e w' => ∃ v0_ : Value, e = .returned (v0_) ∧ Kd.R (Kd.int .i64) 3 w' w.heap.size (fun _ => True) v0_ r ∧ Below w.heap.size w w' := by
  unfold impl_Root_pointers.f at h
  rw [if_pos n0] at h
  obtain rfl := Option.some.inj h
  have N_ := Aside0.mk n0
  clear n0 h
  have info3_ : (Tryd.prog.info? 3).map (fun i => (i.zero, i.size, i.bytes)) = some (some (.int .i64 0), 1, 8) := by kernel_rfl
  have hu22 := Tryd.underlying22
  have HB0 : Aside0 (Below w.heap.size w w) := ⟨Below.refl _ _⟩
  obtain ⟨s0, Sz0⟩ : ∃ s0, Aside0 (w.heap.size = s0) := ⟨_, ⟨rfl⟩⟩
  have hw0 : w.heap.size ≤ s0 := Nat.le_of_eq Sz0.out
  have hw1 : s0 ≤ w.heap.size := Nat.le_of_eq Sz0.out.symm
  go_enter Tryd.func80, Tryd.ntmps80
  go_wp2_with (first | ((with_reducible refine gate_dst (N := 1) rfl ?_); refine hx_box rfl 1 rfl 31 (.tmp 0) rfl Sz0 (.agg (nums .i64 a0).toArray) (nums .i64 a0).toArray rfl rfl ?_; intro w1 s1 L1 Sz1 b1 g_; have H0 := Aside0.mk g_; have HB1 := Aside0.mk (below_then HB0.out HB0.out.size b1); clear g_ HB0 b1))
  have HB := HB1
  have FV := HB1
  refine start_ (n := 11) (S := fun w' => True) (ds := []) #[false, false, false, false, false, false, false, false, false, false, false] (by kernel_rfl) rfl rfl trivial (fun hHeld => ?_)
  refine with_tabW impl_Root_pointers.tab1 impl_Root_pointers.bits1 (fun HT_ HW_ => ?_)
  refine pure_ (i := 1) (N := some 4) (v := ?_) (a' := ?_) #[false, true, false, false, false, false, false, false, false, false, false] rfl rfl (any_of HT_.out (by kernel_rfl)) (fun _ _ _ h => h) (Or.inl ⟨by rfl, ?_⟩) ?_ ?_
  rotate_left
  · intro w'
    go_simp
    with_reducible rfl
  rotate_left
  · simp only [Act.put, List.setIfInBounds_toArray, List.set_cons_zero, List.set_cons_succ, i64_w, i32_w]
    rfl
  refine pure_ (i := 2) (N := some 5) (v := ?_) (a' := ?_) #[false, true, true, false, false, false, false, false, false, false, false] rfl rfl (any_of HT_.out (by kernel_rfl)) (fun _ _ _ h => h) (Or.inl ⟨by rfl, ?_⟩) ?_ ?_
  rotate_left
  · intro w'
    go_simp
    with_reducible rfl
  rotate_left
  · simp only [Act.put, List.setIfInBounds_toArray, List.set_cons_zero, List.set_cons_succ, i64_w, i32_w]
    rfl
  refine pure_ (i := 4) (N := some 7) (v := ?_) (a' := ?_) #[false, true, true, false, true, false, false, false, false, false, false] rfl rfl (any_of HT_.out (by kernel_rfl)) (fun _ _ _ h => h) (Or.inl ⟨by rfl, ?_⟩) ?_ ?_
  rotate_left
  · intro w'
    go_simp
    with_reducible rfl
  rotate_left
  · simp only [Act.put, List.setIfInBounds_toArray, List.set_cons_zero, List.set_cons_succ, i64_w, i32_w]
    rfl
  refine pure_ (i := 6) (N := some 9) (v := ?_) (a' := ?_) #[false, true, true, false, true, false, true, false, false, false, false] rfl rfl (any_of HT_.out (by kernel_rfl)) (fun _ _ _ h => h) (Or.inl ⟨by rfl, ?_⟩) ?_ ?_
  rotate_left
  · intro w'
    go_simp
    with_reducible rfl
  rotate_left
  · simp only [Act.put, List.setIfInBounds_toArray, List.set_cons_zero, List.set_cons_succ, i64_w, i32_w]
    rfl
  refine inv_at [0, 3, 5, 7, 8, 9, 10] (fun a0_ b a w' => ∃ (v0 : Value) (v3 : Value) (v8 : Value) (v9 : Value) (m10_ : Value), a = putSel a0_ b [(0, 3, v0), (3, 6, v3), (5, 8, .int .i64 (a0.getD 13 0)), (7, 10, .int .i64 (a0.getD 14 0)), (8, 11, v8), (9, 12, v9), (10, 2, m10_)] ∧ (Below w.heap.size w w') ∧ (w'.heap[s0]? = some (.cells (nums .i64 a0).toArray 31 (0, 0))) ∧ (∀ k, (v0 : Value).ownBlock = some k → k < w'.heap.size) ∧ (b 0 = true → b 3 = false → Kd.R (Kd.int .i64) 3 w' w.heap.size (fun k => k ≠ s0) v0 []) ∧ (b 3 = true → b 9 = false → Kd.R (Kd.int .i64) 3 w' w.heap.size (fun k => k ≠ s0) v3 ([] ++ seg a0 1 12)) ∧ (b 8 = true → b 9 = false → Kd.R (Kd.int .i64) 3 w' w.heap.size (fun k => k ≠ s0 ∧ some k ≠ (v0 : Value).ownBlock) v8 [a0.getD 13 0, a0.getD 14 0]) ∧ (b 9 = true → Kd.R (Kd.int .i64) 3 w' w.heap.size (fun k => k ≠ s0) v9 (([] ++ seg a0 1 12) ++ [a0.getD 13 0, a0.getD 14 0])) ∧ (b 10 = true → (m10_ : Value) = v9)) HT_.out HW_.out (by kernel_rfl) (by kernel_rfl) ?_ ?_ ?_
  · exact ⟨.bool false, .bool false, .bool false, .bool false, .bool false, by simp only [putSel, Bool.false_eq_true, if_false], HB1.out.drew, blk_drew H0.out, fun k h_ => by simp [Value.ownBlock] at h_, fun h_ => absurd h_ (by decide), fun h_ => absurd h_ (by decide), fun h_ => absurd h_ (by decide), fun h_ => absurd h_ (by decide), fun h_ => absurd h_ (by decide)⟩
  · skip
    clear FV H0 HB
    refine steps_cons ?_ ?_
    · rintro b a w' ⟨v0, v3, v8, v9, m10_, ha, Q_HB, Q_H0, Q_FV, Q_F0, Q_F3, Q_F8, Q_F9, Q_X10_⟩ hb_ hon hoff
      refine ⟨_, rfl, fun K hK => ?_⟩
      replace ha := Aside0.mk ha
      have HB := Aside0.mk Q_HB
      have H0 := Aside0.mk Q_H0
      have FV := Aside0.mk Q_FV
      refine Kd.R_lit_step (Kd.int .i64) (w0 := w) w.heap.size 3 (by rfl) (N := 3) rfl (xs := ([] : List Int)) (inner := []) (ok := fun k => k ≠ s0) (okp := fun _ => False) ?hr (Reps.none _ _) (fun _ h_ => h_.elim) (by have := blk_lt H0.out; omega) HB.out HB.out.size (by simp) ?_
      (case hr => first | (go_simp; done) | (go_simp; rfl))
      intro v_ w_ ho hb hg_ hn_
      refine hK.out _ _ ⟨v_, v3, v8, v9, m10_, (by rw [ha.out]; exact putSel_upk 0 hb_ rfl rfl rfl), hb, blk_grown H0.out hg_ (by simp), Kd.R_lt ho, fun _ _ => ho, fun h0_ _ => absurd ((hoff 3 (by kernel_rfl)).symm.trans h0_) (by decide), fun h0_ h1_ => Kd.R_mono (Kd.R_grown (Kd.R_bound (Q_F8 h0_ h1_)) hg_ (fun _ _ => by simp)) (fun k hk => ⟨hk.1.1, fun e_ => by obtain ⟨b_, h1_, h2_⟩ := hn_; rw [h1_] at e_; injection e_ with e_; have := hk.2.2.1; omega⟩), fun h0_ => absurd ((hoff 9 (by kernel_rfl)).symm.trans h0_) (by decide), fun h0_ => absurd ((hoff 10 (by kernel_rfl)).symm.trans h0_) (by decide)⟩
    refine steps_cons ?_ ?_
    · rintro b a w' ⟨v0, v3, v8, v9, m10_, ha, Q_HB, Q_H0, Q_FV, Q_F0, Q_F3, Q_F8, Q_F9, Q_X10_⟩ hb_ hon hoff
      refine ⟨_, rfl, fun K hK => ?_⟩
      have e3 : a.tmps[3]? = some (v0) := by rw [ha]; exact putSel_on (e := (0, 3, v0)) 0 rfl rfl (hon 0 (by kernel_rfl)) rfl
      have e5 : a.tmps[5]? = some (.slice (some ⟨s0, 1, none⟩) 12 12) := by rw [ha]; exact (putSel_off rfl).trans rfl
      replace ha := Aside0.mk ha
      have HB := Aside0.mk Q_HB
      have H0 := Aside0.mk Q_H0
      have FV := Aside0.mk Q_FV
      have F0 := Aside0.mk (Q_F0 (hon 0 (by kernel_rfl)) hb_)
      refine Kd.R_append_rows_step (Kd.int .i64) (w0 := w) w.heap.size (by rfl) (.tmp 3) (.tmp 5) 122 3 (.int .i64 0) 8 rfl Tryd.underlying122 info3_ rfl (by decide) (by omega) v0 [] (seg a0 1 12) (some ⟨s0, 1, none⟩) 12 12 (fun k => k ≠ s0) (fun _ => False) (eval_of e3) (eval_of e5) F0.out (part_reads H0.out 1 12 (le_len (n := 15) N_.out (by decide)) (by decide)) (fun _ _ h => h) (fun _ h => h.elim) (fun k hk => by have := blk_lt H0.out; omega) HB.out HB.out.size (by decide) ?_
      intro v_ w_ ho hb hg_ hn_
      refine hK.out _ _ ⟨v0, v_, v8, v9, m10_, (by rw [ha.out]; exact putSel_upk 1 hb_ rfl rfl rfl), hb, blk_grown H0.out hg_ (fun e_ => (F0.out.1 s0 e_.symm) rfl), fun k hk => Nat.lt_of_lt_of_le (FV.out k hk) hg_.size, fun _ h1_ => absurd ((up_self b 3).symm.trans h1_) (by decide), fun _ _ => ho, fun h0_ h1_ => Kd.R_grown (Q_F8 h0_ h1_) hg_ (fun k hk => hk.2), fun h0_ => absurd ((hoff 9 (by kernel_rfl)).symm.trans h0_) (by decide), fun h0_ => absurd ((hoff 10 (by kernel_rfl)).symm.trans h0_) (by decide)⟩
    refine steps_cons ?_ ?_
    · rintro b a w' ⟨v0, v3, v8, v9, m10_, ha, Q_HB, Q_H0, Q_FV, Q_F0, Q_F3, Q_F8, Q_F9, Q_X10_⟩ hb_ hon hoff
      refine ⟨_, rfl, fun K hK => ?_⟩
      have e7 : a.tmps[7]? = some (.pointer (some ⟨s0, 13, none⟩)) := by rw [ha]; exact (putSel_off rfl).trans rfl
      replace ha := Aside0.mk ha
      have HB := Aside0.mk Q_HB
      have H0 := Aside0.mk Q_H0
      have FV := Aside0.mk Q_FV
      have c_ := row_cell H0.out 13 (lt_len (n := 15) N_.out (by decide))
      refine value_ (w1 := w') (v := .int .i64 (a0.getD 13 0)) (by rfl) rfl ?_ ?_
      · go_simp
        (try simp only [i64_w])
        try rfl
      refine hK.out _ _ ⟨v0, v3, v8, v9, m10_, (by rw [ha.out]; exact putSel_upk 2 hb_ rfl rfl rfl), Q_HB, Q_H0, Q_FV, Q_F0, Q_F3, fun h0_ _ => absurd ((hoff 8 (by kernel_rfl)).symm.trans h0_) (by decide), fun h0_ => absurd ((hoff 9 (by kernel_rfl)).symm.trans h0_) (by decide), fun h0_ => absurd ((hoff 10 (by kernel_rfl)).symm.trans h0_) (by decide)⟩
    refine steps_cons ?_ ?_
    · rintro b a w' ⟨v0, v3, v8, v9, m10_, ha, Q_HB, Q_H0, Q_FV, Q_F0, Q_F3, Q_F8, Q_F9, Q_X10_⟩ hb_ hon hoff
      refine ⟨_, rfl, fun K hK => ?_⟩
      have e9 : a.tmps[9]? = some (.pointer (some ⟨s0, 14, none⟩)) := by rw [ha]; exact (putSel_off rfl).trans rfl
      replace ha := Aside0.mk ha
      have HB := Aside0.mk Q_HB
      have H0 := Aside0.mk Q_H0
      have FV := Aside0.mk Q_FV
      have c_ := row_cell H0.out 14 (lt_len (n := 15) N_.out (by decide))
      refine value_ (w1 := w') (v := .int .i64 (a0.getD 14 0)) (by rfl) rfl ?_ ?_
      · go_simp
        (try simp only [i64_w])
        try rfl
      refine hK.out _ _ ⟨v0, v3, v8, v9, m10_, (by rw [ha.out]; exact putSel_upk 3 hb_ rfl rfl rfl), Q_HB, Q_H0, Q_FV, Q_F0, Q_F3, fun h0_ _ => absurd ((hoff 8 (by kernel_rfl)).symm.trans h0_) (by decide), fun h0_ => absurd ((hoff 9 (by kernel_rfl)).symm.trans h0_) (by decide), fun h0_ => absurd ((hoff 10 (by kernel_rfl)).symm.trans h0_) (by decide)⟩
    refine steps_cons ?_ ?_
    · rintro b a w' ⟨v0, v3, v8, v9, m10_, ha, Q_HB, Q_H0, Q_FV, Q_F0, Q_F3, Q_F8, Q_F9, Q_X10_⟩ hb_ hon hoff
      refine ⟨_, rfl, fun K hK => ?_⟩
      have e8 : a.tmps[8]? = some (.int .i64 (a0.getD 13 0)) := by rw [ha]; exact putSel_on (e := (5, 8, .int .i64 (a0.getD 13 0))) 2 rfl rfl (hon 5 (by kernel_rfl)) rfl
      have e10 : a.tmps[10]? = some (.int .i64 (a0.getD 14 0)) := by rw [ha]; exact putSel_on (e := (7, 10, .int .i64 (a0.getD 14 0))) 3 rfl rfl (hon 7 (by kernel_rfl)) rfl
      replace ha := Aside0.mk ha
      have HB := Aside0.mk Q_HB
      have H0 := Aside0.mk Q_H0
      have FV := Aside0.mk Q_FV
      refine Kd.R_lit_step (Kd.int .i64) (w0 := w) w.heap.size 3 (by rfl) (N := 11) rfl (xs := ([a0.getD 13 0, a0.getD 14 0] : List Int)) (inner := (nums .i64 [a0.getD 13 0, a0.getD 14 0])) (ok := fun k => k ≠ s0 ∧ some k ≠ (v0 : Value).ownBlock) (okp := fun _ => False) ?hr (reps_ints _) (fun _ h_ => h_.elim) ⟨by have := blk_lt H0.out; omega, fun e_ => Nat.lt_irrefl _ (FV.out _ e_.symm)⟩ HB.out HB.out.size (by simp) ?_
      (case hr => first | (go_simp; done) | (go_simp; rfl))
      intro v_ w_ ho hb hg_ hn_
      refine hK.out _ _ ⟨v0, v3, v_, v9, m10_, (by rw [ha.out]; exact putSel_upk 4 hb_ rfl rfl rfl), hb, blk_grown H0.out hg_ (by simp), fun k hk => Nat.lt_of_lt_of_le (FV.out k hk) hg_.size, fun h0_ h1_ => Kd.R_grown (Q_F0 h0_ h1_) hg_ (fun _ _ => by simp), fun h0_ h1_ => Kd.R_grown (Q_F3 h0_ h1_) hg_ (fun _ _ => by simp), fun _ _ => ho, fun h0_ => absurd ((hoff 9 (by kernel_rfl)).symm.trans h0_) (by decide), fun h0_ => absurd ((hoff 10 (by kernel_rfl)).symm.trans h0_) (by decide)⟩
    refine steps_cons ?_ ?_
    · rintro b a w' ⟨v0, v3, v8, v9, m10_, ha, Q_HB, Q_H0, Q_FV, Q_F0, Q_F3, Q_F8, Q_F9, Q_X10_⟩ hb_ hon hoff
      refine ⟨_, rfl, fun K hK => ?_⟩
      have e6 : a.tmps[6]? = some (v3) := by rw [ha]; exact putSel_on (e := (3, 6, v3)) 1 rfl rfl (hon 3 (by kernel_rfl)) rfl
      have e11 : a.tmps[11]? = some (v8) := by rw [ha]; exact putSel_on (e := (8, 11, v8)) 4 rfl rfl (hon 8 (by kernel_rfl)) rfl
      replace ha := Aside0.mk ha
      have HB := Aside0.mk Q_HB
      have H0 := Aside0.mk Q_H0
      have FV := Aside0.mk Q_FV
      have F3 := Aside0.mk (Q_F3 (hon 3 (by kernel_rfl)) hb_)
      have F8 := Aside0.mk (Q_F8 (hon 8 (by kernel_rfl)) hb_)
      obtain ⟨A8_, c8_, q8_⟩ := Kd.R_slice F8.out
      have F8' := F8.out
      rw [q8_] at F8'
      refine Kd.R_append_rows_step (Kd.int .i64) (w0 := w) w.heap.size (by rfl) (.tmp 6) (.tmp 11) 122 3 (.int .i64 0) 8 rfl Tryd.underlying122 info3_ rfl (by decide) (by omega) v3 ([] ++ seg a0 1 12) [a0.getD 13 0, a0.getD 14 0] _ _ _ (fun k => k ≠ s0) (fun _ => False) (eval_of e6) ((eval_of e11).trans q8_) F3.out (Kd.R_reads' F8').2.2 (fun _ _ h => h) (fun _ h => h.elim) (fun k hk => by have := blk_lt H0.out; omega) HB.out HB.out.size (by rw [List.nil_append, part_len (n := 15) N_.out (by decide)]; show (12 + 2) * 8 ≤ 140737488355328; decide) ?_
      intro v_ w_ ho hb hg_ hn_
      refine hK.out _ _ ⟨v0, v3, v8, v_, m10_, (by rw [ha.out]; exact putSel_upk 5 hb_ rfl rfl rfl), hb, blk_grown H0.out hg_ (fun e_ => (F3.out.1 s0 e_.symm) rfl), fun k hk => Nat.lt_of_lt_of_le (FV.out k hk) hg_.size, fun _ h1_ => absurd ((hon 3 (by kernel_rfl)).symm.trans h1_) (by decide), fun _ h1_ => absurd ((up_self b 9).symm.trans h1_) (by decide), fun _ h1_ => absurd ((up_self b 9).symm.trans h1_) (by decide), fun _ => ho, fun h0_ => absurd ((hoff 10 (by kernel_rfl)).symm.trans h0_) (by decide)⟩
    refine steps_cons ?_ ?_
    · rintro b a w' ⟨v0, v3, v8, v9, m10_, ha, Q_HB, Q_H0, Q_FV, Q_F0, Q_F3, Q_F8, Q_F9, Q_X10_⟩ hb_ hon hoff
      refine ⟨_, rfl, fun K hK => ?_⟩
      have e12 : a.tmps[12]? = some (v9) := by rw [ha]; exact putSel_on (e := (9, 12, v9)) 5 rfl rfl (hon 9 (by kernel_rfl)) rfl
      replace ha := Aside0.mk ha
      have HB := Aside0.mk Q_HB
      have H0 := Aside0.mk Q_H0
      have FV := Aside0.mk Q_FV
      have F9 := Aside0.mk (Q_F9 (hon 9 (by kernel_rfl)))
      refine value_ (w1 := w') (v := v9) (by rfl) rfl ?_ ?_
      · go_simp
        (try simp only [i64_w])
        try rfl
      refine hK.out _ _ ⟨v0, v3, v8, v9, (v9), (by rw [ha.out]; exact putSel_upk 6 hb_ rfl rfl rfl), Q_HB, Q_H0, Q_FV, fun _ h1_ => absurd ((hon 3 (by kernel_rfl)).symm.trans h1_) (by decide), fun _ h1_ => absurd ((hon 9 (by kernel_rfl)).symm.trans h1_) (by decide), fun _ h1_ => absurd ((hon 9 (by kernel_rfl)).symm.trans h1_) (by decide), Q_F9, fun _ => rfl⟩
    exact steps_nil
  · rintro b a w' hall ⟨v0, v3, v8, v9, m10_, ha, Q_HB, Q_H0, Q_FV, Q_F0, Q_F3, Q_F8, Q_F9, Q_X10_⟩
    clear FV H0 HB
    have hb0_ := hall 0 (by kernel_rfl)
    have hb3_ := hall 3 (by kernel_rfl)
    have hb5_ := hall 5 (by kernel_rfl)
    have hb7_ := hall 7 (by kernel_rfl)
    have hb8_ := hall 8 (by kernel_rfl)
    have hb9_ := hall 9 (by kernel_rfl)
    have hb10_ := hall 10 (by kernel_rfl)
    subst ha
    obtain rfl := Q_X10_ hb10_
    simp only [putSel, hb0_, hb3_, hb5_, hb7_, hb8_, hb9_, hb10_, if_true, Act.put, List.setIfInBounds_toArray, List.set_cons_zero, List.set_cons_succ]
    have HB := Aside0.mk Q_HB
    clear Q_HB
    have H0 := Aside0.mk Q_H0
    clear Q_H0
    have FV := Aside0.mk Q_FV
    clear Q_FV
    clear Q_F0
    clear Q_F3
    clear Q_F8
    have F9 := Aside0.mk (Q_F9 hb9_)
    clear Q_F9
    clear hall hb0_ hb3_ hb5_ hb7_ hb8_ hb9_ hb10_
    go_wp2
    go_ret
    have ho := F9.out
    rw [pointers_of a0 N_.out] at ho
    exact ⟨_, rfl, Kd.R_mono ho (fun _ _ => trivial), HB.out⟩

/-! ### impl_isPointer: function 87 -/
def impl_isPointer.f (a0 : Int) (a1 : Int) : Option (Bool) := if a0 = 0 then (some true) else ((impl_within.f a0 2 (wrap64 (a1 - 1))).bind fun t135 => (some t135))
set_option maxHeartbeats 8000000 in
set_option maxRecDepth 100000 in
theorem impl_isPointer.calls (a0 : Int) (a1 : Int) (r : Bool) (w : World) (h : impl_isPointer.f a0 a1 = some r) :
    Calls Tryd.prog 87 #[.int .i64 a0, .int .i64 a1] w fun e w' => e = .returned (.bool r) ∧ Drawn0 w w' := by
  have H : (if a0 = 0 then (some true) else ((impl_within.f a0 2 (wrap64 (a1 - 1))).bind fun t135 => (some t135))) = some r := h
  clear h
  by_cases c3 : a0 = 0
  · rw [if_pos c3] at H
    have c3b0 : (a0 == 0) = true := beq_iff_eq.mpr c3
    have c3b1 : (a0 != 0) = false := bne_eq_false_iff_eq.mpr c3
    clear c3
    obtain rfl := Option.some.inj H
    go_enter Tryd.func87, Tryd.ntmps87
    go_wp2
    go_ret
    exact ⟨by first | rfl | (simp; done) | (simp [*]; done), by repeat (first | exact Drawn0.refl _ | apply Drawn0.step)⟩
  · rw [if_neg c3] at H
    have c3b0 : (a0 == 0) = false := beq_eq_false_iff_ne.mpr c3
    have c3b1 : (a0 != 0) = true := bne_iff_ne.mpr c3
    replace H := Option.bind_eq_some_iff.mp H
    obtain ⟨t135, A40, H⟩ := H
    replace H : (some t135) = some r := H
    have A4 := Aside0.mk A40
    clear A40
    obtain rfl := Option.some.inj H
    go_enter Tryd.func87, Tryd.ntmps87
    go_wp2_with (first | (go_at_call 76; (with_reducible refine (impl_within.calls a0 2 (wrap64 (a1 - 1)) t135 _ A4.out).mono ?_); rintro e w' ⟨rfl, ⟨nd, rfl⟩⟩))
    go_ret
    exact ⟨by first | rfl | (simp; done) | (simp [*]; done), by repeat (first | exact Drawn0.refl _ | apply Drawn0.step)⟩

/-! ### impl_count: function 95 -/
def impl_count.f (a0 : Int) : Option (Int) := some (wrap64 (Int.tdiv (wrap64 ((wrap64 (a0 + 512)) - 1)) 512))
set_option maxHeartbeats 8000000 in
set_option maxRecDepth 100000 in
theorem impl_count.calls (a0 : Int) (r : Int) (w : World) (h : impl_count.f a0 = some r) :
    Calls Tryd.prog 95 #[.int .i64 a0] w fun e w' => e = .returned (.int .i64 r) ∧ Drawn0 w w' := by
  have H : (some (wrap64 (Int.tdiv (wrap64 ((wrap64 (a0 + 512)) - 1)) 512))) = some r := h
  clear h
  obtain rfl := Option.some.inj H
  go_enter Tryd.func95, Tryd.ntmps95
  go_wp2
  go_ret
  exact ⟨by first | rfl | (simp; done) | (simp [*]; done), by repeat (first | exact Drawn0.refl _ | apply Drawn0.step)⟩

end Go.Proofs.YtkghgjehjchajaaDoor.PFnExactEncodeSnap
