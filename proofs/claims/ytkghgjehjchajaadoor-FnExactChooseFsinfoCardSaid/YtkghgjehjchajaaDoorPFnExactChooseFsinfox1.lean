-- Written by a program of this session (patch_print.py over the kit print)
import Derived.Test.YtkghgjehjchajaaDoorPFnExactChooseFsinfox0
namespace Go.Proofs.YtkghgjehjchajaaDoor.PFnExactChooseFsinfo
open Go.RowKit Go.Proofs.YtkghgjehjchajaaDoorW.PrintWords Go.Proofs.YtkghgjehjchajaaDoorW.PrintLast Go.Proofs.YtkghgjehjchajaaDoorW.PrintMore
attribute [local go_sem] max2_int min2_int max_two min_two max_three min_three max_four min_four   -- for this text's walks alone
set_option linter.unusedVariables false
set_option linter.unusedSimpArgs false

/-! ### laws_eqByteS: function 13 -/
def laws_eqByteS.l0 : Nat → List Int → List Int → Int → Option (Bool)
  | 0, _, _, _ => none
  | k + 1, x0, x1, x5 => if x5 < (x0.length : Int) then (if 0 ≤ x5 then (if x5 < (x1.length : Int) then (if (rd x0 x5) = (rd x1 x5) then (laws_eqByteS.l0 k x0 x1 (wrap64 (x5 + 1))) else (some false)) else (none)) else (none)) else (some true)
def laws_eqByteS.f (k : Nat) (l0 : List Int) (l1 : List Int) : Option (Bool) := if (l0.length : Int) = (l1.length : Int) then (laws_eqByteS.l0 k l0 l1 0) else (some false)
theorem laws_eqByteS.mono_l : ∀ k, (∀ y0 y1 y2, LeO (laws_eqByteS.l0 k y0 y1 y2) (laws_eqByteS.l0 (k + 1) y0 y1 y2))
  | 0 => fun _ _ _ r h => by simp [laws_eqByteS.l0] at h
  | k + 1 => by
    have ih0 := laws_eqByteS.mono_l k
    · intro y0 y1 y2
      unfold laws_eqByteS.l0
      repeat' first
      | (with_reducible exact ih0 _ _ _)
      | (with_reducible exact LeO.refl _)
      | (with_reducible exact LeO.none _)
      | (with_reducible refine LeO.ite ?_ ?_)
      | (with_reducible refine LeO.bind ?_ (fun _ => ?_))
      | exact ih0 _ _ _
      | exact LeO.none _
      | refine LeO.ite ?_ ?_
      | refine LeO.bind ?_ (fun _ => ?_)
theorem laws_eqByteS.mono : ∀ a0 a1 k, LeO (laws_eqByteS.f k a0 a1) (laws_eqByteS.f (k + 1) a0 a1) := by
  intro a0 a1 k
  have ih0 := laws_eqByteS.mono_l k
  unfold laws_eqByteS.f
  repeat' first
      | (with_reducible exact ih0 _ _ _)
      | (with_reducible exact LeO.refl _)
      | (with_reducible exact LeO.none _)
      | (with_reducible refine LeO.ite ?_ ?_)
      | (with_reducible refine LeO.bind ?_ (fun _ => ?_))
      | exact ih0 _ _ _
      | exact LeO.none _
      | refine LeO.ite ?_ ?_
      | refine LeO.bind ?_ (fun _ => ?_)
set_option maxHeartbeats 8000000 in
set_option maxRecDepth 100000 in
theorem laws_eqByteS.calls (k : Nat) (A0 : Option Addr) (c0 : Nat) (l0 : List Int) (A1 : Option Addr) (c1 : Nat) (l1 : List Int) (r : Bool) (w : World) (hr0 : Kd.C (Kd.int .u8) w A0 l0.length l0) (hc0 : l0.length ≤ c0) (hr1 : Kd.C (Kd.int .u8) w A1 l1.length l1) (hc1 : l1.length ≤ c1) (h : laws_eqByteS.f k l0 l1 = some r) :
    Calls Tryd.prog 13 #[.slice A0 l0.length c0, .slice A1 l1.length c1] w fun e w' => e = .returned (.bool r) ∧ Drawn0 w w' := by
  have HR0 := Aside0.mk hr0
  have HC0 := Aside0.mk hc0
  clear hr0 hc0
  have HR1 := Aside0.mk hr1
  have HC1 := Aside0.mk hc1
  clear hr1 hc1
  have H : (if (l0.length : Int) = (l1.length : Int) then (laws_eqByteS.l0 k l0 l1 0) else (some false)) = some r := h
  clear h
  by_cases c3 : (l0.length : Int) = (l1.length : Int)
  · rw [if_pos c3] at H
    have c3b0 : ((l0.length : Int) == (l1.length : Int)) = true := beq_iff_eq.mpr c3
    have c3b1 : ((l0.length : Int) != (l1.length : Int)) = false := bne_eq_false_iff_eq.mpr c3
    have c3b2 : (l0.length == l1.length) = true := by first | simpa using c3 | (simp at c3 ⊢; omega)
    clear c3
    have H' := Aside0.mk H
    clear H
    go_enter Tryd.func13, Tryd.ntmps13
    go_wp2
    repeat (go_quiet (fail); try go_wp2)
    go_loopg [5] k (fun kq v5 w' => ∃ (x5_1 : Int), v5 = .int .i64 x5_1 ∧ Aside0 (laws_eqByteS.l0 kq l0 l1 x5_1 = some r) ∧ Aside0 (kq ≤ k) ∧ Drawn0 w w')
    case atStart => exact ⟨(0), (by first | rfl | (simp; done) | (simp [*]; done)), H', ⟨Nat.le_refl _⟩, by repeat (first | exact Drawn0.refl _ | apply Drawn0.step)⟩
    case round =>
      clear H'
      try clear c1
      try clear p2
      try clear c3
      try clear c3b0
      try clear c3b1
      try clear c3b2
      obtain ⟨x5_1, rfl, HA, HK1, ⟨m1, rfl⟩⟩ := hrel
      cases gk with
      | zero => exact absurd HA.out (by simp [laws_eqByteS.l0])
      | succ k1 =>
        have H := HA.out
        clear HA
        simp only [laws_eqByteS.l0] at H
        by_cases c4 : x5_1 < (l0.length : Int)
        · rw [if_pos c4] at H
          have c4b0 : decide (x5_1 < (l0.length : Int)) = true := decide_eq_true c4
          clear c4
          by_cases c5 : 0 ≤ x5_1
          · rw [if_pos c5] at H
            have c5b0 : decide (0 ≤ x5_1) = true := decide_eq_true c5
            clear c5
            by_cases c6 : x5_1 < (l1.length : Int)
            · rw [if_pos c6] at H
              have c6b0 : decide (x5_1 < (l1.length : Int)) = true := decide_eq_true c6
              clear c6
              by_cases c7 : (rd l0 x5_1) = (rd l1 x5_1)
              · rw [if_pos c7] at H
                have c7b0 : ((rd l0 x5_1) == (rd l1 x5_1)) = true := beq_iff_eq.mpr c7
                have c7b1 : ((rd l0 x5_1) != (rd l1 x5_1)) = false := bne_eq_false_iff_eq.mpr c7
                clear c7
                have H' := Aside0.mk H
                clear H
                have p101 : 0 ≤ (x5_1 : Int) := of_decide_eq_true (by first | (with_reducible assumption) | assumption)
                have q101 : x5_1 < (l0.length : Int) := of_decide_eq_true (by first | (with_reducible assumption) | assumption)
                obtain ⟨ad101, e101, hx101_0⟩ := Kd.at_int HR0.out x5_1 p101 q101
                cases e101
                replace p101 := eq_true p101
                replace q101 := eq_true q101
                have p102 : 0 ≤ (x5_1 : Int) := of_decide_eq_true (by first | (with_reducible assumption) | assumption)
                have q102 : x5_1 < (l1.length : Int) := of_decide_eq_true (by first | (with_reducible assumption) | assumption)
                obtain ⟨ad102, e102, hx102_0⟩ := Kd.at_int HR1.out x5_1 p102 q102
                cases e102
                replace p102 := eq_true p102
                replace q102 := eq_true q102
                go_wp2
                repeat (go_quiet (fail); try go_wp2)
                go_roundg k1
                case measure => have := HK1.out; omega
                case rel => exact ⟨(wrap64 (x5_1 + 1)), (by first | rfl | (simp; done) | (simp [*]; done)), H', ⟨by have := HK1.out; omega⟩, by repeat (first | exact Drawn0.refl _ | apply Drawn0.step)⟩
              · rw [if_neg c7] at H
                have c7b0 : ((rd l0 x5_1) == (rd l1 x5_1)) = false := beq_eq_false_iff_ne.mpr c7
                have c7b1 : ((rd l0 x5_1) != (rd l1 x5_1)) = true := bne_iff_ne.mpr c7
                obtain rfl := Option.some.inj H
                have p101 : 0 ≤ (x5_1 : Int) := of_decide_eq_true (by first | (with_reducible assumption) | assumption)
                have q101 : x5_1 < (l0.length : Int) := of_decide_eq_true (by first | (with_reducible assumption) | assumption)
                obtain ⟨ad101, e101, hx101_0⟩ := Kd.at_int HR0.out x5_1 p101 q101
                cases e101
                replace p101 := eq_true p101
                replace q101 := eq_true q101
                have p102 : 0 ≤ (x5_1 : Int) := of_decide_eq_true (by first | (with_reducible assumption) | assumption)
                have q102 : x5_1 < (l1.length : Int) := of_decide_eq_true (by first | (with_reducible assumption) | assumption)
                obtain ⟨ad102, e102, hx102_0⟩ := Kd.at_int HR1.out x5_1 p102 q102
                cases e102
                replace p102 := eq_true p102
                replace q102 := eq_true q102
                go_wp2
                repeat (go_quiet (fail); try go_wp2)
                go_ret
                exact ⟨by first | rfl | (simp; done) | (simp [*]; done), by repeat (first | exact Drawn0.refl _ | apply Drawn0.step)⟩
            · rw [if_neg c6] at H
              exact absurd H (by simp)
          · rw [if_neg c5] at H
            exact absurd H (by simp)
        · rw [if_neg c4] at H
          have c4b0 : decide (x5_1 < (l0.length : Int)) = false := decide_eq_false c4
          clear c4
          obtain rfl := Option.some.inj H
          go_wp2
          repeat (go_quiet (fail); try go_wp2)
          go_ret
          exact ⟨by first | rfl | (simp; done) | (simp [*]; done), by repeat (first | exact Drawn0.refl _ | apply Drawn0.step)⟩
  · rw [if_neg c3] at H
    have c3b0 : ((l0.length : Int) == (l1.length : Int)) = false := beq_eq_false_iff_ne.mpr c3
    have c3b1 : ((l0.length : Int) != (l1.length : Int)) = true := bne_iff_ne.mpr c3
    have c3b2 : (l0.length == l1.length) = false := by first | simpa using c3 | (simp at c3 ⊢; omega)
    obtain rfl := Option.some.inj H
    go_enter Tryd.func13, Tryd.ntmps13
    go_wp2
    repeat (go_quiet (fail); try go_wp2)
    go_ret
    exact ⟨by first | rfl | (simp; done) | (simp [*]; done), by repeat (first | exact Drawn0.refl _ | apply Drawn0.step)⟩

/-! ### laws_toByteS: function 17 -/
def laws_toByteS.l0 : Nat → List Int → List Int → Int → Option (List Int)
  | 0, _, _, _ => none
  | k + 1, x0, x3, x4 => if x4 < (x0.length : Int) then (if 0 ≤ x4 then (if x4 < (x3.length : Int) then (laws_toByteS.l0 k x0 (x3.set (x4 : Int).toNat (rd x0 x4)) (wrap64 (x4 + 1))) else (none)) else (none)) else (some x3)
def laws_toByteS.f (k : Nat) (l0 : List Int) : Option (List Int) := if 0 ≤ (l0.length : Int) then (if ((l0.length : Int) : Int).toNat ≤ 281474976710656 then (laws_toByteS.l0 k l0 (List.replicate ((l0.length : Int) : Int).toNat 0) 0) else (none)) else (none)
theorem laws_toByteS.mono_l : ∀ k, (∀ y0 y1 y2, LeO (laws_toByteS.l0 k y0 y1 y2) (laws_toByteS.l0 (k + 1) y0 y1 y2))
  | 0 => fun _ _ _ r h => by simp [laws_toByteS.l0] at h
  | k + 1 => by
    have ih0 := laws_toByteS.mono_l k
    · intro y0 y1 y2
      unfold laws_toByteS.l0
      repeat' first
      | (with_reducible exact ih0 _ _ _)
      | (with_reducible exact LeO.refl _)
      | (with_reducible exact LeO.none _)
      | (with_reducible refine LeO.ite ?_ ?_)
      | (with_reducible refine LeO.bind ?_ (fun _ => ?_))
      | exact ih0 _ _ _
      | exact LeO.none _
      | refine LeO.ite ?_ ?_
      | refine LeO.bind ?_ (fun _ => ?_)
theorem laws_toByteS.mono : ∀ a0 k, LeO (laws_toByteS.f k a0) (laws_toByteS.f (k + 1) a0) := by
  intro a0 k
  have ih0 := laws_toByteS.mono_l k
  unfold laws_toByteS.f
  repeat' first
      | (with_reducible exact ih0 _ _ _)
      | (with_reducible exact LeO.refl _)
      | (with_reducible exact LeO.none _)
      | (with_reducible refine LeO.ite ?_ ?_)
      | (with_reducible refine LeO.bind ?_ (fun _ => ?_))
      | exact ih0 _ _ _
      | exact LeO.none _
      | refine LeO.ite ?_ ?_
      | refine LeO.bind ?_ (fun _ => ?_)
set_option maxHeartbeats 8000000 in
set_option maxRecDepth 100000 in
theorem laws_toByteS.calls (k : Nat) (A0 : Option Addr) (c0 : Nat) (l0 : List Int) (r : List Int) (w : World) (hr0 : Kd.C (Kd.int .u8) w A0 l0.length l0) (hc0 : l0.length ≤ c0) (h : laws_toByteS.f k l0 = some r) :
    Calls Tryd.prog 17 #[.slice A0 l0.length c0] w fun e w' => ∃ v0_ : Value, e = .returned (v0_) ∧ Kd.R (Kd.int .u8) 5 w' w.heap.size (fun _ => True) v0_ r ∧ Below w.heap.size w w' := by
  have HR0 := Aside0.mk hr0
  have HC0 := Aside0.mk hc0
  clear hr0 hc0
  have HB := Aside0.mk (Below.refl w.heap.size w)
  have H : (if 0 ≤ (l0.length : Int) then (if ((l0.length : Int) : Int).toNat ≤ 281474976710656 then (laws_toByteS.l0 k l0 (List.replicate ((l0.length : Int) : Int).toNat 0) 0) else (none)) else (none)) = some r := h
  clear h
  by_cases c2 : 0 ≤ (l0.length : Int)
  · rw [if_pos c2] at H
    have c2b0 := eq_true c2
    have c2b1 : decide (0 ≤ (l0.length : Int)) = true := decide_eq_true c2
    clear c2
    by_cases c3 : ((l0.length : Int) : Int).toNat ≤ 281474976710656
    · rw [if_pos c3] at H
      have c3b0 := eq_true c3
      have c3b1 : decide (((l0.length : Int) : Int).toNat ≤ 281474976710656) = true := decide_eq_true c3
      clear c3
      obtain ⟨y103, hy103⟩ : ∃ y_ : List Int, y_ = (List.replicate ((l0.length : Int) : Int).toNat 0) := ⟨_, rfl⟩
      replace H : (laws_toByteS.l0 k l0 y103 0) = some r := by first | (rw [hy103]; with_reducible exact H) | (have H2_ := (Option.bind_some _ _).symm.trans H; rw [hy103]; with_reducible exact H2_) | (have H2_ := (Option.bind_some _ _).symm.trans H; with_reducible exact H2_) | with_reducible exact H | (rw [hy103]; exact H) | exact H
      have Ny103 := Aside0.mk hy103
      clear hy103
      have H' := Aside0.mk H
      clear H
      go_enter Tryd.func17, Tryd.ntmps17
      go_wp2_with (first | ((with_reducible refine gate_dst (N := 7) rfl ?_); refine Kd.R_make (Kd.int .u8) _ 5 rfl (N := 7) rfl 28 _ _ rfl (l0.length : Int) rfl rfl Tryd.underlying28 (.int .u8 0) 1 info5 rfl (by decide) (by omega) 0 (ok := fun _ => True) (okp := fun _ => True) rfl (fun _ hk => hk) trivial (of_decide_eq_true (by first | (with_reducible assumption) | assumption)) (Nat.le_trans (Nat.mul_le_mul_right _ (of_decide_eq_true (by first | (with_reducible assumption) | assumption) : (l0.length : Int).toNat ≤ 281474976710656)) (by omega)) (Below.refl _ _) (Nat.le_refl _) ?_; intro v104 w4 ho5 hb hg_ hnew_; clear hg_ hnew_; (first | rw [← Ny103.out] at ho5 | (simp only [Int.reduceToNat] at ho5; rw [← Ny103.out] at ho5)); have n0_ := Aside0.mk (Kd.R_lower ho5 (below_size (by repeat (first | (with_reducible first | exact HB.out | apply below_alloc | apply pw_below_drewN | apply below_drew1) | exact HB.out)))); have n1_ := Aside0.mk (below_step (by repeat (first | (with_reducible first | exact HB.out | apply below_alloc | apply pw_below_drewN | apply below_drew1) | exact HB.out)) hb); clear HB; have HO105 := n0_; have HB := n1_; clear n0_ n1_; clear hb ho5))
      go_loopg [4] k (fun kq v4 w' => ∃ (x3_1 : List Int) (x4_1 : Int), v4 = .int .i64 x4_1 ∧ Aside0 (laws_toByteS.l0 kq l0 x3_1 x4_1 = some r) ∧ Aside0 (kq ≤ k) ∧ Aside0 (Kd.R (Kd.int .u8) 5 w' w.heap.size (fun _ => True) v104 x3_1) ∧ Aside0 (Below w.heap.size w w'))
      case atStart => exact ⟨(y103), (0), (by first | rfl | (simp; done) | (simp [*]; done)), H', ⟨Nat.le_refl _⟩, ⟨by (with_reducible repeat (first | apply Kd.R_alloc | apply Kd.R_drewN | apply Kd.R_drew)); exact HO105.out⟩, ⟨by repeat (first | (with_reducible first | exact HB.out | apply below_alloc | apply pw_below_drewN | apply below_drew1) | exact HB.out)⟩⟩
      case round =>
        clear H'
        try clear c1
        try clear c2
        try clear c2b0
        try clear c2b1
        try clear p2
        try clear c3
        try clear c3b0
        try clear c3b1
        obtain ⟨x3_1, x4_1, rfl, HA, HK1, HO_3, HB⟩ := hrel
        cases gk with
        | zero => exact absurd HA.out (by simp [laws_toByteS.l0])
        | succ k1 =>
          have H := HA.out
          clear HA
          simp only [laws_toByteS.l0] at H
          by_cases c6 : x4_1 < (l0.length : Int)
          · rw [if_pos c6] at H
            have c6b0 : decide (x4_1 < (l0.length : Int)) = true := decide_eq_true c6
            clear c6
            by_cases c7 : 0 ≤ x4_1
            · rw [if_pos c7] at H
              have c7b0 : decide (0 ≤ x4_1) = true := decide_eq_true c7
              clear c7
              by_cases c8 : x4_1 < (x3_1.length : Int)
              · rw [if_pos c8] at H
                have c8b0 : decide (x4_1 < (x3_1.length : Int)) = true := decide_eq_true c8
                clear c8
                obtain ⟨y107, hy107⟩ : ∃ y_ : List Int, y_ = (x3_1.set (x4_1 : Int).toNat (rd l0 x4_1)) := ⟨_, rfl⟩
                replace H : (laws_toByteS.l0 k1 l0 y107 (wrap64 (x4_1 + 1))) = some r := by first | (rw [hy107]; with_reducible exact H) | (have H2_ := (Option.bind_some _ _).symm.trans H; rw [hy107]; with_reducible exact H2_) | (have H2_ := (Option.bind_some _ _).symm.trans H; with_reducible exact H2_) | with_reducible exact H | (rw [hy107]; exact H) | exact H
                have Ny107 := Aside0.mk hy107
                clear hy107
                have H' := Aside0.mk H
                clear H
                have p106 : 0 ≤ (x4_1 : Int) := of_decide_eq_true (by first | (with_reducible assumption) | assumption)
                have q106 : x4_1 < (l0.length : Int) := of_decide_eq_true (by first | (with_reducible assumption) | assumption)
                obtain ⟨ad106, e106, hx106_0⟩ := Kd.at_int HR0.out x4_1 p106 q106
                cases e106
                replace hx106_0 := (HB.out.cell (World.block_lt_of_cell? w _ hx106_0)).trans hx106_0
                replace p106 := eq_true p106
                replace q106 := eq_true q106
                have p9 : 0 ≤ (x4_1 : Int) := of_decide_eq_true (by first | (with_reducible assumption) | assumption)
                have q9 : (x4_1 : Int) < ((x3_1.length : Int) : Int) := of_decide_eq_true (by first | (with_reducible assumption) | assumption)
                obtain ⟨go9, co9, eo9, gb9, gl9, cl9, HG9⟩ := Kd.R_form HO_3.out (by omega)
                (first | cases eo9 | (injection eo9 with ea_ en_ ec_; (first | subst ea_ | (injection ea_ with ea_; subst ea_)); subst ec_; clear en_))
                have GB9 := Aside0.mk gb9
                have GG9 := Aside0.mk HG9
                clear gb9 gl9 HG9
                obtain ⟨hx9_0, hf9_0⟩ := Kd.R_celln 0 HO_3.out (x4_1 : Int) p9 q9
                replace p9 := eq_true p9
                replace q9 := eq_true q9
                have HP10 := Kd.R_putg HO_3.out (x4_1 : Int) (rd l0 x4_1)
                go_wp2_with (first | ((with_reducible refine gate_store (t := 5) (p := 20) rfl ?_); refine store_event (t := 5) (p := 20) (v := ?vo_w11) (w1 := (wr.setCell ⟨go9, (x4_1 : Int).toNat, none⟩ (.int .u8 (rd l0 x4_1)))) ?hg ?ho ?hn ?hr ?_; (case ho => rfl); (case hg => rfl); (case hn => rfl); (case hr => first | (go_simp; done) | (go_simp; rfl)); intro w11 hw; have hg : wr.grownBy w11 (some go9) := (by rw [hw]; exact HP10.2); have hp_ : Kd.R (Kd.int .u8) 5 w11 w.heap.size (fun _ => True) (.slice (some ⟨go9, 0, none⟩) x3_1.length co9) y107 := (by rw [hw, Ny107.out]; exact HP10.1); clear HP10; have n0_ := Aside0.mk (hp_); have n1_ := Aside0.mk ((by rw [hw]; exact below_set (HB.out) GB9.out : Below w.heap.size w w11)); clear HO_3; clear HB; have HO_3 := n0_; have HB := n1_; clear n0_ n1_; clear hg hw hp_))
                go_roundg k1
                case measure => have := HK1.out; omega
                case rel => exact ⟨(y107), (wrap64 (x4_1 + 1)), (by first | rfl | (simp; done) | (simp [*]; done)), H', ⟨by have := HK1.out; omega⟩, ⟨by (with_reducible repeat (first | apply Kd.R_alloc | apply Kd.R_drewN | apply Kd.R_drew)); exact HO_3.out⟩, ⟨by repeat (first | (with_reducible first | exact HB.out | apply below_alloc | apply pw_below_drewN | apply below_drew1) | exact HB.out)⟩⟩
              · rw [if_neg c8] at H
                exact absurd H (by simp)
            · rw [if_neg c7] at H
              exact absurd H (by simp)
          · rw [if_neg c6] at H
            have c6b0 : decide (x4_1 < (l0.length : Int)) = false := decide_eq_false c6
            clear c6
            obtain rfl := Option.some.inj H
            go_wp2
            go_ret
            exact ⟨_, by first | rfl | (simp [errW_none, errW_some] <;> rfl) | (simp [*, errW_none, errW_some] <;> rfl), by (with_reducible repeat (first | apply Kd.R_alloc | apply Kd.R_drewN | apply Kd.R_drew)); exact HO_3.out, by repeat (first | (with_reducible first | exact HB.out | apply below_alloc | apply pw_below_drewN | apply below_drew1) | exact HB.out)⟩
    · rw [if_neg c3] at H
      exact absurd H (by simp)
  · rw [if_neg c2] at H
    exact absurd H (by simp)

open Go.Proofs.YtkghgjehjchajaaDoorW Go.Proofs.YtkghgjehjchajaaDoorW.PrintHand Go.Proofs.YtkghgjehjchajaaDoorW.PrintHx
/-! ### laws_eqIntA12: function 86 -/
def laws_eqIntA12.f (a0 a1 : List Int) : Option Bool := if a0 = a1 then some true else none
set_option maxHeartbeats 4000000 in
theorem laws_eqIntA12.calls (a0 : List Int) (n0 : a0.length = 12) (a1 : List Int) (n1 : a1.length = 12) (r : Bool) (w : World) (h : laws_eqIntA12.f a0 a1 = some r) :
    Calls Tryd.prog 86 #[.agg (nums .i64 a0).toArray, .agg (nums .i64 a1).toArray] w fun e w' => e = .returned (.bool r) ∧ Below w.heap.size w w' := by
  unfold laws_eqIntA12.f at h
  by_cases he : a0 = a1
  case neg => rw [if_neg he] at h; cases h
  rw [if_pos he] at h
  obtain rfl := Option.some.inj h
  subst he
  have N_ := Aside0.mk n0
  clear n0 n1 h
  have HB0 : Aside0 (Below w.heap.size w w) := ⟨Below.refl _ _⟩
  obtain ⟨s0, Sz0⟩ : ∃ s0, Aside0 (w.heap.size = s0) := ⟨_, ⟨rfl⟩⟩
  go_enter Tryd.func86, Tryd.ntmps86
  go_wp2_with (first | ((with_reducible refine gate_dst (N := 2) rfl ?_); refine hx_box rfl 2 rfl 22 (.tmp 0) rfl Sz0 (.agg (nums .i64 a0).toArray) (nums .i64 a0).toArray rfl rfl ?_; intro w1 s1 L1 Sz1 b1 g_; have H0 := Aside0.mk g_; have HB1 := Aside0.mk (below_then HB0.out HB0.out.size b1); clear g_ HB0 b1) | ((with_reducible refine gate_dst (N := 3) rfl ?_); refine hx_box rfl 3 rfl 22 (.tmp 1) rfl Sz1 (.agg (nums .i64 a0).toArray) (nums .i64 a0).toArray rfl rfl ?_; intro w2 s2 L2 Sz2 b2 g_; have H1 := Aside0.mk g_; have H0 := Aside0.mk (blk_below H0.out b2); have HB2 := Aside0.mk (below_then HB1.out HB1.out.size b2); clear g_ HB1 b2))
  (try simp only [Act.put, List.setIfInBounds_toArray, List.set_cons_succ, List.set_cons_zero])
  go_loopw [5] (fun i wr => ∃ k : Nat, k ≤ 12 ∧ i = .int .i64 (k : Int) ∧ Aside0 (Below w.heap.size w wr) ∧ Aside0 (wr.heap[s0]? = some (.cells (nums .i64 a0).toArray 22 (0, 0))) ∧ Aside0 (wr.heap[s1]? = some (.cells (nums .i64 a0).toArray 22 (0, 0)))) (fun i _ => 12 - (intOf i).toNat)
  case atStart => exact ⟨0, by omega, rfl, HB2, H0, H1⟩
  case round =>
    obtain ⟨k, hk, rfl, hB, h0, h1⟩ := hrel
    by_cases hlt : k < 12
    · have c0 := row_cell h0.out k (by rw [N_.out]; exact hlt)
      have c1 := row_cell h1.out k (by rw [N_.out]; exact hlt)
      have hn : (a0.getD k 0 != a0.getD k 0) = false := by simp
      go_wp2
      go_quiet (fail)
      go_wp2
      go_roundw
      case rel => exact ⟨k + 1, by omega, by go_num, ⟨pw_below_drewN hB.out _⟩, ⟨blk_drewN h0.out _⟩, ⟨blk_drewN h1.out _⟩⟩
      case measure => simp [intOf]; omega
    · obtain rfl : k = 12 := by omega
      go_wp2
      go_ret
      exact ⟨rfl, hB.out⟩

open Go.Proofs.YtkghgjehjchajaaDoorW Go.Proofs.YtkghgjehjchajaaDoorW.PrintHand Go.Proofs.YtkghgjehjchajaaDoorW.PrintHx
/-! ### laws_eqRoot: function 55 -/
def laws_eqRoot.f (a0 a1 : List Int) : Option Bool := if a0 = a1 then some true else none
set_option maxHeartbeats 8000000 in
set_option maxRecDepth 100000 in
theorem laws_eqRoot.calls (a0 : List Int) (n0 : a0.length = 15) (a1 : List Int) (n1 : a1.length = 15) (r : Bool) (w : World) (h : laws_eqRoot.f a0 a1 = some r) :
    Calls Tryd.prog 55 #[.agg (nums .i64 a0).toArray, .agg (nums .i64 a1).toArray] w fun e w' => e = .returned (.bool r) ∧ Below w.heap.size w w' := by
  unfold laws_eqRoot.f at h
  by_cases he : a0 = a1
  case neg => rw [if_neg he] at h; cases h
  rw [if_pos he] at h
  obtain rfl := Option.some.inj h
  subst he
  have N_ := Aside0.mk n0
  clear n0 n1 h
  have HB0 : Aside0 (Below w.heap.size w w) := ⟨Below.refl _ _⟩
  obtain ⟨s0, Sz0⟩ : ∃ s0, Aside0 (w.heap.size = s0) := ⟨_, ⟨rfl⟩⟩
  have hw0 : w.heap.size ≤ s0 := Nat.le_of_eq Sz0.out
  have hw1 : s0 ≤ w.heap.size := Nat.le_of_eq Sz0.out.symm
  go_enter Tryd.func55, Tryd.ntmps55
  go_wp2_with (first | ((with_reducible refine gate_dst (N := 2) rfl ?_); refine hx_box rfl 2 rfl 31 (.tmp 0) rfl Sz0 (.agg (nums .i64 a0).toArray) (nums .i64 a0).toArray rfl rfl ?_; intro w1 s1 L1 Sz1 b1 g_; have H2_1 := Aside0.mk g_; clear g_; have K0 := kept_below b1; have HB1 := Aside0.mk (below_then HB0.out HB0.out.size b1); clear b1; clear K0 HB0) | ((with_reducible refine gate_dst (N := 3) rfl ?_); refine hx_box rfl 3 rfl 31 (.tmp 1) rfl Sz1 (.agg (nums .i64 a0).toArray) (nums .i64 a0).toArray rfl rfl ?_; intro w2 s2 L2 Sz2 b2 g_; have H3_2 := Aside0.mk g_; clear g_; have K1 := kept_below b2; have HB2 := Aside0.mk (below_then HB1.out HB1.out.size b2); have H2_2 := Aside0.mk (blk_kept H2_1.out K1 (fun h_ => h_)); clear b2; clear K1 HB1 H2_1) | ((with_reducible refine gate_dst (N := 6) rfl ?_); refine hx_loadf rfl 3 (.tmp 5) rfl s0 0 rfl Tryd.underlying3 rfl H2_2.out (lt_len (n := 15) N_.out (by decide)) ?_) | ((with_reducible refine gate_dst (N := 8) rfl ?_); refine hx_loadf rfl 3 (.tmp 7) rfl s1 0 rfl Tryd.underlying3 rfl H3_2.out (lt_len (n := 15) N_.out (by decide)) ?_) | ((with_reducible refine gate_dst (N := 11) rfl ?_); refine hx_loadp rfl 22 (.tmp 10) rfl s0 1 12 rfl Tryd.underlying22 rfl (by kernel_rfl) H2_2.out (le_len (n := 15) N_.out (by decide)) ?_) | ((with_reducible refine gate_dst (N := 13) rfl ?_); refine hx_loadp rfl 22 (.tmp 12) rfl s1 1 12 rfl Tryd.underlying22 rfl (by kernel_rfl) H3_2.out (le_len (n := 15) N_.out (by decide)) ?_) | ((with_reducible refine gate_dst (N := 14) rfl ?_); refine goesL_ (some 14) rfl rfl Tryd.func86 (by kernel_rfl) rfl #[.agg (nums .i64 (seg a0 1 12)).toArray, .agg (nums .i64 (seg a0 1 12)).toArray] rfl (by (try simp only [List.map_toArray, List.map_cons, List.map_nil]); first | done | rfl) ?_; refine (laws_eqIntA12.calls _ (part_len (n := 15) N_.out (by decide)) _ (part_len (n := 15) N_.out (by decide)) _ _ (if_pos rfl)).mono ?_; rintro e_ w3 ⟨rfl, b3⟩; refine ⟨_, rfl, ?_⟩; obtain ⟨s3, L3, Sz3⟩ := size_letter Sz2 (kept_below b3); have K2 := kept_below b3; have HB3 := Aside0.mk (below_then HB2.out HB2.out.size b3); have H2_3 := Aside0.mk (blk_kept H2_2.out K2 (fun h_ => h_)); have H3_3 := Aside0.mk (blk_kept H3_2.out K2 (fun h_ => h_)); clear b3; clear K2 HB2 H2_2 H3_2) | ((with_reducible refine gate_dst (N := 17) rfl ?_); refine hx_loadf rfl 3 (.tmp 16) rfl s0 13 rfl Tryd.underlying3 rfl H2_3.out (lt_len (n := 15) N_.out (by decide)) ?_) | ((with_reducible refine gate_dst (N := 19) rfl ?_); refine hx_loadf rfl 3 (.tmp 18) rfl s1 13 rfl Tryd.underlying3 rfl H3_3.out (lt_len (n := 15) N_.out (by decide)) ?_) | ((with_reducible refine gate_dst (N := 22) rfl ?_); refine hx_loadf rfl 3 (.tmp 21) rfl s0 14 rfl Tryd.underlying3 rfl H2_3.out (lt_len (n := 15) N_.out (by decide)) ?_) | ((with_reducible refine gate_dst (N := 24) rfl ?_); refine hx_loadf rfl 3 (.tmp 23) rfl s1 14 rfl Tryd.underlying3 rfl H3_3.out (lt_len (n := 15) N_.out (by decide)) ?_))
  go_ret
  exact ⟨rfl, HB3.out⟩

open Go.Proofs.YtkghgjehjchajaaDoorW Go.Proofs.YtkghgjehjchajaaDoorW.PrintHand Go.Proofs.YtkghgjehjchajaaDoorW.PrintHx
/-! ### laws_eqIntA31: function 61 -/
def laws_eqIntA31.f (a0 a1 : List Int) : Option Bool := if a0 = a1 then some true else none
set_option maxHeartbeats 4000000 in
theorem laws_eqIntA31.calls (a0 : List Int) (n0 : a0.length = 31) (a1 : List Int) (n1 : a1.length = 31) (r : Bool) (w : World) (h : laws_eqIntA31.f a0 a1 = some r) :
    Calls Tryd.prog 61 #[.agg (nums .i64 a0).toArray, .agg (nums .i64 a1).toArray] w fun e w' => e = .returned (.bool r) ∧ Below w.heap.size w w' := by
  unfold laws_eqIntA31.f at h
  by_cases he : a0 = a1
  case neg => rw [if_neg he] at h; cases h
  rw [if_pos he] at h
  obtain rfl := Option.some.inj h
  subst he
  have N_ := Aside0.mk n0
  clear n0 n1 h
  have HB0 : Aside0 (Below w.heap.size w w) := ⟨Below.refl _ _⟩
  obtain ⟨s0, Sz0⟩ : ∃ s0, Aside0 (w.heap.size = s0) := ⟨_, ⟨rfl⟩⟩
  go_enter Tryd.func61, Tryd.ntmps61
  go_wp2_with (first | ((with_reducible refine gate_dst (N := 2) rfl ?_); refine hx_box rfl 2 rfl 43 (.tmp 0) rfl Sz0 (.agg (nums .i64 a0).toArray) (nums .i64 a0).toArray rfl rfl ?_; intro w1 s1 L1 Sz1 b1 g_; have H0 := Aside0.mk g_; have HB1 := Aside0.mk (below_then HB0.out HB0.out.size b1); clear g_ HB0 b1) | ((with_reducible refine gate_dst (N := 3) rfl ?_); refine hx_box rfl 3 rfl 43 (.tmp 1) rfl Sz1 (.agg (nums .i64 a0).toArray) (nums .i64 a0).toArray rfl rfl ?_; intro w2 s2 L2 Sz2 b2 g_; have H1 := Aside0.mk g_; have H0 := Aside0.mk (blk_below H0.out b2); have HB2 := Aside0.mk (below_then HB1.out HB1.out.size b2); clear g_ HB1 b2))
  (try simp only [Act.put, List.setIfInBounds_toArray, List.set_cons_succ, List.set_cons_zero])
  go_loopw [5] (fun i wr => ∃ k : Nat, k ≤ 31 ∧ i = .int .i64 (k : Int) ∧ Aside0 (Below w.heap.size w wr) ∧ Aside0 (wr.heap[s0]? = some (.cells (nums .i64 a0).toArray 43 (0, 0))) ∧ Aside0 (wr.heap[s1]? = some (.cells (nums .i64 a0).toArray 43 (0, 0)))) (fun i _ => 31 - (intOf i).toNat)
  case atStart => exact ⟨0, by omega, rfl, HB2, H0, H1⟩
  case round =>
    obtain ⟨k, hk, rfl, hB, h0, h1⟩ := hrel
    by_cases hlt : k < 31
    · have c0 := row_cell h0.out k (by rw [N_.out]; exact hlt)
      have c1 := row_cell h1.out k (by rw [N_.out]; exact hlt)
      have hn : (a0.getD k 0 != a0.getD k 0) = false := by simp
      go_wp2
      go_quiet (fail)
      go_wp2
      go_roundw
      case rel => exact ⟨k + 1, by omega, by go_num, ⟨pw_below_drewN hB.out _⟩, ⟨blk_drewN h0.out _⟩, ⟨blk_drewN h1.out _⟩⟩
      case measure => simp [intOf]; omega
    · obtain rfl : k = 31 := by omega
      go_wp2
      go_ret
      exact ⟨rfl, hB.out⟩

open Go.Proofs.YtkghgjehjchajaaDoorW Go.Proofs.YtkghgjehjchajaaDoorW.PrintHand Go.Proofs.YtkghgjehjchajaaDoorW.PrintHx
/-! ### laws_eqFsinfo: function 25 -/
def laws_eqFsinfo.f (a0 a1 : List Int) : Option Bool := if a0 = a1 then some true else none
set_option maxHeartbeats 8000000 in
set_option maxRecDepth 100000 in
theorem laws_eqFsinfo.calls (a0 : List Int) (n0 : a0.length = 68) (a1 : List Int) (n1 : a1.length = 68) (r : Bool) (w : World) (h : laws_eqFsinfo.f a0 a1 = some r) :
    Calls Tryd.prog 25 #[.agg (nums .i64 a0).toArray, .agg (nums .i64 a1).toArray] w fun e w' => e = .returned (.bool r) ∧ Below w.heap.size w w' := by
  unfold laws_eqFsinfo.f at h
  by_cases he : a0 = a1
  case neg => rw [if_neg he] at h; cases h
  rw [if_pos he] at h
  obtain rfl := Option.some.inj h
  subst he
  have N_ := Aside0.mk n0
  clear n0 n1 h
  have HB0 : Aside0 (Below w.heap.size w w) := ⟨Below.refl _ _⟩
  obtain ⟨s0, Sz0⟩ : ∃ s0, Aside0 (w.heap.size = s0) := ⟨_, ⟨rfl⟩⟩
  have hw0 : w.heap.size ≤ s0 := Nat.le_of_eq Sz0.out
  have hw1 : s0 ≤ w.heap.size := Nat.le_of_eq Sz0.out.symm
  go_enter Tryd.func25, Tryd.ntmps25
  go_wp2_with (first | ((with_reducible refine gate_dst (N := 2) rfl ?_); refine hx_box rfl 2 rfl 48 (.tmp 0) rfl Sz0 (.agg (nums .i64 a0).toArray) (nums .i64 a0).toArray rfl rfl ?_; intro w1 s1 L1 Sz1 b1 g_; have H2_1 := Aside0.mk g_; clear g_; have K0 := kept_below b1; have HB1 := Aside0.mk (below_then HB0.out HB0.out.size b1); clear b1; clear K0 HB0) | ((with_reducible refine gate_dst (N := 3) rfl ?_); refine hx_box rfl 3 rfl 48 (.tmp 1) rfl Sz1 (.agg (nums .i64 a0).toArray) (nums .i64 a0).toArray rfl rfl ?_; intro w2 s2 L2 Sz2 b2 g_; have H3_2 := Aside0.mk g_; clear g_; have K1 := kept_below b2; have HB2 := Aside0.mk (below_then HB1.out HB1.out.size b2); have H2_2 := Aside0.mk (blk_kept H2_1.out K1 (fun h_ => h_)); clear b2; clear K1 HB1 H2_1) | ((with_reducible refine gate_dst (N := 6) rfl ?_); refine hx_loadf rfl 3 (.tmp 5) rfl s0 0 rfl Tryd.underlying3 rfl H2_2.out (lt_len (n := 68) N_.out (by decide)) ?_) | ((with_reducible refine gate_dst (N := 8) rfl ?_); refine hx_loadf rfl 3 (.tmp 7) rfl s1 0 rfl Tryd.underlying3 rfl H3_2.out (lt_len (n := 68) N_.out (by decide)) ?_) | ((with_reducible refine gate_dst (N := 11) rfl ?_); refine hx_loadf rfl 3 (.tmp 10) rfl s0 1 rfl Tryd.underlying3 rfl H2_2.out (lt_len (n := 68) N_.out (by decide)) ?_) | ((with_reducible refine gate_dst (N := 13) rfl ?_); refine hx_loadf rfl 3 (.tmp 12) rfl s1 1 rfl Tryd.underlying3 rfl H3_2.out (lt_len (n := 68) N_.out (by decide)) ?_) | ((with_reducible refine gate_dst (N := 16) rfl ?_); refine hx_loadf rfl 3 (.tmp 15) rfl s0 2 rfl Tryd.underlying3 rfl H2_2.out (lt_len (n := 68) N_.out (by decide)) ?_) | ((with_reducible refine gate_dst (N := 18) rfl ?_); refine hx_loadf rfl 3 (.tmp 17) rfl s1 2 rfl Tryd.underlying3 rfl H3_2.out (lt_len (n := 68) N_.out (by decide)) ?_) | ((with_reducible refine gate_dst (N := 21) rfl ?_); refine hx_loadf rfl 3 (.tmp 20) rfl s0 3 rfl Tryd.underlying3 rfl H2_2.out (lt_len (n := 68) N_.out (by decide)) ?_) | ((with_reducible refine gate_dst (N := 23) rfl ?_); refine hx_loadf rfl 3 (.tmp 22) rfl s1 3 rfl Tryd.underlying3 rfl H3_2.out (lt_len (n := 68) N_.out (by decide)) ?_) | ((with_reducible refine gate_dst (N := 26) rfl ?_); refine hx_loadf rfl 3 (.tmp 25) rfl s0 4 rfl Tryd.underlying3 rfl H2_2.out (lt_len (n := 68) N_.out (by decide)) ?_) | ((with_reducible refine gate_dst (N := 28) rfl ?_); refine hx_loadf rfl 3 (.tmp 27) rfl s1 4 rfl Tryd.underlying3 rfl H3_2.out (lt_len (n := 68) N_.out (by decide)) ?_) | ((with_reducible refine gate_dst (N := 31) rfl ?_); refine hx_loadf rfl 3 (.tmp 30) rfl s0 5 rfl Tryd.underlying3 rfl H2_2.out (lt_len (n := 68) N_.out (by decide)) ?_) | ((with_reducible refine gate_dst (N := 33) rfl ?_); refine hx_loadf rfl 3 (.tmp 32) rfl s1 5 rfl Tryd.underlying3 rfl H3_2.out (lt_len (n := 68) N_.out (by decide)) ?_) | ((with_reducible refine gate_dst (N := 36) rfl ?_); refine hx_loadf rfl 3 (.tmp 35) rfl s0 6 rfl Tryd.underlying3 rfl H2_2.out (lt_len (n := 68) N_.out (by decide)) ?_) | ((with_reducible refine gate_dst (N := 38) rfl ?_); refine hx_loadf rfl 3 (.tmp 37) rfl s1 6 rfl Tryd.underlying3 rfl H3_2.out (lt_len (n := 68) N_.out (by decide)) ?_) | ((with_reducible refine gate_dst (N := 41) rfl ?_); refine hx_loadp rfl 31 (.tmp 40) rfl s0 7 15 rfl Tryd.underlying31 rfl (by kernel_rfl) H2_2.out (le_len (n := 68) N_.out (by decide)) ?_) | ((with_reducible refine gate_dst (N := 43) rfl ?_); refine hx_loadp rfl 31 (.tmp 42) rfl s1 7 15 rfl Tryd.underlying31 rfl (by kernel_rfl) H3_2.out (le_len (n := 68) N_.out (by decide)) ?_) | ((with_reducible refine gate_dst (N := 44) rfl ?_); refine goesL_ (some 44) rfl rfl Tryd.func55 (by kernel_rfl) rfl #[.agg (nums .i64 (seg a0 7 15)).toArray, .agg (nums .i64 (seg a0 7 15)).toArray] rfl (by (try simp only [List.map_toArray, List.map_cons, List.map_nil]); first | done | rfl) ?_; refine (laws_eqRoot.calls _ (part_len (n := 68) N_.out (by decide)) _ (part_len (n := 68) N_.out (by decide)) _ _ (if_pos rfl)).mono ?_; rintro e_ w3 ⟨rfl, b3⟩; refine ⟨_, rfl, ?_⟩; obtain ⟨s3, L3, Sz3⟩ := size_letter Sz2 (kept_below b3); have K2 := kept_below b3; have HB3 := Aside0.mk (below_then HB2.out HB2.out.size b3); have H2_3 := Aside0.mk (blk_kept H2_2.out K2 (fun h_ => h_)); have H3_3 := Aside0.mk (blk_kept H3_2.out K2 (fun h_ => h_)); clear b3; clear K2 HB2 H2_2 H3_2) | ((with_reducible refine gate_dst (N := 47) rfl ?_); refine hx_loadp rfl 31 (.tmp 46) rfl s0 22 15 rfl Tryd.underlying31 rfl (by kernel_rfl) H2_3.out (le_len (n := 68) N_.out (by decide)) ?_) | ((with_reducible refine gate_dst (N := 49) rfl ?_); refine hx_loadp rfl 31 (.tmp 48) rfl s1 22 15 rfl Tryd.underlying31 rfl (by kernel_rfl) H3_3.out (le_len (n := 68) N_.out (by decide)) ?_) | ((with_reducible refine gate_dst (N := 50) rfl ?_); refine goesL_ (some 50) rfl rfl Tryd.func55 (by kernel_rfl) rfl #[.agg (nums .i64 (seg a0 22 15)).toArray, .agg (nums .i64 (seg a0 22 15)).toArray] rfl (by (try simp only [List.map_toArray, List.map_cons, List.map_nil]); first | done | rfl) ?_; refine (laws_eqRoot.calls _ (part_len (n := 68) N_.out (by decide)) _ (part_len (n := 68) N_.out (by decide)) _ _ (if_pos rfl)).mono ?_; rintro e_ w4 ⟨rfl, b4⟩; refine ⟨_, rfl, ?_⟩; obtain ⟨s4, L4, Sz4⟩ := size_letter Sz3 (kept_below b4); have K3 := kept_below b4; have HB4 := Aside0.mk (below_then HB3.out HB3.out.size b4); have H2_4 := Aside0.mk (blk_kept H2_3.out K3 (fun h_ => h_)); have H3_4 := Aside0.mk (blk_kept H3_3.out K3 (fun h_ => h_)); clear b4; clear K3 HB3 H2_3 H3_3) | ((with_reducible refine gate_dst (N := 53) rfl ?_); refine hx_loadp rfl 43 (.tmp 52) rfl s0 37 31 rfl Tryd.underlying43 rfl (by kernel_rfl) H2_4.out (le_len (n := 68) N_.out (by decide)) ?_) | ((with_reducible refine gate_dst (N := 55) rfl ?_); refine hx_loadp rfl 43 (.tmp 54) rfl s1 37 31 rfl Tryd.underlying43 rfl (by kernel_rfl) H3_4.out (le_len (n := 68) N_.out (by decide)) ?_) | ((with_reducible refine gate_dst (N := 56) rfl ?_); refine goesL_ (some 56) rfl rfl Tryd.func61 (by kernel_rfl) rfl #[.agg (nums .i64 (seg a0 37 31)).toArray, .agg (nums .i64 (seg a0 37 31)).toArray] rfl (by (try simp only [List.map_toArray, List.map_cons, List.map_nil]); first | done | rfl) ?_; refine (laws_eqIntA31.calls _ (part_len (n := 68) N_.out (by decide)) _ (part_len (n := 68) N_.out (by decide)) _ _ (if_pos rfl)).mono ?_; rintro e_ w5 ⟨rfl, b5⟩; refine ⟨_, rfl, ?_⟩; obtain ⟨s5, L5, Sz5⟩ := size_letter Sz4 (kept_below b5); have K4 := kept_below b5; have HB5 := Aside0.mk (below_then HB4.out HB4.out.size b5); have H2_5 := Aside0.mk (blk_kept H2_4.out K4 (fun h_ => h_)); have H3_5 := Aside0.mk (blk_kept H3_4.out K4 (fun h_ => h_)); clear b5; clear K4 HB4 H2_4 H3_4))
  go_ret
  exact ⟨rfl, HB5.out⟩

/-! ### spec_l02Join: function 41 -/
def spec_l02Join.l0 : Nat → List Int → List (List Int) → Int → Int → Option (List Int)
  | 0, _, _, _, _ => none
  | k + 1, x3, x7, x8, x9 => if x9 < x8 then (if 0 ≤ x9 then (if x9 < (x7.length : Int) then (if x3.length + (rd_L1 x7 x9).length < 140737488355328 then (spec_l02Join.l0 k (x3 ++ (rd_L1 x7 x9)) x7 x8 (wrap64 (x9 + 1))) else (none)) else (none)) else (none)) else (some x3)
def spec_l02Join.f (k : Nat) (l0 : List (List Int)) : Option (List Int) := spec_l02Join.l0 k (([] : List Int)) l0 (l0.length : Int) 0
theorem spec_l02Join.mono_l : ∀ k, (∀ y0 y1 y2 y3, LeO (spec_l02Join.l0 k y0 y1 y2 y3) (spec_l02Join.l0 (k + 1) y0 y1 y2 y3))
  | 0 => fun _ _ _ _ r h => by simp [spec_l02Join.l0] at h
  | k + 1 => by
    have ih0 := spec_l02Join.mono_l k
    · intro y0 y1 y2 y3
      unfold spec_l02Join.l0
      repeat' first
      | (with_reducible exact ih0 _ _ _ _)
      | (with_reducible exact LeO.refl _)
      | (with_reducible exact LeO.none _)
      | (with_reducible refine LeO.ite ?_ ?_)
      | (with_reducible refine LeO.bind ?_ (fun _ => ?_))
      | exact ih0 _ _ _ _
      | exact LeO.none _
      | refine LeO.ite ?_ ?_
      | refine LeO.bind ?_ (fun _ => ?_)
theorem spec_l02Join.mono : ∀ a0 k, LeO (spec_l02Join.f k a0) (spec_l02Join.f (k + 1) a0) := by
  intro a0 k
  have ih0 := spec_l02Join.mono_l k
  unfold spec_l02Join.f
  repeat' first
      | (with_reducible exact ih0 _ _ _ _)
      | (with_reducible exact LeO.refl _)
      | (with_reducible exact LeO.none _)
      | (with_reducible refine LeO.ite ?_ ?_)
      | (with_reducible refine LeO.bind ?_ (fun _ => ?_))
      | exact ih0 _ _ _ _
      | exact LeO.none _
      | refine LeO.ite ?_ ?_
      | refine LeO.bind ?_ (fun _ => ?_)
set_option maxHeartbeats 8000000 in
set_option maxRecDepth 100000 in
theorem spec_l02Join.calls (k : Nat) (A0 : Option Addr) (c0 : Nat) (l0 : List (List Int)) (r : List Int) (w : World) (hr0 : Kd.C (Kd.slice 5 (Kd.int .u8)) w A0 l0.length l0) (hc0 : l0.length ≤ c0) (h : spec_l02Join.f k l0 = some r) :
    Calls Tryd.prog 41 #[.slice A0 l0.length c0] w fun e w' => ∃ v0_ : Value, e = .returned (v0_) ∧ Kd.R (Kd.int .u8) 5 w' w.heap.size (fun _ => True) v0_ r ∧ Below w.heap.size w w' := by
  have HR0 := Aside0.mk hr0
  have HC0 := Aside0.mk hc0
  clear hr0 hc0
  have HB := Aside0.mk (Below.refl w.heap.size w)
  have H : (spec_l02Join.l0 k (([] : List Int)) l0 (l0.length : Int) 0) = some r := h
  clear h
  obtain ⟨y108, hy108⟩ : ∃ y_ : List Int, y_ = (([] : List Int)) := ⟨_, rfl⟩
  replace H : (spec_l02Join.l0 k y108 l0 (l0.length : Int) 0) = some r := by first | (rw [hy108]; with_reducible exact H) | (have H2_ := (Option.bind_some _ _).symm.trans H; rw [hy108]; with_reducible exact H2_) | (have H2_ := (Option.bind_some _ _).symm.trans H; with_reducible exact H2_) | with_reducible exact H | (rw [hy108]; exact H) | exact H
  have Ny108 := Aside0.mk hy108
  clear hy108
  have H' := Aside0.mk H
  clear H
  go_enter Tryd.func41, Tryd.ntmps41
  go_wp2_with (first | ((with_reducible refine gate_dst (N := 6) rfl ?_); refine Kd.R_lit (Kd.int .u8) _ 5 ?hg (N := 6) ?hd (xs := ([] : List Int)) (inner := []) (ok := fun _ => True) (okp := fun _ => True) ?hr ?hp (fun _ hk => hk) trivial (Below.refl _ _) (Nat.le_refl _) (by simp) ?_; (case hd => rfl); (case hg => rfl); (case hr => first | (go_simp; done) | (go_simp; rfl)); (case hp => exact (Reps.none _ _)); intro v109 w2 ho3 hb hg_ hnew_; clear hg_ hnew_; (first | rw [← Ny108.out] at ho3 | (simp only [Int.reduceToNat] at ho3; rw [← Ny108.out] at ho3)); have n0_ := Aside0.mk (Kd.R_lower ho3 (below_size (by repeat (first | (with_reducible first | exact HB.out | apply below_alloc | apply pw_below_drewN | apply below_drew1) | exact HB.out)))); have n1_ := Aside0.mk (below_step (by repeat (first | (with_reducible first | exact HB.out | apply below_alloc | apply pw_below_drewN | apply below_drew1) | exact HB.out)) hb); clear HB; have HO110 := n0_; have HB := n1_; clear n0_ n1_; clear hb ho3))
  go_loopg [3, 9] k (fun kq v3 v9 w' => ∃ (x3_1 : List Int) (x9_1 : Int), v9 = .int .i64 x9_1 ∧ Aside0 (spec_l02Join.l0 kq x3_1 l0 (l0.length : Int) x9_1 = some r) ∧ Aside0 (kq ≤ k) ∧ Aside0 (Kd.R (Kd.int .u8) 5 w' w.heap.size (fun _ => True) v3 x3_1) ∧ Aside0 (Below w.heap.size w w'))
  case atStart => exact ⟨(y108), (0), (by first | rfl | (simp; done) | (simp [*]; done)), H', ⟨Nat.le_refl _⟩, ⟨by (with_reducible repeat (first | apply Kd.R_alloc | apply Kd.R_drewN | apply Kd.R_drew)); exact HO110.out⟩, ⟨by repeat (first | (with_reducible first | exact HB.out | apply below_alloc | apply pw_below_drewN | apply below_drew1) | exact HB.out)⟩⟩
  case round =>
    clear H'
    try clear p2
    obtain ⟨x3_1, x9_1, rfl, HA, HK1, HO_3, HB⟩ := hrel
    cases gk with
    | zero => exact absurd HA.out (by simp [spec_l02Join.l0])
    | succ k1 =>
      have H := HA.out
      clear HA
      simp only [spec_l02Join.l0] at H
      by_cases c4 : x9_1 < (l0.length : Int)
      · rw [if_pos c4] at H
        have c4b0 : decide (x9_1 < (l0.length : Int)) = true := decide_eq_true c4
        clear c4
        by_cases c5 : 0 ≤ x9_1
        · rw [if_pos c5] at H
          have c5b0 : decide (0 ≤ x9_1) = true := decide_eq_true c5
          clear c5
          by_cases c6 : x9_1 < (l0.length : Int)
          · rw [if_pos c6] at H
            have c6b0 : decide (x9_1 < (l0.length : Int)) = true := decide_eq_true c6
            clear c6
            by_cases c7 : x3_1.length + (rd_L1 l0 x9_1).length < 140737488355328
            · rw [if_pos c7] at H
              have LMc7 := Aside0.mk c7
              clear c7
              obtain ⟨y112, hy112⟩ : ∃ y_ : List Int, y_ = (x3_1 ++ (rd_L1 l0 x9_1)) := ⟨_, rfl⟩
              replace H : (spec_l02Join.l0 k1 y112 l0 (l0.length : Int) (wrap64 (x9_1 + 1))) = some r := by first | (rw [hy112]; with_reducible exact H) | (have H2_ := (Option.bind_some _ _).symm.trans H; rw [hy112]; with_reducible exact H2_) | (have H2_ := (Option.bind_some _ _).symm.trans H; with_reducible exact H2_) | with_reducible exact H | (rw [hy112]; exact H) | exact H
              have Ny112 := Aside0.mk hy112
              clear hy112
              have H' := Aside0.mk H
              clear H
              have p111 : 0 ≤ (x9_1 : Int) := of_decide_eq_true (by first | (with_reducible assumption) | assumption)
              have q111 : x9_1 < (l0.length : Int) := of_decide_eq_true (by first | (with_reducible assumption) | assumption)
              obtain ⟨ad111, A111_0, c111_0, e111, hx111_0, hl111_0, hi111_0⟩ := at_L1 HR0.out x9_1 p111 q111
              cases e111
              replace hx111_0 := (HB.out.cell (World.block_lt_of_cell? w _ hx111_0)).trans hx111_0
              have HR111_0 := Aside0.mk hi111_0
              have HC111_0 := Aside0.mk hl111_0
              clear hi111_0 hl111_0
              replace p111 := eq_true p111
              replace q111 := eq_true q111
              go_wp2_with (first | ((with_reducible refine gate_builtin (b := .append) (xs := #[.tmp 13, .tmp 14]) rfl ?_); at_builtin; refine Kd.R_append_rows (Kd.int .u8) (w0 := w) w.heap.size rfl (.tmp 13) (.tmp 14) 28 5 (.int .u8 0) 1 rfl Tryd.underlying28 info5 rfl (by decide) (by omega) u3 x3_1 (rd_L1 l0 x9_1) _ _ _ (fun _ => True) (fun _ => False) rfl rfl ?aO ?aR (fun _ _ h => h) (fun _ h => h.elim) ?aF ?aB ?aS ?aL ?_; (case aR => repeat (first | exact (Kd.C_below HR111_0.out HB.out) | (with_reducible refine Kd.C_alloc ?_ _) | (with_reducible refine Kd.C_drewN ?_ _) | (with_reducible refine Kd.C_drew ?_))); (case aB => exact (by repeat (first | (with_reducible first | exact HB.out | apply below_alloc | apply pw_below_drewN | apply below_drew1) | exact HB.out))); (case aF => exact (fun _ _ => trivial)); (case aO => exact (by (with_reducible repeat (first | apply Kd.R_alloc | apply Kd.R_drewN | apply Kd.R_drew)); exact HO_3.out)); (case aS => exact (below_size (by repeat (first | (with_reducible first | exact HB.out | apply below_alloc | apply pw_below_drewN | apply below_drew1) | exact HB.out)))); (case aL => have := LMc7.out; omega); intro v113 w8 ho hb hg hat; rw [← Ny112.out] at ho; have n0_ := Aside0.mk (hb); have n1_ := Aside0.mk (ho); clear HB; clear HO_3; have HB := n0_; have HO114 := n1_; clear n0_ n1_; clear ho hb hg hat))
              go_roundg k1
              case measure => have := HK1.out; omega
              case rel => exact ⟨(y112), (wrap64 (x9_1 + 1)), (by first | rfl | (simp; done) | (simp [*]; done)), H', ⟨by have := HK1.out; omega⟩, ⟨by (with_reducible repeat (first | apply Kd.R_alloc | apply Kd.R_drewN | apply Kd.R_drew)); exact HO114.out⟩, ⟨by repeat (first | (with_reducible first | exact HB.out | apply below_alloc | apply pw_below_drewN | apply below_drew1) | exact HB.out)⟩⟩
            · rw [if_neg c7] at H
              exact absurd H (by simp)
          · rw [if_neg c6] at H
            exact absurd H (by simp)
        · rw [if_neg c5] at H
          exact absurd H (by simp)
      · rw [if_neg c4] at H
        have c4b0 : decide (x9_1 < (l0.length : Int)) = false := decide_eq_false c4
        clear c4
        obtain rfl := Option.some.inj H
        go_wp2
        go_ret
        exact ⟨_, by first | rfl | (simp [errW_none, errW_some] <;> rfl) | (simp [*, errW_none, errW_some] <;> rfl), by (with_reducible repeat (first | apply Kd.R_alloc | apply Kd.R_drewN | apply Kd.R_drew)); exact HO_3.out, by repeat (first | (with_reducible first | exact HB.out | apply below_alloc | apply pw_below_drewN | apply below_drew1) | exact HB.out)⟩

/-! ### spec_l02Put: function 42 -/
def spec_l02Put.l0 : Nat → Int → Int → List Int → Int → Option (List Int)
  | 0, _, _, _, _ => none
  | k + 1, x0, x1, x5, x6 => if x6 < x1 then (if x5.length < 140737488355328 then (spec_l02Put.l0 k (wrap64 (Int.tdiv x0 256)) x1 (x5 ++ [(Int.tmod x0 256) % 256]) (wrap64 (x6 + 1))) else (none)) else (some x5)
def spec_l02Put.f (k : Nat) (a0 : Int) (a1 : Int) : Option (List Int) := spec_l02Put.l0 k a0 a1 (([] : List Int)) 0
theorem spec_l02Put.mono_l : ∀ k, (∀ y0 y1 y2 y3, LeO (spec_l02Put.l0 k y0 y1 y2 y3) (spec_l02Put.l0 (k + 1) y0 y1 y2 y3))
  | 0 => fun _ _ _ _ r h => by simp [spec_l02Put.l0] at h
  | k + 1 => by
    have ih0 := spec_l02Put.mono_l k
    · intro y0 y1 y2 y3
      unfold spec_l02Put.l0
      repeat' first
      | (with_reducible exact ih0 _ _ _ _)
      | (with_reducible exact LeO.refl _)
      | (with_reducible exact LeO.none _)
      | (with_reducible refine LeO.ite ?_ ?_)
      | (with_reducible refine LeO.bind ?_ (fun _ => ?_))
      | exact ih0 _ _ _ _
      | exact LeO.none _
      | refine LeO.ite ?_ ?_
      | refine LeO.bind ?_ (fun _ => ?_)
theorem spec_l02Put.mono : ∀ a0 a1 k, LeO (spec_l02Put.f k a0 a1) (spec_l02Put.f (k + 1) a0 a1) := by
  intro a0 a1 k
  have ih0 := spec_l02Put.mono_l k
  unfold spec_l02Put.f
  repeat' first
      | (with_reducible exact ih0 _ _ _ _)
      | (with_reducible exact LeO.refl _)
      | (with_reducible exact LeO.none _)
      | (with_reducible refine LeO.ite ?_ ?_)
      | (with_reducible refine LeO.bind ?_ (fun _ => ?_))
      | exact ih0 _ _ _ _
      | exact LeO.none _
      | refine LeO.ite ?_ ?_
      | refine LeO.bind ?_ (fun _ => ?_)
set_option maxHeartbeats 8000000 in
set_option maxRecDepth 100000 in
theorem spec_l02Put.calls (k : Nat) (a0 : Int) (a1 : Int) (r : List Int) (w : World) (h : spec_l02Put.f k a0 a1 = some r) :
    Calls Tryd.prog 42 #[.int .i64 a0, .int .i64 a1] w fun e w' => ∃ v0_ : Value, e = .returned (v0_) ∧ Kd.R (Kd.int .u8) 5 w' w.heap.size (fun _ => True) v0_ r ∧ Below w.heap.size w w' := by
  have HB := Aside0.mk (Below.refl w.heap.size w)
  have H : (spec_l02Put.l0 k a0 a1 (([] : List Int)) 0) = some r := h
  clear h
  obtain ⟨y115, hy115⟩ : ∃ y_ : List Int, y_ = (([] : List Int)) := ⟨_, rfl⟩
  replace H : (spec_l02Put.l0 k a0 a1 y115 0) = some r := by first | (rw [hy115]; with_reducible exact H) | (have H2_ := (Option.bind_some _ _).symm.trans H; rw [hy115]; with_reducible exact H2_) | (have H2_ := (Option.bind_some _ _).symm.trans H; with_reducible exact H2_) | with_reducible exact H | (rw [hy115]; exact H) | exact H
  have Ny115 := Aside0.mk hy115
  clear hy115
  have H' := Aside0.mk H
  clear H
  go_enter Tryd.func42, Tryd.ntmps42
  go_wp2_with (first | ((with_reducible refine gate_dst (N := 7) rfl ?_); refine Kd.R_lit (Kd.int .u8) _ 5 ?hg (N := 7) ?hd (xs := ([] : List Int)) (inner := []) (ok := fun _ => True) (okp := fun _ => True) ?hr ?hp (fun _ hk => hk) trivial (Below.refl _ _) (Nat.le_refl _) (by simp) ?_; (case hd => rfl); (case hg => rfl); (case hr => first | (go_simp; done) | (go_simp; rfl)); (case hp => exact (Reps.none _ _)); intro v116 w3 ho4 hb hg_ hnew_; clear hg_ hnew_; (first | rw [← Ny115.out] at ho4 | (simp only [Int.reduceToNat] at ho4; rw [← Ny115.out] at ho4)); have n0_ := Aside0.mk (Kd.R_lower ho4 (below_size (by repeat (first | (with_reducible first | exact HB.out | apply below_alloc | apply pw_below_drewN | apply below_drew1) | exact HB.out)))); have n1_ := Aside0.mk (below_step (by repeat (first | (with_reducible first | exact HB.out | apply below_alloc | apply pw_below_drewN | apply below_drew1) | exact HB.out)) hb); clear HB; have HO117 := n0_; have HB := n1_; clear n0_ n1_; clear hb ho4))
  go_loopg [0, 5, 6] k (fun kq v0 v5 v6 w' => ∃ (x0_1 : Int) (x5_1 : List Int) (x6_1 : Int), v0 = .int .i64 x0_1 ∧ v6 = .int .i64 x6_1 ∧ Aside0 (spec_l02Put.l0 kq x0_1 a1 x5_1 x6_1 = some r) ∧ Aside0 (kq ≤ k) ∧ Aside0 (Kd.R (Kd.int .u8) 5 w' w.heap.size (fun _ => True) v5 x5_1) ∧ Aside0 (Below w.heap.size w w'))
  case atStart => exact ⟨(a0), (y115), (0), (by first | rfl | (simp; done) | (simp [*]; done)), (by first | rfl | (simp; done) | (simp [*]; done)), H', ⟨Nat.le_refl _⟩, ⟨by (with_reducible repeat (first | apply Kd.R_alloc | apply Kd.R_drewN | apply Kd.R_drew)); exact HO117.out⟩, ⟨by repeat (first | (with_reducible first | exact HB.out | apply below_alloc | apply pw_below_drewN | apply below_drew1) | exact HB.out)⟩⟩
  case round =>
    clear H'
    try clear p2
    try clear c4
    obtain ⟨x0_1, x5_1, x6_1, rfl, rfl, HA, HK1, HO_5, HB⟩ := hrel
    cases gk with
    | zero => exact absurd HA.out (by simp [spec_l02Put.l0])
    | succ k1 =>
      have H := HA.out
      clear HA
      simp only [spec_l02Put.l0] at H
      by_cases c5 : x6_1 < a1
      · rw [if_pos c5] at H
        have c5b0 : decide (x6_1 < a1) = true := decide_eq_true c5
        clear c5
        by_cases c6 : x5_1.length < 140737488355328
        · rw [if_pos c6] at H
          have LMc6 := Aside0.mk c6
          clear c6
          obtain ⟨y118, hy118⟩ : ∃ y_ : List Int, y_ = (x5_1 ++ [(Int.tmod x0_1 256) % 256]) := ⟨_, rfl⟩
          replace H : (spec_l02Put.l0 k1 (wrap64 (Int.tdiv x0_1 256)) a1 y118 (wrap64 (x6_1 + 1))) = some r := by first | (rw [hy118]; with_reducible exact H) | (have H2_ := (Option.bind_some _ _).symm.trans H; rw [hy118]; with_reducible exact H2_) | (have H2_ := (Option.bind_some _ _).symm.trans H; with_reducible exact H2_) | with_reducible exact H | (rw [hy118]; exact H) | exact H
          have Ny118 := Aside0.mk hy118
          clear hy118
          have H' := Aside0.mk H
          clear H
          go_wp2_with (first | ((with_reducible refine gate_builtin (b := .append) (xs := #[.tmp 13, .tmp 17]) rfl ?_); at_builtin; refine Kd.R_append (Kd.int .u8) (w0 := w) w.heap.size rfl (.tmp 13) (.tmp 17) 28 5 (.int .u8 0) 1 rfl Tryd.underlying28 info5 rfl (by decide) (by omega) u5 x5_1 ((Int.tmod x0_1 256) % 256) [.int .u8 ((Int.tmod x0_1 256) % 256)] (fun _ => True) (fun _ => False) rfl rfl ?aP (fun _ hk => hk.elim) ?aF ?aO ?aB ?aS ?aL ?_; (case aP => exact rfl); (case aB => exact (by repeat (first | (with_reducible first | exact HB.out | apply below_alloc | apply pw_below_drewN | apply below_drew1) | exact HB.out))); (case aF => exact (fun _ _ => trivial)); (case aO => exact (by (with_reducible repeat (first | apply Kd.R_alloc | apply Kd.R_drewN | apply Kd.R_drew)); exact HO_5.out)); (case aS => exact (below_size (by repeat (first | (with_reducible first | exact HB.out | apply below_alloc | apply pw_below_drewN | apply below_drew1) | exact HB.out)))); (case aL => have := LMc6.out; omega); intro v119 w7 ho hb hg hat; rw [← Ny118.out] at ho; have n0_ := Aside0.mk (hb); have n1_ := Aside0.mk (ho); clear HB; clear HO_5; have HB := n0_; have HO120 := n1_; clear n0_ n1_; clear ho hb hg hat))
          go_roundg k1
          case measure => have := HK1.out; omega
          case rel => exact ⟨(wrap64 (Int.tdiv x0_1 256)), (y118), (wrap64 (x6_1 + 1)), (by first | rfl | (simp; done) | (simp [*]; done)), (by first | rfl | (simp; done) | (simp [*]; done)), H', ⟨by have := HK1.out; omega⟩, ⟨by (with_reducible repeat (first | apply Kd.R_alloc | apply Kd.R_drewN | apply Kd.R_drew)); exact HO120.out⟩, ⟨by repeat (first | (with_reducible first | exact HB.out | apply below_alloc | apply pw_below_drewN | apply below_drew1) | exact HB.out)⟩⟩
        · rw [if_neg c6] at H
          exact absurd H (by simp)
      · rw [if_neg c5] at H
        have c5b0 : decide (x6_1 < a1) = false := decide_eq_false c5
        clear c5
        obtain rfl := Option.some.inj H
        go_wp2
        go_ret
        exact ⟨_, by first | rfl | (simp [errW_none, errW_some] <;> rfl) | (simp [*, errW_none, errW_some] <;> rfl), by (with_reducible repeat (first | apply Kd.R_alloc | apply Kd.R_drewN | apply Kd.R_drew)); exact HO_5.out, by repeat (first | (with_reducible first | exact HB.out | apply below_alloc | apply pw_below_drewN | apply below_drew1) | exact HB.out)⟩

/-! ### spec_l02Fill: function 43 -/
def spec_l02Fill.l0 : Nat → Int → List Int → Option (List Int)
  | 0, _, _ => none
  | k + 1, x1, x5 => if (x5.length : Int) < x1 then (if x5.length < 140737488355328 then (spec_l02Fill.l0 k x1 (x5 ++ [0])) else (none)) else (some x5)
def spec_l02Fill.f (k : Nat) (l0 : List Int) (a1 : Int) : Option (List Int) := (some (([] : List Int) : List Int)).bind fun y121 => (if y121.length + l0.length < 140737488355328 then (spec_l02Fill.l0 k a1 (y121 ++ l0)) else (none))
theorem spec_l02Fill.mono_l : ∀ k, (∀ y0 y1, LeO (spec_l02Fill.l0 k y0 y1) (spec_l02Fill.l0 (k + 1) y0 y1))
  | 0 => fun _ _ r h => by simp [spec_l02Fill.l0] at h
  | k + 1 => by
    have ih0 := spec_l02Fill.mono_l k
    · intro y0 y1
      unfold spec_l02Fill.l0
      repeat' first
      | (with_reducible exact ih0 _ _)
      | (with_reducible exact LeO.refl _)
      | (with_reducible exact LeO.none _)
      | (with_reducible refine LeO.ite ?_ ?_)
      | (with_reducible refine LeO.bind ?_ (fun _ => ?_))
      | exact ih0 _ _
      | exact LeO.none _
      | refine LeO.ite ?_ ?_
      | refine LeO.bind ?_ (fun _ => ?_)
theorem spec_l02Fill.mono : ∀ a0 a1 k, LeO (spec_l02Fill.f k a0 a1) (spec_l02Fill.f (k + 1) a0 a1) := by
  intro a0 a1 k
  have ih0 := spec_l02Fill.mono_l k
  unfold spec_l02Fill.f
  repeat' first
      | (with_reducible exact ih0 _ _)
      | (with_reducible exact LeO.refl _)
      | (with_reducible exact LeO.none _)
      | (with_reducible refine LeO.ite ?_ ?_)
      | (with_reducible refine LeO.bind ?_ (fun _ => ?_))
      | exact ih0 _ _
      | exact LeO.none _
      | refine LeO.ite ?_ ?_
      | refine LeO.bind ?_ (fun _ => ?_)
set_option maxHeartbeats 8000000 in
set_option maxRecDepth 100000 in
theorem spec_l02Fill.calls (k : Nat) (A0 : Option Addr) (c0 : Nat) (l0 : List Int) (a1 : Int) (r : List Int) (w : World) (hr0 : Kd.C (Kd.int .u8) w A0 l0.length l0) (hc0 : l0.length ≤ c0) (h : spec_l02Fill.f k l0 a1 = some r) :
    Calls Tryd.prog 43 #[.slice A0 l0.length c0, .int .i64 a1] w fun e w' => ∃ v0_ : Value, e = .returned (v0_) ∧ Kd.R (Kd.int .u8) 5 w' w.heap.size (fun _ => True) v0_ r ∧ Below w.heap.size w w' := by
  have HR0 := Aside0.mk hr0
  have HC0 := Aside0.mk hc0
  clear hr0 hc0
  have HB := Aside0.mk (Below.refl w.heap.size w)
  have H : ((some (([] : List Int) : List Int)).bind fun y121 => (if y121.length + l0.length < 140737488355328 then (spec_l02Fill.l0 k a1 (y121 ++ l0)) else (none))) = some r := h
  clear h
  obtain ⟨y121, hy121⟩ : ∃ y_ : List Int, y_ = (([] : List Int)) := ⟨_, rfl⟩
  replace H : (if y121.length + l0.length < 140737488355328 then (spec_l02Fill.l0 k a1 (y121 ++ l0)) else (none)) = some r := by first | (rw [hy121]; with_reducible exact H) | (have H2_ := (Option.bind_some _ _).symm.trans H; rw [hy121]; with_reducible exact H2_) | (have H2_ := (Option.bind_some _ _).symm.trans H; with_reducible exact H2_) | with_reducible exact H | (rw [hy121]; exact H) | exact H
  have Ny121 := Aside0.mk hy121
  clear hy121
  by_cases c3 : y121.length + l0.length < 140737488355328
  · rw [if_pos c3] at H
    have LMc3 := Aside0.mk c3
    clear c3
    obtain ⟨y124, hy124⟩ : ∃ y_ : List Int, y_ = (y121 ++ l0) := ⟨_, rfl⟩
    replace H : (spec_l02Fill.l0 k a1 y124) = some r := by first | (rw [hy124]; with_reducible exact H) | (have H2_ := (Option.bind_some _ _).symm.trans H; rw [hy124]; with_reducible exact H2_) | (have H2_ := (Option.bind_some _ _).symm.trans H; with_reducible exact H2_) | with_reducible exact H | (rw [hy124]; exact H) | exact H
    have Ny124 := Aside0.mk hy124
    clear hy124
    have H' := Aside0.mk H
    clear H
    go_enter Tryd.func43, Tryd.ntmps43
    go_wp2_with (first | ((with_reducible refine gate_dst (N := 6) rfl ?_); refine Kd.R_lit (Kd.int .u8) _ 5 ?hg (N := 6) ?hd (xs := ([] : List Int)) (inner := []) (ok := fun _ => True) (okp := fun _ => True) ?hr ?hp (fun _ hk => hk) trivial (Below.refl _ _) (Nat.le_refl _) (by simp) ?_; (case hd => rfl); (case hg => rfl); (case hr => first | (go_simp; done) | (go_simp; rfl)); (case hp => exact (Reps.none _ _)); intro v122 w4 ho5 hb hg_ hnew_; clear hg_ hnew_; (first | rw [← Ny121.out] at ho5 | (simp only [Int.reduceToNat] at ho5; rw [← Ny121.out] at ho5)); have n0_ := Aside0.mk (Kd.R_lower ho5 (below_size (by repeat (first | (with_reducible first | exact HB.out | apply below_alloc | apply pw_below_drewN | apply below_drew1) | exact HB.out)))); have n1_ := Aside0.mk (below_step (by repeat (first | (with_reducible first | exact HB.out | apply below_alloc | apply pw_below_drewN | apply below_drew1) | exact HB.out)) hb); clear HB; have HO123 := n0_; have HB := n1_; clear n0_ n1_; clear hb ho5) | ((with_reducible refine gate_builtin (b := .append) (xs := #[.tmp 6, .tmp 7]) rfl ?_); at_builtin; refine Kd.R_append_rows (Kd.int .u8) (w0 := w) w.heap.size rfl (.tmp 6) (.tmp 7) 28 5 (.int .u8 0) 1 rfl Tryd.underlying28 info5 rfl (by decide) (by omega) v122 y121 l0 _ _ _ (fun _ => True) (fun _ => False) rfl rfl ?aO ?aR (fun _ _ h => h) (fun _ h => h.elim) ?aF ?aB ?aS ?aL ?_; (case aR => repeat (first | exact (Kd.C_below HR0.out HB.out) | (with_reducible refine Kd.C_alloc ?_ _) | (with_reducible refine Kd.C_drewN ?_ _) | (with_reducible refine Kd.C_drew ?_))); (case aB => exact (by repeat (first | (with_reducible first | exact HB.out | apply below_alloc | apply pw_below_drewN | apply below_drew1) | exact HB.out))); (case aF => exact (fun _ _ => trivial)); (case aO => exact (by (with_reducible repeat (first | apply Kd.R_alloc | apply Kd.R_drewN | apply Kd.R_drew)); exact HO123.out)); (case aS => exact (below_size (by repeat (first | (with_reducible first | exact HB.out | apply below_alloc | apply pw_below_drewN | apply below_drew1) | exact HB.out)))); (case aL => have := LMc3.out; omega); intro v125 w6 ho hb hg hat; rw [← Ny124.out] at ho; have n0_ := Aside0.mk (hb); have n1_ := Aside0.mk (ho); clear HB; clear HO123; have HB := n0_; have HO126 := n1_; clear n0_ n1_; clear ho hb hg hat))
    go_loopg [5] k (fun kq v5 w' => ∃ (x5_1 : List Int), Aside0 (spec_l02Fill.l0 kq a1 x5_1 = some r) ∧ Aside0 (kq ≤ k) ∧ Aside0 (Kd.R (Kd.int .u8) 5 w' w.heap.size (fun _ => True) v5 x5_1) ∧ Aside0 (Below w.heap.size w w'))
    case atStart => exact ⟨(y124), H', ⟨Nat.le_refl _⟩, ⟨by (with_reducible repeat (first | apply Kd.R_alloc | apply Kd.R_drewN | apply Kd.R_drew)); exact HO126.out⟩, ⟨by repeat (first | (with_reducible first | exact HB.out | apply below_alloc | apply pw_below_drewN | apply below_drew1) | exact HB.out)⟩⟩
    case round =>
      clear H'
      try clear p2
      try clear c3
      try clear c4
      obtain ⟨x5_1, HA, HK1, HO_5, HB⟩ := hrel
      cases gk with
      | zero => exact absurd HA.out (by simp [spec_l02Fill.l0])
      | succ k1 =>
        have H := HA.out
        clear HA
        simp only [spec_l02Fill.l0] at H
        by_cases c7 : (x5_1.length : Int) < a1
        · rw [if_pos c7] at H
          have c7b0 : decide ((x5_1.length : Int) < a1) = true := decide_eq_true c7
          clear c7
          by_cases c8 : x5_1.length < 140737488355328
          · rw [if_pos c8] at H
            have LMc8 := Aside0.mk c8
            clear c8
            obtain ⟨y127, hy127⟩ : ∃ y_ : List Int, y_ = (x5_1 ++ [0]) := ⟨_, rfl⟩
            replace H : (spec_l02Fill.l0 k1 a1 y127) = some r := by first | (rw [hy127]; with_reducible exact H) | (have H2_ := (Option.bind_some _ _).symm.trans H; rw [hy127]; with_reducible exact H2_) | (have H2_ := (Option.bind_some _ _).symm.trans H; with_reducible exact H2_) | with_reducible exact H | (rw [hy127]; exact H) | exact H
            have Ny127 := Aside0.mk hy127
            clear hy127
            have H' := Aside0.mk H
            clear H
            obtain ⟨Ao9, co9, eo9⟩ := Kd.R_slice HO_5.out
            subst eo9
            go_wp2_with (first | ((with_reducible refine gate_builtin (b := .append) (xs := #[.tmp 13, .tmp 14]) rfl ?_); at_builtin; refine Kd.R_append (Kd.int .u8) (w0 := w) w.heap.size rfl (.tmp 13) (.tmp 14) 28 5 (.int .u8 0) 1 rfl Tryd.underlying28 info5 rfl (by decide) (by omega) (.slice Ao9 x5_1.length co9) x5_1 0 [.int .u8 0] (fun _ => True) (fun _ => False) rfl rfl ?aP (fun _ hk => hk.elim) ?aF ?aO ?aB ?aS ?aL ?_; (case aP => exact rfl); (case aB => exact (by repeat (first | (with_reducible first | exact HB.out | apply below_alloc | apply pw_below_drewN | apply below_drew1) | exact HB.out))); (case aF => exact (fun _ _ => trivial)); (case aO => exact (by (with_reducible repeat (first | apply Kd.R_alloc | apply Kd.R_drewN | apply Kd.R_drew)); exact HO_5.out)); (case aS => exact (below_size (by repeat (first | (with_reducible first | exact HB.out | apply below_alloc | apply pw_below_drewN | apply below_drew1) | exact HB.out)))); (case aL => have := LMc8.out; omega); intro v128 w10 ho hb hg hat; rw [← Ny127.out] at ho; have n0_ := Aside0.mk (hb); have n1_ := Aside0.mk (ho); clear HB; clear HO_5; have HB := n0_; have HO129 := n1_; clear n0_ n1_; clear ho hb hg hat))
            go_roundg k1
            case measure => have := HK1.out; omega
            case rel => exact ⟨(y127), H', ⟨by have := HK1.out; omega⟩, ⟨by (with_reducible repeat (first | apply Kd.R_alloc | apply Kd.R_drewN | apply Kd.R_drew)); exact HO129.out⟩, ⟨by repeat (first | (with_reducible first | exact HB.out | apply below_alloc | apply pw_below_drewN | apply below_drew1) | exact HB.out)⟩⟩
          · rw [if_neg c8] at H
            exact absurd H (by simp)
        · rw [if_neg c7] at H
          have c7b0 : decide ((x5_1.length : Int) < a1) = false := decide_eq_false c7
          clear c7
          obtain rfl := Option.some.inj H
          obtain ⟨Ao11, co11, eo11⟩ := Kd.R_slice HO_5.out
          subst eo11
          go_wp2
          go_ret
          exact ⟨_, by first | rfl | (simp [errW_none, errW_some] <;> rfl) | (simp [*, errW_none, errW_some] <;> rfl), by (with_reducible repeat (first | apply Kd.R_alloc | apply Kd.R_drewN | apply Kd.R_drew)); exact HO_5.out, by repeat (first | (with_reducible first | exact HB.out | apply below_alloc | apply pw_below_drewN | apply below_drew1) | exact HB.out)⟩
  · rw [if_neg c3] at H
    exact absurd H (by simp)

/-! ### spec_l02Table: function 94 -/
def spec_l02Table.l0 : Nat → Int → Int → Option (Int)
  | 0, _, _ => none
  | k + 1, x0, x3 => if x3 < 8 then (if (Int.tmod x0 2) = 1 then (spec_l02Table.l0 k (Go.bits .xor .u32 ((Int.tdiv x0 2) % 4294967296) 3988292384) (wrap64 (x3 + 1))) else (spec_l02Table.l0 k ((Int.tdiv x0 2) % 4294967296) (wrap64 (x3 + 1)))) else (some x0)
def spec_l02Table.f (k : Nat) (a0 : Int) : Option (Int) := spec_l02Table.l0 k a0 0
theorem spec_l02Table.mono_l : ∀ k, (∀ y0 y1, LeO (spec_l02Table.l0 k y0 y1) (spec_l02Table.l0 (k + 1) y0 y1))
  | 0 => fun _ _ r h => by simp [spec_l02Table.l0] at h
  | k + 1 => by
    have ih0 := spec_l02Table.mono_l k
    · intro y0 y1
      unfold spec_l02Table.l0
      repeat' first
      | (with_reducible exact ih0 _ _)
      | (with_reducible exact LeO.refl _)
      | (with_reducible exact LeO.none _)
      | (with_reducible refine LeO.ite ?_ ?_)
      | (with_reducible refine LeO.bind ?_ (fun _ => ?_))
      | exact ih0 _ _
      | exact LeO.none _
      | refine LeO.ite ?_ ?_
      | refine LeO.bind ?_ (fun _ => ?_)
theorem spec_l02Table.mono : ∀ a0 k, LeO (spec_l02Table.f k a0) (spec_l02Table.f (k + 1) a0) := by
  intro a0 k
  have ih0 := spec_l02Table.mono_l k
  unfold spec_l02Table.f
  repeat' first
      | (with_reducible exact ih0 _ _)
      | (with_reducible exact LeO.refl _)
      | (with_reducible exact LeO.none _)
      | (with_reducible refine LeO.ite ?_ ?_)
      | (with_reducible refine LeO.bind ?_ (fun _ => ?_))
      | exact ih0 _ _
      | exact LeO.none _
      | refine LeO.ite ?_ ?_
      | refine LeO.bind ?_ (fun _ => ?_)
set_option maxHeartbeats 8000000 in
set_option maxRecDepth 100000 in
theorem spec_l02Table.calls (k : Nat) (a0 : Int) (r : Int) (w : World) (h : spec_l02Table.f k a0 = some r) :
    Calls Tryd.prog 94 #[.int .u32 a0] w fun e w' => e = .returned (.int .u32 r) ∧ Drawn0 w w' := by
  have H : (spec_l02Table.l0 k a0 0) = some r := h
  clear h
  have H' := Aside0.mk H
  clear H
  go_enter Tryd.func94, Tryd.ntmps94
  go_wp2
  go_loopg [0, 3] k (fun kq v0 v3 w' => ∃ (x0_1 : Int) (x3_1 : Int), v0 = .int .u32 x0_1 ∧ v3 = .int .i64 x3_1 ∧ Aside0 (spec_l02Table.l0 kq x0_1 x3_1 = some r) ∧ Aside0 (kq ≤ k) ∧ Drawn0 w w')
  case atStart => exact ⟨(a0), (0), (by first | rfl | (simp; done) | (simp [*]; done)), (by first | rfl | (simp; done) | (simp [*]; done)), H', ⟨Nat.le_refl _⟩, by repeat (first | exact Drawn0.refl _ | apply Drawn0.step)⟩
  case round =>
    clear H'
    obtain ⟨x0_1, x3_1, rfl, rfl, HA, HK1, ⟨m1, rfl⟩⟩ := hrel
    cases gk with
    | zero => exact absurd HA.out (by simp [spec_l02Table.l0])
    | succ k1 =>
      have H := HA.out
      clear HA
      simp only [spec_l02Table.l0] at H
      by_cases c2 : x3_1 < 8
      · rw [if_pos c2] at H
        have c2b0 : decide (x3_1 < 8) = true := decide_eq_true c2
        clear c2
        by_cases c3 : (Int.tmod x0_1 2) = 1
        · rw [if_pos c3] at H
          have c3b0 : ((Int.tmod x0_1 2) == 1) = true := beq_iff_eq.mpr c3
          have c3b1 : ((Int.tmod x0_1 2) != 1) = false := bne_eq_false_iff_eq.mpr c3
          clear c3
          have H' := Aside0.mk H
          clear H
          go_wp2
          go_roundg k1
          case measure => have := HK1.out; omega
          case rel => exact ⟨(Go.bits .xor .u32 ((Int.tdiv x0_1 2) % 4294967296) 3988292384), (wrap64 (x3_1 + 1)), (by first | rfl | (simp; done) | (simp [*]; done)), (by first | rfl | (simp; done) | (simp [*]; done)), H', ⟨by have := HK1.out; omega⟩, by repeat (first | exact Drawn0.refl _ | apply Drawn0.step)⟩
        · rw [if_neg c3] at H
          have c3b0 : ((Int.tmod x0_1 2) == 1) = false := beq_eq_false_iff_ne.mpr c3
          have c3b1 : ((Int.tmod x0_1 2) != 1) = true := bne_iff_ne.mpr c3
          have H' := Aside0.mk H
          clear H
          go_wp2
          go_roundg k1
          case measure => have := HK1.out; omega
          case rel => exact ⟨((Int.tdiv x0_1 2) % 4294967296), (wrap64 (x3_1 + 1)), (by first | rfl | (simp; done) | (simp [*]; done)), (by first | rfl | (simp; done) | (simp [*]; done)), H', ⟨by have := HK1.out; omega⟩, by repeat (first | exact Drawn0.refl _ | apply Drawn0.step)⟩
      · rw [if_neg c2] at H
        have c2b0 : decide (x3_1 < 8) = false := decide_eq_false c2
        clear c2
        obtain rfl := Option.some.inj H
        go_wp2
        go_ret
        exact ⟨by first | rfl | (simp; done) | (simp [*]; done), by repeat (first | exact Drawn0.refl _ | apply Drawn0.step)⟩

/-! ### spec_Crc32: function 74 -/
def spec_Crc32.l0 : Nat → Int → List Int → Int → Int → Option (Int)
  | 0, _, _, _, _ => none
  | k + 1, x3, x6, x7, x8 => if x8 < x7 then (if 0 ≤ x8 then (if x8 < (x6.length : Int) then ((spec_l02Table.f k (Int.tmod (Go.bits .xor .u32 x3 ((rd x6 x8) % 4294967296)) 256)).bind fun t131 => (spec_Crc32.l0 k (Go.bits .xor .u32 ((Int.tdiv x3 256) % 4294967296) t131) x6 x7 (wrap64 (x8 + 1)))) else (none)) else (none)) else (some (Go.bits .xor .u32 x3 4294967295))
def spec_Crc32.f (k : Nat) (l0 : List Int) : Option (Int) := spec_Crc32.l0 k 4294967295 l0 (l0.length : Int) 0
theorem spec_Crc32.mono_l : ∀ k, (∀ y0 y1 y2 y3, LeO (spec_Crc32.l0 k y0 y1 y2 y3) (spec_Crc32.l0 (k + 1) y0 y1 y2 y3))
  | 0 => fun _ _ _ _ r h => by simp [spec_Crc32.l0] at h
  | k + 1 => by
    have ih0 := spec_Crc32.mono_l k
    · intro y0 y1 y2 y3
      unfold spec_Crc32.l0
      repeat' first
      | (with_reducible exact ih0 _ _ _ _)
      | (with_reducible exact spec_l02Table.mono _ _)
      | (with_reducible exact LeO.refl _)
      | (with_reducible exact LeO.none _)
      | (with_reducible refine LeO.ite ?_ ?_)
      | (with_reducible refine LeO.bind ?_ (fun _ => ?_))
      | exact ih0 _ _ _ _
      | exact spec_l02Table.mono _ _
      | exact LeO.none _
      | refine LeO.ite ?_ ?_
      | refine LeO.bind ?_ (fun _ => ?_)
theorem spec_Crc32.mono : ∀ a0 k, LeO (spec_Crc32.f k a0) (spec_Crc32.f (k + 1) a0) := by
  intro a0 k
  have ih0 := spec_Crc32.mono_l k
  unfold spec_Crc32.f
  repeat' first
      | (with_reducible exact ih0 _ _ _ _)
      | (with_reducible exact spec_l02Table.mono _ _)
      | (with_reducible exact LeO.refl _)
      | (with_reducible exact LeO.none _)
      | (with_reducible refine LeO.ite ?_ ?_)
      | (with_reducible refine LeO.bind ?_ (fun _ => ?_))
      | exact ih0 _ _ _ _
      | exact spec_l02Table.mono _ _
      | exact LeO.none _
      | refine LeO.ite ?_ ?_
      | refine LeO.bind ?_ (fun _ => ?_)
set_option maxHeartbeats 8000000 in
set_option maxRecDepth 100000 in
theorem spec_Crc32.calls (k : Nat) (A0 : Option Addr) (c0 : Nat) (l0 : List Int) (r : Int) (w : World) (hr0 : Kd.C (Kd.int .u8) w A0 l0.length l0) (hc0 : l0.length ≤ c0) (h : spec_Crc32.f k l0 = some r) :
    Calls Tryd.prog 74 #[.slice A0 l0.length c0] w fun e w' => e = .returned (.int .u32 r) ∧ Drawn0 w w' := by
  have HR0 := Aside0.mk hr0
  have HC0 := Aside0.mk hc0
  clear hr0 hc0
  have H : (spec_Crc32.l0 k 4294967295 l0 (l0.length : Int) 0) = some r := h
  clear h
  have H' := Aside0.mk H
  clear H
  go_enter Tryd.func74, Tryd.ntmps74
  go_wp2
  go_loopg [3, 8] k (fun kq v3 v8 w' => ∃ (x3_1 : Int) (x8_1 : Int), v3 = .int .u32 x3_1 ∧ v8 = .int .i64 x8_1 ∧ Aside0 (spec_Crc32.l0 kq x3_1 l0 (l0.length : Int) x8_1 = some r) ∧ Aside0 (kq ≤ k) ∧ Drawn0 w w')
  case atStart => exact ⟨(4294967295), (0), (by first | rfl | (simp; done) | (simp [*]; done)), (by first | rfl | (simp; done) | (simp [*]; done)), H', ⟨Nat.le_refl _⟩, by repeat (first | exact Drawn0.refl _ | apply Drawn0.step)⟩
  case round =>
    clear H'
    obtain ⟨x3_1, x8_1, rfl, rfl, HA, HK1, ⟨m1, rfl⟩⟩ := hrel
    cases gk with
    | zero => exact absurd HA.out (by simp [spec_Crc32.l0])
    | succ k1 =>
      have H := HA.out
      clear HA
      simp only [spec_Crc32.l0] at H
      by_cases c2 : x8_1 < (l0.length : Int)
      · rw [if_pos c2] at H
        have c2b0 : decide (x8_1 < (l0.length : Int)) = true := decide_eq_true c2
        clear c2
        by_cases c3 : 0 ≤ x8_1
        · rw [if_pos c3] at H
          have c3b0 : decide (0 ≤ x8_1) = true := decide_eq_true c3
          clear c3
          by_cases c4 : x8_1 < (l0.length : Int)
          · rw [if_pos c4] at H
            have c4b0 : decide (x8_1 < (l0.length : Int)) = true := decide_eq_true c4
            clear c4
            replace H := Option.bind_eq_some_iff.mp H
            obtain ⟨t131, A50, H⟩ := H
            replace H : (spec_Crc32.l0 k1 (Go.bits .xor .u32 ((Int.tdiv x3_1 256) % 4294967296) t131) l0 (l0.length : Int) (wrap64 (x8_1 + 1))) = some r := H
            have A5 := Aside0.mk A50
            clear A50
            have H' := Aside0.mk H
            clear H
            have p130 : 0 ≤ (x8_1 : Int) := of_decide_eq_true (by first | (with_reducible assumption) | assumption)
            have q130 : x8_1 < (l0.length : Int) := of_decide_eq_true (by first | (with_reducible assumption) | assumption)
            obtain ⟨ad130, e130, hx130_0⟩ := Kd.at_int HR0.out x8_1 p130 q130
            cases e130
            replace p130 := eq_true p130
            replace q130 := eq_true q130
            go_wp2_with (first | ((with_reducible refine gate_callee (f := 94) rfl ?_); refine goesL_ (some 19) rfl rfl Tryd.func94 (by kernel_rfl) rfl #[.int .u32 (Int.tmod (Go.bits .xor .u32 x3_1 ((rd l0 x8_1) % 4294967296)) 256)] rfl (by (try simp only [List.map_toArray, List.map_cons, List.map_nil]); first | done | rfl | (simp only [List.length_drop, List.length_take]; rfl)) ?_; (with_reducible refine (spec_l02Table.calls k1 (Int.tmod (Go.bits .xor .u32 x3_1 ((rd l0 x8_1) % 4294967296)) 256) t131 _ A5.out).mono ?_); rintro e w' ⟨rfl, ⟨nd, rfl⟩⟩; refine ⟨_, rfl, ?_⟩))
            go_roundg k1
            case measure => have := HK1.out; omega
            case rel => exact ⟨(Go.bits .xor .u32 ((Int.tdiv x3_1 256) % 4294967296) t131), (wrap64 (x8_1 + 1)), (by first | rfl | (simp; done) | (simp [*]; done)), (by first | rfl | (simp; done) | (simp [*]; done)), H', ⟨by have := HK1.out; omega⟩, by repeat (first | exact Drawn0.refl _ | apply Drawn0.step)⟩
          · rw [if_neg c4] at H
            exact absurd H (by simp)
        · rw [if_neg c3] at H
          exact absurd H (by simp)
      · rw [if_neg c2] at H
        have c2b0 : decide (x8_1 < (l0.length : Int)) = false := decide_eq_false c2
        clear c2
        obtain rfl := Option.some.inj H
        go_wp2
        go_ret
        exact ⟨by first | rfl | (simp; done) | (simp [*]; done), by repeat (first | exact Drawn0.refl _ | apply Drawn0.step)⟩

/-! ### spec_l02Sealed: function 44 -/
def spec_l02Sealed.f (k : Nat) (l0 : List Int) : Option (List Int) := (spec_l02Fill.f k l0 508).bind fun t132 => ((spec_Crc32.f k t132).bind fun t135 => ((spec_l02Put.f k (wrap64 (t135)) 4).bind fun t136 => (if t132.length + t136.length < 140737488355328 then (some (t132 ++ t136)) else (none))))
theorem spec_l02Sealed.mono : ∀ a0 k, LeO (spec_l02Sealed.f k a0) (spec_l02Sealed.f (k + 1) a0) := by
  intro a0 k
  unfold spec_l02Sealed.f
  repeat' first
      | (with_reducible exact spec_Crc32.mono _ _)
      | (with_reducible exact spec_l02Fill.mono _ _ _)
      | (with_reducible exact spec_l02Put.mono _ _ _)
      | (with_reducible exact LeO.refl _)
      | (with_reducible exact LeO.none _)
      | (with_reducible refine LeO.ite ?_ ?_)
      | (with_reducible refine LeO.bind ?_ (fun _ => ?_))
      | exact spec_Crc32.mono _ _
      | exact spec_l02Fill.mono _ _ _
      | exact spec_l02Put.mono _ _ _
      | exact LeO.none _
      | refine LeO.ite ?_ ?_
      | refine LeO.bind ?_ (fun _ => ?_)
set_option maxHeartbeats 8000000 in
set_option maxRecDepth 100000 in
theorem spec_l02Sealed.calls (k : Nat) (A0 : Option Addr) (c0 : Nat) (l0 : List Int) (r : List Int) (w : World) (hr0 : Kd.C (Kd.int .u8) w A0 l0.length l0) (hc0 : l0.length ≤ c0) (h : spec_l02Sealed.f k l0 = some r) :
    Calls Tryd.prog 44 #[.slice A0 l0.length c0] w fun e w' => ∃ v0_ : Value, e = .returned (v0_) ∧ Kd.R (Kd.int .u8) 5 w' w.heap.size (fun _ => True) v0_ r ∧ Below w.heap.size w w' := by
  have HR0 := Aside0.mk hr0
  have HC0 := Aside0.mk hc0
  clear hr0 hc0
  have HB := Aside0.mk (Below.refl w.heap.size w)
  have H : ((spec_l02Fill.f k l0 508).bind fun t132 => ((spec_Crc32.f k t132).bind fun t135 => ((spec_l02Put.f k (wrap64 (t135)) 4).bind fun t136 => (if t132.length + t136.length < 140737488355328 then (some (t132 ++ t136)) else (none))))) = some r := h
  clear h
  replace H := Option.bind_eq_some_iff.mp H
  obtain ⟨t132, A20, H⟩ := H
  replace H : ((spec_Crc32.f k t132).bind fun t135 => ((spec_l02Put.f k (wrap64 (t135)) 4).bind fun t136 => (if t132.length + t136.length < 140737488355328 then (some (t132 ++ t136)) else (none)))) = some r := H
  have A2 := Aside0.mk A20
  clear A20
  replace H := Option.bind_eq_some_iff.mp H
  obtain ⟨t135, A30, H⟩ := H
  replace H : ((spec_l02Put.f k (wrap64 (t135)) 4).bind fun t136 => (if t132.length + t136.length < 140737488355328 then (some (t132 ++ t136)) else (none))) = some r := H
  have A3 := Aside0.mk A30
  clear A30
  replace H := Option.bind_eq_some_iff.mp H
  obtain ⟨t136, A40, H⟩ := H
  replace H : (if t132.length + t136.length < 140737488355328 then (some (t132 ++ t136)) else (none)) = some r := H
  have A4 := Aside0.mk A40
  clear A40
  by_cases c5 : t132.length + t136.length < 140737488355328
  · rw [if_pos c5] at H
    have LMc5 := Aside0.mk c5
    clear c5
    obtain ⟨y139, hy139⟩ : ∃ y_ : List Int, y_ = (t132 ++ t136) := ⟨_, rfl⟩
    replace H : (some y139) = some r := by first | (rw [hy139]; with_reducible exact H) | (have H2_ := (Option.bind_some _ _).symm.trans H; rw [hy139]; with_reducible exact H2_) | (have H2_ := (Option.bind_some _ _).symm.trans H; with_reducible exact H2_) | with_reducible exact H | (rw [hy139]; exact H) | exact H
    have Ny139 := Aside0.mk hy139
    clear hy139
    obtain rfl := Option.some.inj H
    go_enter Tryd.func44, Tryd.ntmps44
    go_wp2_with (first | ((with_reducible refine gate_callee (f := 43) rfl ?_); refine goesL_ (some 5) rfl rfl Tryd.func43 (by kernel_rfl) rfl #[.slice A0 l0.length c0, .int .i64 508] rfl (by (try simp only [List.map_toArray, List.map_cons, List.map_nil]); first | done | rfl | (simp only [List.length_drop, List.length_take]; rfl)) ?_; (with_reducible refine (spec_l02Fill.calls k _ _ l0 508 t132 _ ?side1 ?side2 A2.out).mono ?_); (case side1 => repeat (first | exact HR0.out | (with_reducible refine Kd.C_alloc ?_ _) | (with_reducible refine Kd.C_drewN ?_ _) | (with_reducible refine Kd.C_drew ?_))); (case side2 => exact HC0.out); rintro e w6 ⟨v133, rfl, ho0, hb⟩; refine ⟨_, rfl, ?_⟩; have n0_ := Aside0.mk (Kd.R_lower ho0 (below_size (by repeat (first | (with_reducible first | exact HB.out | apply below_alloc | apply pw_below_drewN | apply below_drew1) | exact HB.out)))); have n1_ := Aside0.mk (below_step (by repeat (first | (with_reducible first | exact HB.out | apply below_alloc | apply pw_below_drewN | apply below_drew1) | exact HB.out)) hb); clear HB; have HO134 := n0_; have HB := n1_; clear n0_ n1_; (try clear hb); (try clear hb2); (try clear hk); (try clear hi); (try clear ho0); obtain ⟨Ao7, co7, eo7⟩ := Kd.R_slice HO134.out; subst eo7) | ((with_reducible refine gate_callee (f := 74) rfl ?_); refine goesL_ (some 8) rfl rfl Tryd.func74 (by kernel_rfl) rfl #[.slice Ao7 t132.length co7] rfl (by (try simp only [List.map_toArray, List.map_cons, List.map_nil]); first | done | rfl | (simp only [List.length_drop, List.length_take]; rfl)) ?_; (with_reducible refine (spec_Crc32.calls k _ _ t132 t135 _ ?side1 ?side2 A3.out).mono ?_); (case side1 => repeat (first | exact (Kd.R_reads' HO134.out).2.2 | (with_reducible refine Kd.C_alloc ?_ _) | (with_reducible refine Kd.C_drewN ?_ _) | (with_reducible refine Kd.C_drew ?_))); (case side2 => exact (Kd.R_reads' HO134.out).2.1); rintro e w' ⟨rfl, ⟨nd, rfl⟩⟩; refine ⟨_, rfl, ?_⟩) | ((with_reducible refine gate_callee (f := 42) rfl ?_); refine goesL_ (some 10) rfl rfl Tryd.func42 (by kernel_rfl) rfl #[.int .i64 (wrap64 (t135)), .int .i64 4] rfl (by (try simp only [List.map_toArray, List.map_cons, List.map_nil]); first | done | rfl | (simp only [List.length_drop, List.length_take]; rfl)) ?_; (with_reducible refine (spec_l02Put.calls k (wrap64 (t135)) 4 t136 _ A4.out).mono ?_); rintro e w8 ⟨v137, rfl, ho0, hb⟩; refine ⟨_, rfl, ?_⟩; have n0_ := Aside0.mk (Kd.R_elder' (by (with_reducible repeat (first | apply Kd.R_alloc | apply Kd.R_drewN | apply Kd.R_drew)); exact HO134.out) (Kd.R_base ho0) hb); have n1_ := Aside0.mk (Kd.R_lower (Kd.R_new' ho0 (Kd.R_lt (by (with_reducible repeat (first | apply Kd.R_alloc | apply Kd.R_drewN | apply Kd.R_drew)); exact HO134.out))) (below_size (by repeat (first | (with_reducible first | exact HB.out | apply below_alloc | apply pw_below_drewN | apply below_drew1) | exact HB.out)))); have n2_ := Aside0.mk (below_step (by repeat (first | (with_reducible first | exact HB.out | apply below_alloc | apply pw_below_drewN | apply below_drew1) | exact HB.out)) hb); clear HO134; clear HB; have HO134 := n0_; have HO138 := n1_; have HB := n2_; clear n0_ n1_ n2_; (try clear hb); (try clear hb2); (try clear hk); (try clear hi); (try clear ho0); obtain ⟨Ao10, co10, eo10⟩ := Kd.R_slice HO138.out; subst eo10) | ((with_reducible refine gate_builtin (b := .append) (xs := #[.tmp 6, .tmp 10]) rfl ?_); at_builtin; refine Kd.R_append_rows (Kd.int .u8) (w0 := w) w.heap.size rfl (.tmp 6) (.tmp 10) 28 5 (.int .u8 0) 1 rfl Tryd.underlying28 info5 rfl (by decide) (by omega) (.slice Ao7 t132.length co7) t132 t136 _ _ _ (fun k_ => some k_ ≠ (.slice Ao10 t136.length co10 : Value).ownBlock) (fun _ => False) rfl rfl ?aO ?aR (fun _ _ h => h) (fun _ h => h.elim) ?aF ?aB ?aS ?aL ?_; (case aR => repeat (first | exact (Kd.R_reads' HO138.out).2.2 | (with_reducible refine Kd.C_alloc ?_ _) | (with_reducible refine Kd.C_drewN ?_ _) | (with_reducible refine Kd.C_drew ?_))); (case aB => exact (by repeat (first | (with_reducible first | exact HB.out | apply below_alloc | apply pw_below_drewN | apply below_drew1) | exact HB.out))); (case aF => exact (fun k_ hk => Kd.fresh' (Kd.R_lt (by (with_reducible repeat (first | apply Kd.R_alloc | apply Kd.R_drewN | apply Kd.R_drew)); exact HO138.out)) k_ hk)); (case aO => exact (by (with_reducible repeat (first | apply Kd.R_alloc | apply Kd.R_drewN | apply Kd.R_drew)); exact Kd.R_mono HO134.out (fun _ hk => hk.2))); (case aS => exact (below_size (by repeat (first | (with_reducible first | exact HB.out | apply below_alloc | apply pw_below_drewN | apply below_drew1) | exact HB.out)))); (case aL => have := LMc5.out; omega); intro v140 w9 ho hb hg hat; rw [← Ny139.out] at ho; have n0_ := Aside0.mk (Kd.R_after (ok := (fun _ => True)) (by (with_reducible repeat (first | apply Kd.R_alloc | apply Kd.R_drewN | apply Kd.R_drew)); exact HO138.out) hg hat); have n1_ := Aside0.mk (hb); have n2_ := Aside0.mk (ho); clear HO138; clear HB; clear HO134; have HO138 := n0_; have HB := n1_; have HO141 := n2_; clear n0_ n1_ n2_; clear ho hb hg hat))
    go_ret
    exact ⟨_, by first | rfl | (simp [errW_none, errW_some] <;> rfl) | (simp [*, errW_none, errW_some] <;> rfl), by (with_reducible repeat (first | apply Kd.R_alloc | apply Kd.R_drewN | apply Kd.R_drew)); exact Kd.R_mono HO141.out (fun _ hk => trivial), by repeat (first | (with_reducible first | exact HB.out | apply below_alloc | apply pw_below_drewN | apply below_drew1) | exact HB.out)⟩
  · rw [if_neg c5] at H
    exact absurd H (by simp)

open Go.Proofs.YtkghgjehjchajaaDoorW Go.Proofs.YtkghgjehjchajaaDoorW.PrintHand Go.Proofs.YtkghgjehjchajaaDoorW.PrintHx
/-! ### spec_l02Pointers: function 72 -/
def spec_l02Pointers.f (a0 : List Int) : Option (List Int) := if a0.length = 15 then some (seg a0 1 14) else none
set_option maxHeartbeats 8000000 in
set_option maxRecDepth 100000 in
theorem spec_l02Pointers.calls (a0 : List Int) (n0 : a0.length = 15) (r : List Int) (w : World) (h : spec_l02Pointers.f a0 = some r) :
    Calls Tryd.prog 72 #[.agg (nums .i64 a0).toArray] w fun e w' => ∃ v0_ : Value, e = .returned (v0_) ∧ Kd.R (Kd.int .i64) 3 w' w.heap.size (fun _ => True) v0_ r ∧ Below w.heap.size w w' := by
  unfold spec_l02Pointers.f at h
  rw [if_pos n0] at h
  obtain rfl := Option.some.inj h
  have N_ := Aside0.mk n0
  clear n0 h
  have info3_ : (Tryd.prog.info? 3).map (fun i => (i.zero, i.size, i.bytes)) = some (some (.int .i64 0), 1, 8) := by kernel_rfl
  have hu22 := Tryd.underlying22
  have HB0 : Aside0 (Below w.heap.size w w) := ⟨Below.refl _ _⟩
  obtain ⟨s0, Sz0⟩ : ∃ s0, Aside0 (w.heap.size = s0) := ⟨_, ⟨rfl⟩⟩
  have hw0 : w.heap.size ≤ s0 := Nat.le_of_eq Sz0.out
  have hw1 : s0 ≤ w.heap.size := Nat.le_of_eq Sz0.out.symm
  go_enter Tryd.func72, Tryd.ntmps72
  go_wp2_with (first | ((with_reducible refine gate_dst (N := 1) rfl ?_); refine hx_box rfl 1 rfl 31 (.tmp 0) rfl Sz0 (.agg (nums .i64 a0).toArray) (nums .i64 a0).toArray rfl rfl ?_; intro w1 s1 L1 Sz1 b1 g_; have H0 := Aside0.mk g_; have HB1 := Aside0.mk (below_then HB0.out HB0.out.size b1); clear g_ HB0 b1) | ((with_reducible refine gate_dst (N := 4) rfl ?_); refine Kd.R_lit (Kd.int .i64) (w0 := w) w.heap.size 3 rfl (N := 4) rfl (xs := ([] : List Int)) (inner := []) (ok := fun k => k ≠ s0) (okp := fun _ => False) ?hr (Reps.none _ _) (fun _ h_ => h_.elim) (by have := blk_lt H0.out; omega) HB1.out HB1.out.size (by simp) ?_; (case hr => first | (go_simp; done) | (go_simp; rfl)); intro v4 w2 ho hb hg_ hn_; have O4 := Aside0.mk ho; have HB2 := Aside0.mk hb; have H0_2 := Aside0.mk (blk_grown H0.out hg_ (by simp)); clear ho hb hg_ hn_ HB1 H0) | ((with_reducible refine gate_dst (N := 7) rfl ?_); refine Kd.R_append_rows (Kd.int .i64) (w0 := w) w.heap.size rfl (.tmp 4) (.tmp 6) 122 3 (.int .i64 0) 8 rfl Tryd.underlying122 info3_ rfl (by decide) (by omega) v4 [] (seg a0 1 12) (some ⟨s0, 1, none⟩) 12 12 (fun k => k ≠ s0) (fun _ => False) rfl rfl O4.out (part_reads H0_2.out 1 12 (le_len (n := 15) N_.out (by decide)) (by decide)) (fun _ _ h => h) (fun _ h => h.elim) (fun k hk => by have := blk_lt H0_2.out; omega) HB2.out HB2.out.size (by decide) ?_; intro v7 w3 ho hb hg_ hn_; have H0_3 := Aside0.mk (blk_grown H0_2.out hg_ (fun e_ => (O4.out.1 s0 e_.symm) rfl)); have O7 := Aside0.mk ho; have HB3 := Aside0.mk hb; clear ho hb hg_ hn_ HB2 H0_2 O4) | ((with_reducible refine gate_dst (N := 10) rfl ?_); refine hx_loadf rfl 3 (.tmp 9) rfl s0 13 rfl Tryd.underlying3 rfl H0_3.out (lt_len (n := 15) N_.out (by decide)) ?_) | ((with_reducible refine gate_dst (N := 12) rfl ?_); refine hx_loadf rfl 3 (.tmp 11) rfl s0 14 rfl Tryd.underlying3 rfl H0_3.out (lt_len (n := 15) N_.out (by decide)) ?_) | ((with_reducible refine gate_dst (N := 13) rfl ?_); refine Kd.R_lit (Kd.int .i64) (w0 := w) w.heap.size 3 rfl (N := 13) rfl (xs := ([a0.getD 13 0, a0.getD 14 0] : List Int)) (inner := (nums .i64 [a0.getD 13 0, a0.getD 14 0])) (ok := fun k => k ≠ s0) (okp := fun _ => False) ?hr (reps_ints _) (fun _ h_ => h_.elim) (by have := blk_lt H0_3.out; omega) HB3.out HB3.out.size (by simp) ?_; (case hr => first | (go_simp; done) | (go_simp; rfl)); intro v13 w4 ho hb hg_ hn_; have O13 := Aside0.mk ho; have HB4 := Aside0.mk hb; have O7_4 := Aside0.mk (Kd.R_grown O7.out hg_ (fun _ _ => by simp)); have H0_4 := Aside0.mk (blk_grown H0_3.out hg_ (by simp)); clear hb hg_ hn_ HB3 H0_3 O7; obtain ⟨A13, c13, rfl⟩ := Kd.R_slice ho; clear ho) | ((with_reducible refine gate_dst (N := 14) rfl ?_); refine Kd.R_append_rows (Kd.int .i64) (w0 := w) w.heap.size rfl (.tmp 8) (.tmp 13) 122 3 (.int .i64 0) 8 rfl Tryd.underlying122 info3_ rfl (by decide) (by omega) v7 ([] ++ seg a0 1 12) [a0.getD 13 0, a0.getD 14 0] _ _ _ (fun k => k ≠ s0) (fun _ => False) rfl rfl O7_4.out (Kd.R_reads' O13.out).2.2 (fun _ _ h => h) (fun _ h => h.elim) (fun k hk => by have := blk_lt H0_4.out; omega) HB4.out HB4.out.size (by rw [List.nil_append, part_len (n := 15) N_.out (by decide)]; show (12 + 2) * 8 ≤ 140737488355328; decide) ?_; intro v14 w5 ho hb hg_ hn_; have O14 := Aside0.mk ho; have HB5 := Aside0.mk hb; clear ho hb hg_ hn_ HB4 H0_4 O7_4 O13))
  go_ret
  have ho := O14.out
  rw [pointers_of a0 N_.out] at ho
  exact ⟨_, rfl, Kd.R_mono ho (fun _ _ => trivial), HB5.out⟩

open Go.Proofs.YtkghgjehjchajaaDoorW Go.Proofs.YtkghgjehjchajaaDoorW.PrintHand Go.Proofs.YtkghgjehjchajaaDoorW.PrintHx
/-! ### spec_l02RootBytes: function 45 -/
open Go.Proofs.YtkghgjehjchajaaDoorW.PrintLe
theorem l02Put_l0 (n : Nat) (hn : n ≤ 4096) : ∀ (d i k : Nat) (v : Int) (x5 : List Int), i + d = n → d < k → 0 ≤ v → v ≤ 9223372036854775807 → x5.length ≤ 4096 + i → spec_l02Put.l0 k v (n : Int) x5 (i : Int) = some (x5 ++ leB v d)
  | 0, i, k, v, x5, h1, h2, h3, h4, h5 => by
    obtain ⟨k, rfl⟩ := sucK h2
    simp only [spec_l02Put.l0]
    rw [if_neg (by omega)]
    simp [leB]
  | d + 1, i, k, v, x5, h1, h2, h3, h4, h5 => by
    obtain ⟨k, rfl⟩ := sucK h2
    simp only [spec_l02Put.l0]
    rw [if_pos (by omega), if_pos (by omega), w64n (by omega), Int.tdiv_eq_ediv_of_nonneg h3, Int.tmod_eq_emod_of_nonneg h3, w64 (by omega) (by omega), l02Put_l0 n hn d (i + 1) k _ _ (by omega) (by omega) (by omega) (by omega) (by simp; omega), List.append_assoc]
    simp only [leB, List.cons_append, List.nil_append]
    rw [Int.emod_emod_of_dvd _ (by decide)]
theorem l02Put_f (v : Int) (n k : Nat) (hn : n ≤ 4096) (h0 : 0 ≤ v) (h1 : v ≤ 9223372036854775807) (hk : n < k) : spec_l02Put.f k v (n : Int) = some (leB v n) := by
  unfold spec_l02Put.f
  have h := l02Put_l0 n hn n 0 k v [] (by omega) hk h0 h1 (by simp)
  rw [List.nil_append] at h
  exact h

def spec_l02RootBytes.f (a0 : List Int) : Option (List Int) := if rootGood a0 = true then some (rootBytes a0) else none
set_option maxHeartbeats 8000000 in
set_option maxRecDepth 100000 in
theorem spec_l02RootBytes.calls (a0 : List Int) (n0 : a0.length = 15) (r : List Int) (w : World) (h : spec_l02RootBytes.f a0 = some r) :
    Calls Tryd.prog 45 #[.agg (nums .i64 a0).toArray] w fun e w' => ∃ v0_ : Value, e = .returned (v0_) ∧ Kd.R (Kd.int .u8) 5 w' w.heap.size (fun _ => True) v0_ r ∧ Below w.heap.size w w' := by
  unfold spec_l02RootBytes.f at h
  by_cases hgood : rootGood a0 = true
  case neg => rw [if_neg hgood] at h; cases h
  rw [if_pos hgood] at h
  obtain rfl := Option.some.inj h
  have N_ := Aside0.mk n0
  have HG := Aside0.mk hgood
  clear n0 h hgood
  obtain ⟨s, hs⟩ : ∃ s, s = a0.getD 0 0 := ⟨_, rfl⟩
  have hs1 : 0 ≤ s ∧ s ≤ 262144 := by rw [hs]; exact rootGood_size HG.out
  have HS := Aside0.mk hs
  have HP8 := Aside0.mk (show spec_l02Put.f 20 s 8 = some (leB s 8) from l02Put_f s 8 20 (by decide) hs1.1 (by omega) (by decide))
  clear hs hs1
  obtain ⟨xs, hxs⟩ : ∃ xs, xs = seg a0 1 14 := ⟨_, rfl⟩
  have HP := Aside0.mk (show spec_l02Pointers.f a0 = some xs by rw [hxs]; exact if_pos N_.out)
  have HXL := Aside0.mk (show xs.length = 14 by rw [hxs]; exact part_len (n := 15) N_.out (by decide))
  have HXS := Aside0.mk hxs
  have HXR := Aside0.mk (show ∀ j, j < 14 → 0 ≤ xs.getD j 0 ∧ xs.getD j 0 < 2048 by rw [hxs]; exact fun j hj => rootGood_ptr HG.out j hj)
  have info5_ : (Tryd.prog.info? 5).map (fun i => (i.zero, i.size, i.bytes)) = some (some (.int .u8 0), 1, 1) := by kernel_rfl
  clear hxs
  have HB0 : Aside0 (Below w.heap.size w w) := ⟨Below.refl _ _⟩
  obtain ⟨s0, Sz0⟩ : ∃ s0, Aside0 (w.heap.size = s0) := ⟨_, ⟨rfl⟩⟩
  have hw0 : w.heap.size ≤ s0 := Nat.le_of_eq Sz0.out
  have hw1 : s0 ≤ w.heap.size := Nat.le_of_eq Sz0.out.symm
  go_enter Tryd.func45, Tryd.ntmps45
  go_wp2_with (first | ((with_reducible refine gate_dst (N := 1) rfl ?_); refine hx_box rfl 1 rfl 31 (.tmp 0) rfl Sz0 (.agg (nums .i64 a0).toArray) (nums .i64 a0).toArray rfl rfl ?_; intro w1 s1 L1 Sz1 b1 g_; have H0 := Aside0.mk g_; have HB1 := Aside0.mk (below_then HB0.out HB0.out.size b1); clear g_ HB0 b1) | ((with_reducible refine gate_dst (N := 7) rfl ?_); refine hx_loadf rfl 3 (.tmp 6) rfl s0 0 rfl Tryd.underlying3 rfl H0.out (lt_len (n := 15) N_.out (by decide)) ?_; rw [← HS.out]) | ((with_reducible refine gate_dst (N := 8) rfl ?_); refine goesL_ (some 8) rfl rfl Tryd.func42 (by kernel_rfl) rfl #[.int .i64 s, .int .i64 8] rfl (by (try simp only [List.map_toArray, List.map_cons, List.map_nil]); first | done | rfl) ?_; refine (spec_l02Put.calls _ _ _ _ _ HP8.out).mono ?_; rintro e_ w2 ⟨v8, rfl, R_, b_⟩; refine ⟨_, rfl, ?_⟩; obtain ⟨s2, L2, Sz2⟩ := size_letter Sz1 (kept_below b_); have O2 := own_btw R_ Sz1.out Sz2 HB1.out.size; have HB2 := Aside0.mk (below_then HB1.out HB1.out.size b_); have H2 := Aside0.mk (blk_below H0.out b_); clear R_ b_ HB1 H0) | ((with_reducible refine gate_dst (N := 9) rfl ?_); refine hx_load rfl 31 (.tmp 1) rfl s0 15 rfl Tryd.underlying31 rfl (by kernel_rfl) H2.out (nums_size _ _ _ N_.out) ?_) | ((with_reducible refine gate_dst (N := 10) rfl ?_); refine goesL_ (some 10) rfl rfl Tryd.func72 (by kernel_rfl) rfl #[.agg (nums .i64 a0).toArray] rfl (by (try simp only [List.map_toArray, List.map_cons, List.map_nil]); first | done | rfl) ?_; refine (spec_l02Pointers.calls a0 N_.out xs _ HP.out).mono ?_; rintro e_ w3 ⟨v0_, rfl, R_, b_⟩; obtain ⟨A10, c10, rfl⟩ := Kd.R_slice R_; refine ⟨_, rfl, ?_⟩; obtain ⟨s3, L3, Sz3⟩ := size_letter Sz2 (kept_below b_); have OP := own_btw R_ Sz2.out Sz3 HB2.out.size; have HB3 := Aside0.mk (below_then HB2.out HB2.out.size b_); have OO := Aside0.mk (Kd.R_mono (Kd.R_below O2.out b_) (fun k hk h2 => by have h1_ := hk.2; have h3_ := h2.1; omega : ∀ k, Btw s1 s2 k → ¬ Btw s2 s3 k)); have HS3 : s3 ≤ w3.heap.size := Nat.le_of_eq Sz3.out.symm; clear R_ b_ HB2 H2 O2))
  (try simp only [Act.put, List.setIfInBounds_toArray, List.set_cons_succ, List.set_cons_zero])
  go_loopw [3, 12] (fun v3 v12 wr => ∃ (j : Nat) (u : Value), u = v3 ∧ v12 = .int .i64 (j : Int) ∧ Aside0 (j ≤ 14) ∧ Aside0 (Kd.R (Kd.int .u8) 5 wr w.heap.size (fun k => ¬ Btw s2 s3 k) v3 (leB s 8 ++ flat4 (xs.take j))) ∧ Aside0 (Kd.R (Kd.int .i64) 3 wr w.heap.size (Btw s2 s3) (.slice A10 xs.length c10) xs) ∧ Aside0 (Below w.heap.size w wr) ∧ s3 ≤ wr.heap.size) (fun _ v12 _ => 14 - (intOf v12).toNat)
  case atStart => exact ⟨0, _, rfl, rfl, ⟨by omega⟩, ⟨by rw [List.take_zero, flat4, List.append_nil]; exact OO.out⟩, OP, HB3, HS3⟩
  case round =>
    clear OO OP HB3 HS3
    obtain ⟨j, v3, rfl, rfl, hj, OO0, OP, HB, HS3⟩ := hrel
    by_cases c9 : j < 14
    · have c9b0 : decide ((j : Int) < (xs.length : Int)) = true := decide_eq_true (by rw [HXL.out]; omega)
      have c9b1 : decide (j < xs.length) = true := decide_eq_true (by rw [HXL.out]; omega)
      have p112 : 0 ≤ (j : Int) := by omega
      have q112 : (j : Int) < (xs.length : Int) := by rw [HXL.out]; omega
      obtain ⟨ad112, e112, hx112⟩ := Kd.at_int (Kd.R_reads' OP.out).2.2 (j : Int) p112 q112
      cases e112
      rw [Int.toNat_natCast] at hx112
      replace p112 := eq_true p112
      replace q112 := eq_true q112
      have q113 : (j < xs.length) = True := eq_true (by rw [HXL.out]; omega)
      obtain ⟨p, hp⟩ : ∃ p, p = rd xs (j : Int) := ⟨_, rfl⟩
      rw [← hp] at hx112
      have HPV := Aside0.mk (show p = xs.getD j 0 by rw [hp, rd, Int.toNat_natCast])
      have hpr : 0 ≤ p ∧ p < 2048 := by rw [HPV.out]; exact HXR.out j c9
      have HP4 := Aside0.mk (show spec_l02Put.f 20 p 4 = some (leB p 4) from l02Put_f p 4 20 (by decide) hpr.1 (by omega) (by decide))
      have C9 := Aside0.mk c9
      obtain ⟨bs, hbs⟩ : ∃ bs, bs = leB s 8 ++ flat4 (xs.take j) := ⟨_, rfl⟩
      have oo := OO0.out
      rw [← hbs] at oo
      have OO := Aside0.mk oo
      have HBL := Aside0.mk (show bs.length = 8 + 4 * j by rw [hbs, List.length_append, leB_length, flat4_length, List.length_take, HXL.out, Nat.min_eq_left (by omega)])
      have HBS := Aside0.mk hbs
      clear hp c9 hpr hbs oo OO0
      go_wp2_with (first | ((with_reducible refine gate_dst (N := 18) rfl ?_); refine goesL_ (some 18) rfl rfl Tryd.func42 (by kernel_rfl) rfl #[.int .i64 p, .int .i64 4] rfl (by (try simp only [List.map_toArray, List.map_cons, List.map_nil]); first | done | rfl) ?_; refine (spec_l02Put.calls _ _ _ _ _ HP4.out).mono ?_; rintro e_ w4 ⟨v0_, rfl, R_, b_⟩; obtain ⟨A18, c18, rfl⟩ := Kd.R_slice R_; refine ⟨_, rfl, ?_⟩; have O18 := Aside0.mk R_; have HBn := Aside0.mk (below_then HB.out HB.out.size b_); have OOn := Aside0.mk (Kd.R_below OO.out b_); have OPn := Aside0.mk (Kd.R_below OP.out b_); have HS4 : s3 ≤ w4.heap.size := Nat.le_trans HS3 b_.size; clear R_ b_ HB OO OP) | ((with_reducible refine gate_dst (N := 19) rfl ?_); refine Kd.R_append_rows (Kd.int .u8) (w0 := w) w.heap.size rfl (.tmp 16) (.tmp 18) 28 5 (.int .u8 0) 1 rfl Tryd.underlying28 info5_ rfl (by decide) (by omega) v3 bs (leB p 4) _ _ _ (fun k => ¬ Btw s2 s3 k) (fun _ => False) rfl rfl OOn.out (Kd.R_reads' O18.out).2.2 (fun _ _ h => h) (fun _ h => h.elim) (fun k hk h2 => by have h3_ := h2.2; omega) HBn.out HBn.out.size (by have h1_ := HBL.out; have h2_ := C9.out; show (bs.length + (leB p 4).length) * 1 ≤ _; rw [leB_length, h1_]; omega) ?_; intro v19 w5 ho hb hg_ hn_; have OO5 := Aside0.mk ho; have HB5 := Aside0.mk hb; have OP5 := Aside0.mk (Kd.R_grown OPn.out hg_ (fun k hk e_ => OOn.out.1 k e_.symm hk)); have HS5 : s3 ≤ w5.heap.size := Nat.le_trans HS4 hg_.size; clear ho hb hg_ hn_ HBn OOn OPn O18))
      go_roundw
      case rel =>
        refine ⟨j + 1, _, rfl, by rw [show wrap64 ((j : Int) + 1) = ((j + 1 : Nat) : Int) by (have := C9.out; unfold wrap64; omega)], ⟨by have := C9.out; omega⟩, ⟨?_⟩, OP5, HB5, HS5⟩
        have ho := OO5.out
        have e_ : bs ++ leB p 4 = leB s 8 ++ flat4 (xs.take (j + 1)) := by rw [HBS.out, flat4_take xs j (by rw [HXL.out]; exact C9.out), ← HPV.out, List.append_assoc]
        rw [e_] at ho
        exact ho
      case measure =>
        rw [show wrap64 ((j : Int) + 1) = ((j + 1 : Nat) : Int) by (have := C9.out; unfold wrap64; omega)]
        simp only [intOf, Int.toNat_natCast]
        have := C9.out
        omega
    · obtain rfl : j = 14 := by have := hj.out; omega
      have c9b0 : decide ((14 : Int) < (xs.length : Int)) = false := decide_eq_false (by rw [HXL.out]; decide)
      have c9b1 : decide (14 < xs.length) = false := decide_eq_false (by rw [HXL.out]; decide)
      go_wp2
      go_ret
      have ho := OO0.out
      rw [List.take_of_length_le (by rw [HXL.out]; exact Nat.le_refl _), HXS.out, HS.out] at ho
      exact ⟨_, rfl, Kd.R_mono ho (fun _ _ => trivial), HB.out⟩

/-! ### spec_l02Within: function 37 -/
def spec_l02Within.f (a0 : Int) (a1 : Int) (a2 : Int) : Option (Bool) := if a0 ≥ a1 then (some (decide (a0 ≤ a2))) else (some false)
set_option maxHeartbeats 8000000 in
set_option maxRecDepth 100000 in
theorem spec_l02Within.calls (a0 : Int) (a1 : Int) (a2 : Int) (r : Bool) (w : World) (h : spec_l02Within.f a0 a1 a2 = some r) :
    Calls Tryd.prog 37 #[.int .i64 a0, .int .i64 a1, .int .i64 a2] w fun e w' => e = .returned (.bool r) ∧ Drawn0 w w' := by
  have H : (if a0 ≥ a1 then (some (decide (a0 ≤ a2))) else (some false)) = some r := h
  clear h
  by_cases c4 : a0 ≥ a1
  · rw [if_pos c4] at H
    have c4b0 : decide (a1 ≤ a0) = true := decide_eq_true c4
    clear c4
    obtain rfl := Option.some.inj H
    go_enter Tryd.func37, Tryd.ntmps37
    go_wp2
    go_ret
    exact ⟨by first | rfl | (simp; done) | (simp [*]; done), by repeat (first | exact Drawn0.refl _ | apply Drawn0.step)⟩
  · rw [if_neg c4] at H
    have c4b0 : decide (a1 ≤ a0) = false := decide_eq_false c4
    clear c4
    obtain rfl := Option.some.inj H
    go_enter Tryd.func37, Tryd.ntmps37
    go_wp2
    go_ret
    exact ⟨by first | rfl | (simp; done) | (simp [*]; done), by repeat (first | exact Drawn0.refl _ | apply Drawn0.step)⟩

/-! ### spec_l02Pointer: function 73 -/
def spec_l02Pointer.f (a0 : Int) : Option (Bool) := if a0 = 0 then (some true) else (if a0 ≥ 2 then (some (decide (a0 < 2048))) else (some false))
set_option maxHeartbeats 8000000 in
set_option maxRecDepth 100000 in
theorem spec_l02Pointer.calls (a0 : Int) (r : Bool) (w : World) (h : spec_l02Pointer.f a0 = some r) :
    Calls Tryd.prog 73 #[.int .i64 a0] w fun e w' => e = .returned (.bool r) ∧ Drawn0 w w' := by
  have H : (if a0 = 0 then (some true) else (if a0 ≥ 2 then (some (decide (a0 < 2048))) else (some false))) = some r := h
  clear h
  by_cases c2 : a0 = 0
  · rw [if_pos c2] at H
    have c2b0 : (a0 == 0) = true := beq_iff_eq.mpr c2
    have c2b1 : (a0 != 0) = false := bne_eq_false_iff_eq.mpr c2
    clear c2
    obtain rfl := Option.some.inj H
    go_enter Tryd.func73, Tryd.ntmps73
    go_wp2
    go_ret
    exact ⟨by first | rfl | (simp; done) | (simp [*]; done), by repeat (first | exact Drawn0.refl _ | apply Drawn0.step)⟩
  · rw [if_neg c2] at H
    have c2b0 : (a0 == 0) = false := beq_eq_false_iff_ne.mpr c2
    have c2b1 : (a0 != 0) = true := bne_iff_ne.mpr c2
    by_cases c3 : a0 ≥ 2
    · rw [if_pos c3] at H
      have c3b0 : decide (2 ≤ a0) = true := decide_eq_true c3
      clear c3
      obtain rfl := Option.some.inj H
      go_enter Tryd.func73, Tryd.ntmps73
      go_wp2
      go_ret
      exact ⟨by first | rfl | (simp; done) | (simp [*]; done), by repeat (first | exact Drawn0.refl _ | apply Drawn0.step)⟩
    · rw [if_neg c3] at H
      have c3b0 : decide (2 ≤ a0) = false := decide_eq_false c3
      clear c3
      obtain rfl := Option.some.inj H
      go_enter Tryd.func73, Tryd.ntmps73
      go_wp2
      go_ret
      exact ⟨by first | rfl | (simp; done) | (simp [*]; done), by repeat (first | exact Drawn0.refl _ | apply Drawn0.step)⟩

open Go.Proofs.YtkghgjehjchajaaDoorW Go.Proofs.YtkghgjehjchajaaDoorW.PrintHand Go.Proofs.YtkghgjehjchajaaDoorW.PrintHx
/-! ### spec_l02Root: function 39 -/
def spec_l02Root.f (a0 : List Int) : Option Bool := some (rootGood a0)
theorem spec_l02Root.ptr (p : Int) : spec_l02Pointer.f p = some (ptrOk p) := by
  unfold spec_l02Pointer.f ptrOk
  by_cases h : p = 0
  · simp [h]
  · by_cases h2 : p ≥ 2
    · simp [h, h2]
    · simp [h, h2]
theorem spec_l02Root.fits {a : List Int} (j : Nat) (h : ptrOk ((seg a 1 14).getD j 0) = true) (h2 : (seg a 1 14).getD j 0 = 0 ∨ least j < (a.getD 0 0 + 511) / 512) : ptrFits a j = true := by
  unfold ptrFits
  rw [h]
  rcases h2 with h2 | h2
  · rw [decide_eq_true h2]; rfl
  · rw [decide_eq_true h2]; simp
theorem spec_l02Root.unfit {a : List Int} (j : Nat) (h : ¬ (seg a 1 14).getD j 0 = 0) (h2 : ¬ least j < (a.getD 0 0 + 511) / 512) : ptrFits a j = false := by
  unfold ptrFits
  rw [decide_eq_false h, decide_eq_false h2]
  simp
set_option maxHeartbeats 8000000 in
set_option maxRecDepth 100000 in
theorem spec_l02Root.calls (a0 : List Int) (n0 : a0.length = 15) (r : Bool) (w : World) (h : spec_l02Root.f a0 = some r) :
    Calls Tryd.prog 39 #[.agg (nums .i64 a0).toArray] w fun e w' => e = .returned (.bool r) ∧ Below w.heap.size w w' := by
  have H := Aside0.mk (Option.some.inj h)
  have N_ := Aside0.mk n0
  clear n0 h
  obtain ⟨s, hs⟩ : ∃ s, s = a0.getD 0 0 := ⟨_, rfl⟩
  have HS := Aside0.mk hs
  clear hs
  obtain ⟨xs, hxs⟩ : ∃ xs, xs = seg a0 1 14 := ⟨_, rfl⟩
  have HP := Aside0.mk (show spec_l02Pointers.f a0 = some xs by rw [hxs]; exact if_pos N_.out)
  have HXL := Aside0.mk (show xs.length = 14 by rw [hxs]; exact part_len (n := 15) N_.out (by decide))
  have HXS := Aside0.mk hxs
  clear hxs
  have HB0 : Aside0 (Below w.heap.size w w) := ⟨Below.refl _ _⟩
  obtain ⟨s0, Sz0⟩ : ∃ s0, Aside0 (w.heap.size = s0) := ⟨_, ⟨rfl⟩⟩
  have hw0 : w.heap.size ≤ s0 := Nat.le_of_eq Sz0.out
  have hw1 : s0 ≤ w.heap.size := Nat.le_of_eq Sz0.out.symm
  by_cases c1 : s < 0
  · have c1_ : decide (s < 0) = true := decide_eq_true c1
    have C1 := Aside0.mk c1
    clear c1
    go_enter Tryd.func39, Tryd.ntmps39
    go_wp2_with (first | ((with_reducible refine gate_dst (N := 1) rfl ?_); refine hx_box rfl 1 rfl 31 (.tmp 0) rfl Sz0 (.agg (nums .i64 a0).toArray) (nums .i64 a0).toArray rfl rfl ?_; intro w1 s1 L1 Sz1 b1 g_; have H0 := Aside0.mk g_; have HB1 := Aside0.mk (below_then HB0.out HB0.out.size b1); clear g_ HB0 b1; have c0_ := row_cell H0.out 0 (lt_len (n := 15) N_.out (by decide)); rw [← HS.out] at c0_))
    go_ret
    refine ⟨?_, HB1.out⟩
    rw [← H.out, rootGood_low (by rw [← HS.out]; exact C1.out)]; rfl
  have c1_ : decide (s < 0) = false := decide_eq_false c1
  have c1n : 0 ≤ s := by omega
  clear c1
  by_cases c2 : 262144 < s
  · have c2_ : decide (262144 < s) = true := decide_eq_true c2
    have C2 := Aside0.mk c2
    clear c2
    go_enter Tryd.func39, Tryd.ntmps39
    go_wp2_with (first | ((with_reducible refine gate_dst (N := 1) rfl ?_); refine hx_box rfl 1 rfl 31 (.tmp 0) rfl Sz0 (.agg (nums .i64 a0).toArray) (nums .i64 a0).toArray rfl rfl ?_; intro w1 s1 L1 Sz1 b1 g_; have H0 := Aside0.mk g_; have HB1 := Aside0.mk (below_then HB0.out HB0.out.size b1); clear g_ HB0 b1; have c0_ := row_cell H0.out 0 (lt_len (n := 15) N_.out (by decide)); rw [← HS.out] at c0_))
    go_ret
    refine ⟨?_, HB1.out⟩
    rw [← H.out, rootGood_high (by rw [← HS.out]; exact C2.out)]; rfl
  have c2_ : decide (262144 < s) = false := decide_eq_false c2
  have c2n : s ≤ 262144 := by omega
  clear c2
  go_enter Tryd.func39, Tryd.ntmps39
  go_wp2_with (first | ((with_reducible refine gate_dst (N := 1) rfl ?_); refine hx_box rfl 1 rfl 31 (.tmp 0) rfl Sz0 (.agg (nums .i64 a0).toArray) (nums .i64 a0).toArray rfl rfl ?_; intro w1 s1 L1 Sz1 b1 g_; have H0 := Aside0.mk g_; have HB1 := Aside0.mk (below_then HB0.out HB0.out.size b1); clear g_ HB0 b1; have c0_ := row_cell H0.out 0 (lt_len (n := 15) N_.out (by decide)); rw [← HS.out] at c0_) | ((with_reducible refine gate_dst (N := 20) rfl ?_); refine hx_load rfl 31 (.tmp 1) rfl s0 15 rfl Tryd.underlying31 rfl (by kernel_rfl) H0.out (nums_size _ _ _ N_.out) ?_) | ((with_reducible refine gate_dst (N := 21) rfl ?_); refine goesL_ (some 21) rfl rfl Tryd.func72 (by kernel_rfl) rfl #[.agg (nums .i64 a0).toArray] rfl (by (try simp only [List.map_toArray, List.map_cons, List.map_nil]); first | done | rfl) ?_; refine (spec_l02Pointers.calls a0 N_.out xs _ HP.out).mono ?_; rintro e_ w3 ⟨v0_, rfl, R_, b_⟩; obtain ⟨A21, c21, rfl⟩ := Kd.R_slice R_; refine ⟨_, rfl, ?_⟩; have O := Aside0.mk R_; have HB := Aside0.mk (below_then HB1.out HB1.out.size b_); clear R_ b_ HB1 H0 c0_))
  (try simp only [Act.put, List.setIfInBounds_toArray, List.set_cons_succ, List.set_cons_zero])
  go_loopw [23] (fun v23 wr => ∃ j : Nat, v23 = .int .i64 (j : Int) ∧ Aside0 (j ≤ 14) ∧ Aside0 (∀ i, i < j → ptrFits a0 i = true) ∧ Drawn0 w3 wr) (fun v23 _ => 14 - (intOf v23).toNat)
  case atStart => exact ⟨0, rfl, ⟨by omega⟩, ⟨fun i hi => absurd hi (Nat.not_lt_zero i)⟩, Drawn0.refl _⟩
  case round =>
    obtain ⟨j, rfl, hj, hall, ⟨m2, rfl⟩⟩ := hrel
    by_cases c9 : j < 14
    · have c9b0 : decide ((j : Int) < (xs.length : Int)) = true := decide_eq_true (by rw [HXL.out]; omega)
      have c9b1 : decide (j < xs.length) = true := decide_eq_true (by rw [HXL.out]; omega)
      have p112 : 0 ≤ (j : Int) := by omega
      have q112 : (j : Int) < (xs.length : Int) := by rw [HXL.out]; omega
      obtain ⟨ad112, e112, hx112⟩ := Kd.at_int (Kd.C_drewN (Kd.R_reads' O.out).2.2 m2) (j : Int) p112 q112
      cases e112
      rw [Int.toNat_natCast] at hx112
      replace p112 := eq_true p112
      replace q112 := eq_true q112
      have q113 : (j < xs.length) = True := eq_true (by rw [HXL.out]; omega)
      obtain ⟨p, hp⟩ : ∃ p, p = rd xs (j : Int) := ⟨_, rfl⟩
      rw [← hp] at hx112
      have HPV := Aside0.mk (show p = (seg a0 1 14).getD j 0 by rw [hp, HXS.out, rd, Int.toNat_natCast])
      have C9 := Aside0.mk c9
      clear hp c9
      by_cases cj : j = 12
      · have hlst : least j = 12 := by rw [least, if_pos cj]
        have cj0_ : ((j : Int) == 12) = true := beq_iff_eq.mpr (by omega)
        have cj1_ : ((j : Int) == 13) = false := beq_eq_false_iff_ne.mpr (by omega)
        have CJ := Aside0.mk cj
        have HLS := Aside0.mk hlst
        clear cj hlst
        by_cases cq : ptrOk p = true
        · have HQ := Aside0.mk ((spec_l02Root.ptr p).trans (by rw [cq]))
          have CQ := Aside0.mk cq
          clear cq
          by_cases cz : p = 0
          · have cz_ : (p != 0) = false := bne_eq_false_iff_eq.mpr cz
            have CZ := Aside0.mk cz
            clear cz
            go_wp2_with (first | (go_at_call 73; refine (spec_l02Pointer.calls p true _ HQ.out).mono ?_; rintro e_ w_ ⟨rfl, ⟨nd, rfl⟩⟩))
            have hg := Aside0.mk (show ptrFits a0 j = true from spec_l02Root.fits j (by rw [← HPV.out]; exact CQ.out) (.inl (by rw [← HPV.out]; exact CZ.out)))
            go_roundw
            case rel =>
              refine ⟨j + 1, by rw [show wrap64 ((j : Int) + 1) = ((j + 1 : Nat) : Int) by (have := C9.out; unfold wrap64; omega)], ⟨by have := C9.out; omega⟩, ⟨fun i hi => ?_⟩, by repeat (first | exact Drawn0.refl _ | apply Drawn0.step)⟩
              by_cases hij : i = j
              · subst hij; exact hg.out
              · exact hall.out i (by omega)
            case measure =>
              rw [show wrap64 ((j : Int) + 1) = ((j + 1 : Nat) : Int) by (have := C9.out; unfold wrap64; omega)]
              simp only [intOf, Int.toNat_natCast]
              have := C9.out
              omega
          · have cz_ : (p != 0) = true := bne_iff_ne.mpr cz
            have CZ := Aside0.mk cz
            clear cz
            by_cases cb : (s + 512 - 1) / 512 ≤ 12
            · have cb_ : decide ((s + 512 - 1) / 512 ≤ 12) = true := decide_eq_true cb
              have CB := Aside0.mk cb
              clear cb
              go_wp2_with (first | (go_at_call 73; refine (spec_l02Pointer.calls p true _ HQ.out).mono ?_; rintro e_ w_ ⟨rfl, ⟨nd, rfl⟩⟩))
              go_ret
              refine ⟨?_, by first | exact pw_below_drewN HB.out _ | exact pw_below_drewN (pw_below_drewN HB.out _) _⟩
              have e_ : rootGood a0 = false := rootGood_bad j (by have := C9.out; omega) (spec_l02Root.unfit j (by rw [← HPV.out]; exact CZ.out) (by rw [HLS.out, ← HS.out]; have := CB.out; omega))
              rw [← H.out, e_]; rfl
            · have cb_ : decide ((s + 512 - 1) / 512 ≤ 12) = false := decide_eq_false cb
              have CB := Aside0.mk cb
              clear cb
              go_wp2_with (first | (go_at_call 73; refine (spec_l02Pointer.calls p true _ HQ.out).mono ?_; rintro e_ w_ ⟨rfl, ⟨nd, rfl⟩⟩))
              have hg := Aside0.mk (show ptrFits a0 j = true from spec_l02Root.fits j (by rw [← HPV.out]; exact CQ.out) (.inr (by rw [HLS.out, ← HS.out]; have := CB.out; omega)))
              go_roundw
              case rel =>
                refine ⟨j + 1, by rw [show wrap64 ((j : Int) + 1) = ((j + 1 : Nat) : Int) by (have := C9.out; unfold wrap64; omega)], ⟨by have := C9.out; omega⟩, ⟨fun i hi => ?_⟩, by repeat (first | exact Drawn0.refl _ | apply Drawn0.step)⟩
                by_cases hij : i = j
                · subst hij; exact hg.out
                · exact hall.out i (by omega)
              case measure =>
                rw [show wrap64 ((j : Int) + 1) = ((j + 1 : Nat) : Int) by (have := C9.out; unfold wrap64; omega)]
                simp only [intOf, Int.toNat_natCast]
                have := C9.out
                omega
        · have cq2 : ptrOk p = false := by simpa using cq
          have HQ := Aside0.mk ((spec_l02Root.ptr p).trans (by rw [cq2]))
          have CQ := Aside0.mk cq2
          clear cq cq2
          go_wp2_with (first | (go_at_call 73; refine (spec_l02Pointer.calls p false _ HQ.out).mono ?_; rintro e_ w_ ⟨rfl, ⟨nd, rfl⟩⟩))
          go_ret
          refine ⟨?_, by first | exact pw_below_drewN HB.out _ | exact pw_below_drewN (pw_below_drewN HB.out _) _⟩
          have e_ : rootGood a0 = false := rootGood_bad j (by have := C9.out; omega) (by rw [ptrFits, ← HPV.out, CQ.out]; rfl)
          rw [← H.out, e_]; rfl
      · by_cases cj2 : j = 13
        · have cj := cj2
          clear cj2
          have hlst : least j = 140 := by rw [least, if_neg (by omega), if_pos cj]
          have cj0_ : ((j : Int) == 12) = false := beq_eq_false_iff_ne.mpr (by omega)
          have cj1_ : ((j : Int) == 13) = true := beq_iff_eq.mpr (by omega)
          have CJ := Aside0.mk cj
          have HLS := Aside0.mk hlst
          clear cj hlst
          by_cases cq : ptrOk p = true
          · have HQ := Aside0.mk ((spec_l02Root.ptr p).trans (by rw [cq]))
            have CQ := Aside0.mk cq
            clear cq
            by_cases cz : p = 0
            · have cz_ : (p != 0) = false := bne_eq_false_iff_eq.mpr cz
              have CZ := Aside0.mk cz
              clear cz
              go_wp2_with (first | (go_at_call 73; refine (spec_l02Pointer.calls p true _ HQ.out).mono ?_; rintro e_ w_ ⟨rfl, ⟨nd, rfl⟩⟩))
              have hg := Aside0.mk (show ptrFits a0 j = true from spec_l02Root.fits j (by rw [← HPV.out]; exact CQ.out) (.inl (by rw [← HPV.out]; exact CZ.out)))
              go_roundw
              case rel =>
                refine ⟨j + 1, by rw [show wrap64 ((j : Int) + 1) = ((j + 1 : Nat) : Int) by (have := C9.out; unfold wrap64; omega)], ⟨by have := C9.out; omega⟩, ⟨fun i hi => ?_⟩, by repeat (first | exact Drawn0.refl _ | apply Drawn0.step)⟩
                by_cases hij : i = j
                · subst hij; exact hg.out
                · exact hall.out i (by omega)
              case measure =>
                rw [show wrap64 ((j : Int) + 1) = ((j + 1 : Nat) : Int) by (have := C9.out; unfold wrap64; omega)]
                simp only [intOf, Int.toNat_natCast]
                have := C9.out
                omega
            · have cz_ : (p != 0) = true := bne_iff_ne.mpr cz
              have CZ := Aside0.mk cz
              clear cz
              by_cases cb : (s + 512 - 1) / 512 ≤ 140
              · have cb_ : decide ((s + 512 - 1) / 512 ≤ 140) = true := decide_eq_true cb
                have CB := Aside0.mk cb
                clear cb
                go_wp2_with (first | (go_at_call 73; refine (spec_l02Pointer.calls p true _ HQ.out).mono ?_; rintro e_ w_ ⟨rfl, ⟨nd, rfl⟩⟩))
                go_ret
                refine ⟨?_, by first | exact pw_below_drewN HB.out _ | exact pw_below_drewN (pw_below_drewN HB.out _) _⟩
                have e_ : rootGood a0 = false := rootGood_bad j (by have := C9.out; omega) (spec_l02Root.unfit j (by rw [← HPV.out]; exact CZ.out) (by rw [HLS.out, ← HS.out]; have := CB.out; omega))
                rw [← H.out, e_]; rfl
              · have cb_ : decide ((s + 512 - 1) / 512 ≤ 140) = false := decide_eq_false cb
                have CB := Aside0.mk cb
                clear cb
                go_wp2_with (first | (go_at_call 73; refine (spec_l02Pointer.calls p true _ HQ.out).mono ?_; rintro e_ w_ ⟨rfl, ⟨nd, rfl⟩⟩))
                have hg := Aside0.mk (show ptrFits a0 j = true from spec_l02Root.fits j (by rw [← HPV.out]; exact CQ.out) (.inr (by rw [HLS.out, ← HS.out]; have := CB.out; omega)))
                go_roundw
                case rel =>
                  refine ⟨j + 1, by rw [show wrap64 ((j : Int) + 1) = ((j + 1 : Nat) : Int) by (have := C9.out; unfold wrap64; omega)], ⟨by have := C9.out; omega⟩, ⟨fun i hi => ?_⟩, by repeat (first | exact Drawn0.refl _ | apply Drawn0.step)⟩
                  by_cases hij : i = j
                  · subst hij; exact hg.out
                  · exact hall.out i (by omega)
                case measure =>
                  rw [show wrap64 ((j : Int) + 1) = ((j + 1 : Nat) : Int) by (have := C9.out; unfold wrap64; omega)]
                  simp only [intOf, Int.toNat_natCast]
                  have := C9.out
                  omega
          · have cq2 : ptrOk p = false := by simpa using cq
            have HQ := Aside0.mk ((spec_l02Root.ptr p).trans (by rw [cq2]))
            have CQ := Aside0.mk cq2
            clear cq cq2
            go_wp2_with (first | (go_at_call 73; refine (spec_l02Pointer.calls p false _ HQ.out).mono ?_; rintro e_ w_ ⟨rfl, ⟨nd, rfl⟩⟩))
            go_ret
            refine ⟨?_, by first | exact pw_below_drewN HB.out _ | exact pw_below_drewN (pw_below_drewN HB.out _) _⟩
            have e_ : rootGood a0 = false := rootGood_bad j (by have := C9.out; omega) (by rw [ptrFits, ← HPV.out, CQ.out]; rfl)
            rw [← H.out, e_]; rfl
        · have cj := And.intro cj cj2
          clear cj2
          have hlst : least j = (j : Int) := by rw [least, if_neg cj.1, if_neg cj.2]
          have cj0_ : ((j : Int) == 12) = false := beq_eq_false_iff_ne.mpr (by omega)
          have cj1_ : ((j : Int) == 13) = false := beq_eq_false_iff_ne.mpr (by omega)
          have CJ := Aside0.mk cj
          have HLS := Aside0.mk hlst
          clear cj hlst
          by_cases cq : ptrOk p = true
          · have HQ := Aside0.mk ((spec_l02Root.ptr p).trans (by rw [cq]))
            have CQ := Aside0.mk cq
            clear cq
            by_cases cz : p = 0
            · have cz_ : (p != 0) = false := bne_eq_false_iff_eq.mpr cz
              have CZ := Aside0.mk cz
              clear cz
              go_wp2_with (first | (go_at_call 73; refine (spec_l02Pointer.calls p true _ HQ.out).mono ?_; rintro e_ w_ ⟨rfl, ⟨nd, rfl⟩⟩))
              have hg := Aside0.mk (show ptrFits a0 j = true from spec_l02Root.fits j (by rw [← HPV.out]; exact CQ.out) (.inl (by rw [← HPV.out]; exact CZ.out)))
              go_roundw
              case rel =>
                refine ⟨j + 1, by rw [show wrap64 ((j : Int) + 1) = ((j + 1 : Nat) : Int) by (have := C9.out; unfold wrap64; omega)], ⟨by have := C9.out; omega⟩, ⟨fun i hi => ?_⟩, by repeat (first | exact Drawn0.refl _ | apply Drawn0.step)⟩
                by_cases hij : i = j
                · subst hij; exact hg.out
                · exact hall.out i (by omega)
              case measure =>
                rw [show wrap64 ((j : Int) + 1) = ((j + 1 : Nat) : Int) by (have := C9.out; unfold wrap64; omega)]
                simp only [intOf, Int.toNat_natCast]
                have := C9.out
                omega
            · have cz_ : (p != 0) = true := bne_iff_ne.mpr cz
              have CZ := Aside0.mk cz
              clear cz
              by_cases cb : (s + 512 - 1) / 512 ≤ (j : Int)
              · have cb_ : decide ((s + 512 - 1) / 512 ≤ (j : Int)) = true := decide_eq_true cb
                have CB := Aside0.mk cb
                clear cb
                go_wp2_with (first | (go_at_call 73; refine (spec_l02Pointer.calls p true _ HQ.out).mono ?_; rintro e_ w_ ⟨rfl, ⟨nd, rfl⟩⟩))
                go_ret
                refine ⟨?_, by first | exact pw_below_drewN HB.out _ | exact pw_below_drewN (pw_below_drewN HB.out _) _⟩
                have e_ : rootGood a0 = false := rootGood_bad j (by have := C9.out; omega) (spec_l02Root.unfit j (by rw [← HPV.out]; exact CZ.out) (by rw [HLS.out, ← HS.out]; have := CB.out; omega))
                rw [← H.out, e_]; rfl
              · have cb_ : decide ((s + 512 - 1) / 512 ≤ (j : Int)) = false := decide_eq_false cb
                have CB := Aside0.mk cb
                clear cb
                go_wp2_with (first | (go_at_call 73; refine (spec_l02Pointer.calls p true _ HQ.out).mono ?_; rintro e_ w_ ⟨rfl, ⟨nd, rfl⟩⟩))
                have hg := Aside0.mk (show ptrFits a0 j = true from spec_l02Root.fits j (by rw [← HPV.out]; exact CQ.out) (.inr (by rw [HLS.out, ← HS.out]; have := CB.out; omega)))
                go_roundw
                case rel =>
                  refine ⟨j + 1, by rw [show wrap64 ((j : Int) + 1) = ((j + 1 : Nat) : Int) by (have := C9.out; unfold wrap64; omega)], ⟨by have := C9.out; omega⟩, ⟨fun i hi => ?_⟩, by repeat (first | exact Drawn0.refl _ | apply Drawn0.step)⟩
                  by_cases hij : i = j
                  · subst hij; exact hg.out
                  · exact hall.out i (by omega)
                case measure =>
                  rw [show wrap64 ((j : Int) + 1) = ((j + 1 : Nat) : Int) by (have := C9.out; unfold wrap64; omega)]
                  simp only [intOf, Int.toNat_natCast]
                  have := C9.out
                  omega
          · have cq2 : ptrOk p = false := by simpa using cq
            have HQ := Aside0.mk ((spec_l02Root.ptr p).trans (by rw [cq2]))
            have CQ := Aside0.mk cq2
            clear cq cq2
            go_wp2_with (first | (go_at_call 73; refine (spec_l02Pointer.calls p false _ HQ.out).mono ?_; rintro e_ w_ ⟨rfl, ⟨nd, rfl⟩⟩))
            go_ret
            refine ⟨?_, by first | exact pw_below_drewN HB.out _ | exact pw_below_drewN (pw_below_drewN HB.out _) _⟩
            have e_ : rootGood a0 = false := rootGood_bad j (by have := C9.out; omega) (by rw [ptrFits, ← HPV.out, CQ.out]; rfl)
            rw [← H.out, e_]; rfl
    · obtain rfl : j = 14 := by have := hj.out; omega
      have c9b0 : decide ((14 : Int) < (xs.length : Int)) = false := decide_eq_false (by rw [HXL.out]; decide)
      have c9b1 : decide (14 < xs.length) = false := decide_eq_false (by rw [HXL.out]; decide)
      go_wp2
      go_ret
      refine ⟨?_, pw_below_drewN HB.out _⟩
      rw [← H.out, rootGood_ok (by rw [← HS.out]; exact c1n) (by rw [← HS.out]; exact c2n) hall.out]; rfl

/-! ### spec_l02TableSize: function 40 -/
def spec_l02TableSize.f (a0 : Int) : Option (Bool) := if a0 ≥ 256 then (if (Int.tmod a0 128) = 0 then (some (decide (a0 ≤ 128128))) else (some false)) else (some false)
set_option maxHeartbeats 8000000 in
set_option maxRecDepth 100000 in
theorem spec_l02TableSize.calls (a0 : Int) (r : Bool) (w : World) (h : spec_l02TableSize.f a0 = some r) :
    Calls Tryd.prog 40 #[.int .i64 a0] w fun e w' => e = .returned (.bool r) ∧ Drawn0 w w' := by
  have H : (if a0 ≥ 256 then (if (Int.tmod a0 128) = 0 then (some (decide (a0 ≤ 128128))) else (some false)) else (some false)) = some r := h
  clear h
  by_cases c2 : a0 ≥ 256
  · rw [if_pos c2] at H
    have c2b0 : decide (256 ≤ a0) = true := decide_eq_true c2
    clear c2
    by_cases c3 : (Int.tmod a0 128) = 0
    · rw [if_pos c3] at H
      have c3b0 : ((Int.tmod a0 128) == 0) = true := beq_iff_eq.mpr c3
      have c3b1 : ((Int.tmod a0 128) != 0) = false := bne_eq_false_iff_eq.mpr c3
      clear c3
      obtain rfl := Option.some.inj H
      go_enter Tryd.func40, Tryd.ntmps40
      go_wp2
      go_ret
      exact ⟨by first | rfl | (simp; done) | (simp [*]; done), by repeat (first | exact Drawn0.refl _ | apply Drawn0.step)⟩
    · rw [if_neg c3] at H
      have c3b0 : ((Int.tmod a0 128) == 0) = false := beq_eq_false_iff_ne.mpr c3
      have c3b1 : ((Int.tmod a0 128) != 0) = true := bne_iff_ne.mpr c3
      obtain rfl := Option.some.inj H
      go_enter Tryd.func40, Tryd.ntmps40
      go_wp2
      go_ret
      exact ⟨by first | rfl | (simp; done) | (simp [*]; done), by repeat (first | exact Drawn0.refl _ | apply Drawn0.step)⟩
  · rw [if_neg c2] at H
    have c2b0 : decide (256 ≤ a0) = false := decide_eq_false c2
    clear c2
    obtain rfl := Option.some.inj H
    go_enter Tryd.func40, Tryd.ntmps40
    go_wp2
    go_ret
    exact ⟨by first | rfl | (simp; done) | (simp [*]; done), by repeat (first | exact Drawn0.refl _ | apply Drawn0.step)⟩

open Go.Proofs.YtkghgjehjchajaaDoorW Go.Proofs.YtkghgjehjchajaaDoorW.PrintHand Go.Proofs.YtkghgjehjchajaaDoorW.PrintHx
/-! ### spec_l02Fsinfo: function 56 -/
open Go.Proofs.YtkghgjehjchajaaDoorW.PrintLe Go.Proofs.YtkghgjehjchajaaDoorW.PrintGrow Go.Proofs.YtkghgjehjchajaaDoorW.PrintIno Go.Proofs.YtkghgjehjchajaaDoorW.PrintTab2 Go.Proofs.YtkghgjehjchajaaDoorW.PrintTab3 Go.Proofs.YtkghgjehjchajaaDoorW.PrintFsi
def spec_l02Fsinfo.f (a0 : List Int) : Option Bool := some (fsGood a0)
theorem spec_l02Fsinfo.win (x lo hi : Int) : spec_l02Within.f x lo hi = some (rng x lo hi) := within_i x lo hi
theorem spec_l02Fsinfo.tsz (x : Int) : spec_l02TableSize.f x = some (sizeI x) := size_i x
set_option maxHeartbeats 8000000 in
set_option maxRecDepth 100000 in
theorem spec_l02Fsinfo.calls (a0 : List Int) (n0 : a0.length = 68) (r : Bool) (w : World) (h : spec_l02Fsinfo.f a0 = some r) :
    Calls Tryd.prog 56 #[.agg (nums .i64 a0).toArray] w fun e w' => e = .returned (.bool r) ∧ Below w.heap.size w w' := by
  have H := Aside0.mk (Option.some.inj h)
  have N_ := Aside0.mk n0
  clear n0 h
  obtain ⟨x0, hx0⟩ : ∃ x, x = a0.getD 0 0 := ⟨_, rfl⟩
  obtain ⟨x1, hx1⟩ : ∃ x, x = a0.getD 1 0 := ⟨_, rfl⟩
  obtain ⟨x2, hx2⟩ : ∃ x, x = a0.getD 2 0 := ⟨_, rfl⟩
  obtain ⟨x3, hx3⟩ : ∃ x, x = a0.getD 3 0 := ⟨_, rfl⟩
  obtain ⟨x4, hx4⟩ : ∃ x, x = a0.getD 4 0 := ⟨_, rfl⟩
  obtain ⟨x5, hx5⟩ : ∃ x, x = a0.getD 5 0 := ⟨_, rfl⟩
  obtain ⟨x6, hx6⟩ : ∃ x, x = a0.getD 6 0 := ⟨_, rfl⟩
  obtain ⟨yi, hyi⟩ : ∃ x, x = a0.getD 7 0 := ⟨_, rfl⟩
  obtain ⟨ym, hym⟩ : ∃ x, x = a0.getD 22 0 := ⟨_, rfl⟩
  obtain ⟨xi, hxi⟩ : ∃ x, x = seg a0 7 15 := ⟨_, rfl⟩
  obtain ⟨xm, hxm⟩ : ∃ x, x = seg a0 22 15 := ⟨_, rfl⟩
  have NXI := Aside0.mk (show xi.length = 15 by rw [hxi]; exact part_len N_.out (by decide))
  have NXM := Aside0.mk (show xm.length = 15 by rw [hxm]; exact part_len N_.out (by decide))
  obtain ⟨pl, hpl⟩ : ∃ p, p = fsPtrs a0 := ⟨_, rfl⟩
  have NPL := Aside0.mk (show pl.length = 59 by rw [hpl]; exact fsPtrs_length N_.out)
  have HPL := Aside0.mk (show pl = (seg xi 1 14 ++ seg xm 1 14) ++ seg a0 37 31 by rw [hpl, hxi, hxm]; rfl)
  obtain ⟨b0, hb0⟩ : ∃ b, b = rng x0 1 1099511627776 := ⟨_, rfl⟩
  have Wb0 := Aside0.mk (show spec_l02Within.f x0 1 1099511627776 = some b0 by rw [hb0]; exact spec_l02Fsinfo.win _ _ _)
  obtain ⟨b1, hb1⟩ : ∃ b, b = rng x3 1 1099511627776 := ⟨_, rfl⟩
  have Wb1 := Aside0.mk (show spec_l02Within.f x3 1 1099511627776 = some b1 by rw [hb1]; exact spec_l02Fsinfo.win _ _ _)
  obtain ⟨b2, hb2⟩ : ∃ b, b = rng x4 0 1099511627776 := ⟨_, rfl⟩
  have Wb2 := Aside0.mk (show spec_l02Within.f x4 0 1099511627776 = some b2 by rw [hb2]; exact spec_l02Fsinfo.win _ _ _)
  obtain ⟨b3, hb3⟩ : ∃ b, b = rng x1 64 2048 := ⟨_, rfl⟩
  have Wb3 := Aside0.mk (show spec_l02Within.f x1 64 2048 = some b3 by rw [hb3]; exact spec_l02Fsinfo.win _ _ _)
  obtain ⟨b4, hb4⟩ : ∃ b, b = rng x2 2 (wrap64 (x1 - 1)) := ⟨_, rfl⟩
  have Wb4 := Aside0.mk (show spec_l02Within.f x2 2 (wrap64 (x1 - 1)) = some b4 by rw [hb4]; exact spec_l02Fsinfo.win _ _ _)
  obtain ⟨b5, hb5⟩ : ∃ b, b = rng x5 0 1000 := ⟨_, rfl⟩
  have Wb5 := Aside0.mk (show spec_l02Within.f x5 0 1000 = some b5 by rw [hb5]; exact spec_l02Fsinfo.win _ _ _)
  obtain ⟨b6, hb6⟩ : ∃ b, b = rng x6 8192 65536 := ⟨_, rfl⟩
  have Wb6 := Aside0.mk (show spec_l02Within.f x6 8192 65536 = some b6 by rw [hb6]; exact spec_l02Fsinfo.win _ _ _)
  obtain ⟨b7, hb7⟩ : ∃ b, b = rootGood xi := ⟨_, rfl⟩
  have Wb7 := Aside0.mk (show spec_l02Root.f xi = some b7 by rw [hb7]; rfl)
  obtain ⟨b8, hb8⟩ : ∃ b, b = rootGood xm := ⟨_, rfl⟩
  have Wb8 := Aside0.mk (show spec_l02Root.f xm = some b8 by rw [hb8]; rfl)
  obtain ⟨b9, hb9⟩ : ∃ b, b = sizeI yi := ⟨_, rfl⟩
  have Wb9 := Aside0.mk (show spec_l02TableSize.f yi = some b9 by rw [hb9]; exact spec_l02Fsinfo.tsz _)
  obtain ⟨bz, hbz⟩ : ∃ b, b = (x6 != 0) := ⟨_, rfl⟩
  obtain ⟨bm, hbm⟩ : ∃ b, b = (ym != wrap64 (4 * x1)) := ⟨_, rfl⟩
  have WZ := Aside0.mk hbz.symm
  have WM := Aside0.mk hbm.symm
  have HR3 := Aside0.mk (show b3 = true → 64 ≤ x1 ∧ x1 ≤ 2048 from fun e_ => rng_of (hb3.symm.trans e_))
  have HIN := Aside0.mk (show fsGood a0 = (b0 && (b1 && (b2 && (b3 && (b4 && (b5 && ((!bz || b6) && (b7 && (b8 && (!bm && (b9 && pl.all (fsPtr x1)))))))))))) by
    rw [hb7, hb8, hpl, ← fsTop_w x0 x1 x2 x3 x4 x5 x6 yi ym (rootGood xi) (rootGood xm) ((fsPtrs a0).all (fsPtr x1)) b0 b1 b2 b3 b4 b5 bz b6 bm b9 hb0.symm hb1.symm hb2.symm hb3.symm hb4.symm hb5.symm hbz.symm hb6.symm hbm.symm hb9.symm, hx0, hx1, hx2, hx3, hx4, hx5, hx6, hyi, hym, hxi, hxm]
    rfl)
  have Xx0 := Aside0.mk hx0
  have Xx1 := Aside0.mk hx1
  have Xx2 := Aside0.mk hx2
  have Xx3 := Aside0.mk hx3
  have Xx4 := Aside0.mk hx4
  have Xx5 := Aside0.mk hx5
  have Xx6 := Aside0.mk hx6
  have Xyi := Aside0.mk hyi
  have Xym := Aside0.mk hym
  have XI := Aside0.mk hxi
  have XM := Aside0.mk hxm
  clear hxi hxm hpl hx0 hx1 hx2 hx3 hx4 hx5 hx6 hyi hym hb0 hb1 hb2 hb3 hb4 hb5 hb6 hb7 hb8 hb9 hbz hbm
  have HB0 : Aside0 (Below w.heap.size w w) := ⟨Below.refl _ _⟩
  obtain ⟨s0, Sz0⟩ : ∃ s0, Aside0 (w.heap.size = s0) := ⟨_, ⟨rfl⟩⟩
  have hw0 : w.heap.size ≤ s0 := Nat.le_of_eq Sz0.out
  have hw1 : s0 ≤ w.heap.size := Nat.le_of_eq Sz0.out.symm
  have HBP := Aside0.mk (show seg xi 1 14 = seg xi 1 14 from rfl)
  clear HBP
  go_enter Tryd.func56, Tryd.ntmps56
  go_wp2_with (first | ((with_reducible refine gate_dst (N := 1) rfl ?_); refine hx_box rfl 1 rfl 48 (.tmp 0) rfl Sz0 (.agg (nums .i64 a0).toArray) (nums .i64 a0).toArray rfl rfl ?_; intro w1 s1 L1 Sz1 b1_ g_; have H1 := Aside0.mk g_; have HB := Aside0.mk (below_then HB0.out HB0.out.size b1_); clear g_ HB0 b1_) | ((with_reducible refine gate_dst (N := 7) rfl ?_); refine hx_loadf rfl 3 (.tmp 6) rfl s0 0 rfl Tryd.underlying3 rfl H1.out (lt_len (n := 68) N_.out (by decide)) ?_; rw [← Xx0.out]) | ((with_reducible refine gate_dst (N := 8) rfl ?_); refine goesL_ (some 8) rfl rfl Tryd.func37 (by kernel_rfl) rfl #[.int .i64 x0, .int .i64 1, .int .i64 1099511627776] rfl (by (try simp only [List.map_toArray, List.map_cons, List.map_nil]); first | done | rfl) ?_; refine (spec_l02Within.calls x0 1 1099511627776 b0 _ Wb0.out).mono ?_; rintro e_ w_ ⟨rfl, d_⟩; have b_ := kept_drawn d_; refine ⟨_, rfl, ?_⟩; have Hn := Aside0.mk (blk_below H1.out b_); have HBn := Aside0.mk (below_then HB.out HB.out.size b_); clear b_ d_ H1 HB; have H1 := Hn; have HB := HBn; clear Hn HBn; cases b0) | ((with_reducible refine gate_dst (N := 12) rfl ?_); refine Go.Proofs.YtkghgjehjchajaaDoorW.PrintTab2.ungd (by rfl) ?_; refine hx_loadf rfl 3 (.tmp 11) rfl s0 3 rfl Tryd.underlying3 rfl H1.out (lt_len (n := 68) N_.out (by decide)) ?_; rw [← Xx3.out]) | ((with_reducible refine gate_dst (N := 13) rfl ?_); refine Go.Proofs.YtkghgjehjchajaaDoorW.PrintTab2.ungd (by rfl) ?_; refine goesL_ (some 13) rfl rfl Tryd.func37 (by kernel_rfl) rfl #[.int .i64 x3, .int .i64 1, .int .i64 1099511627776] rfl (by (try simp only [List.map_toArray, List.map_cons, List.map_nil]); first | done | rfl) ?_; refine (spec_l02Within.calls x3 1 1099511627776 b1 _ Wb1.out).mono ?_; rintro e_ w_ ⟨rfl, d_⟩; have b_ := kept_drawn d_; refine ⟨_, rfl, ?_⟩; have Hn := Aside0.mk (blk_below H1.out b_); have HBn := Aside0.mk (below_then HB.out HB.out.size b_); clear b_ d_ H1 HB; have H1 := Hn; have HB := HBn; clear Hn HBn; cases b1) | ((with_reducible refine gate_dst (N := 18) rfl ?_); refine Go.Proofs.YtkghgjehjchajaaDoorW.PrintTab2.ungd (by rfl) ?_; refine hx_loadf rfl 3 (.tmp 17) rfl s0 4 rfl Tryd.underlying3 rfl H1.out (lt_len (n := 68) N_.out (by decide)) ?_; rw [← Xx4.out]) | ((with_reducible refine gate_dst (N := 19) rfl ?_); refine Go.Proofs.YtkghgjehjchajaaDoorW.PrintTab2.ungd (by rfl) ?_; refine goesL_ (some 19) rfl rfl Tryd.func37 (by kernel_rfl) rfl #[.int .i64 x4, .int .i64 0, .int .i64 1099511627776] rfl (by (try simp only [List.map_toArray, List.map_cons, List.map_nil]); first | done | rfl) ?_; refine (spec_l02Within.calls x4 0 1099511627776 b2 _ Wb2.out).mono ?_; rintro e_ w_ ⟨rfl, d_⟩; have b_ := kept_drawn d_; refine ⟨_, rfl, ?_⟩; have Hn := Aside0.mk (blk_below H1.out b_); have HBn := Aside0.mk (below_then HB.out HB.out.size b_); clear b_ d_ H1 HB; have H1 := Hn; have HB := HBn; clear Hn HBn; cases b2) | ((with_reducible refine gate_dst (N := 23) rfl ?_); refine hx_loadf rfl 3 (.tmp 22) rfl s0 1 rfl Tryd.underlying3 rfl H1.out (lt_len (n := 68) N_.out (by decide)) ?_; rw [← Xx1.out]) | ((with_reducible refine gate_dst (N := 24) rfl ?_); refine goesL_ (some 24) rfl rfl Tryd.func37 (by kernel_rfl) rfl #[.int .i64 x1, .int .i64 64, .int .i64 2048] rfl (by (try simp only [List.map_toArray, List.map_cons, List.map_nil]); first | done | rfl) ?_; refine (spec_l02Within.calls x1 64 2048 b3 _ Wb3.out).mono ?_; rintro e_ w_ ⟨rfl, d_⟩; have b_ := kept_drawn d_; refine ⟨_, rfl, ?_⟩; have Hn := Aside0.mk (blk_below H1.out b_); have HBn := Aside0.mk (below_then HB.out HB.out.size b_); clear b_ d_ H1 HB; have H1 := Hn; have HB := HBn; clear Hn HBn; cases b3) | ((with_reducible refine gate_dst (N := 28) rfl ?_); refine Go.Proofs.YtkghgjehjchajaaDoorW.PrintTab2.ungd (by rfl) ?_; refine hx_loadf rfl 3 (.tmp 27) rfl s0 2 rfl Tryd.underlying3 rfl H1.out (lt_len (n := 68) N_.out (by decide)) ?_; rw [← Xx2.out]) | ((with_reducible refine gate_dst (N := 30) rfl ?_); refine Go.Proofs.YtkghgjehjchajaaDoorW.PrintTab2.ungd (by rfl) ?_; refine hx_loadf rfl 3 (.tmp 29) rfl s0 1 rfl Tryd.underlying3 rfl H1.out (lt_len (n := 68) N_.out (by decide)) ?_; rw [← Xx1.out]) | ((with_reducible refine gate_dst (N := 32) rfl ?_); refine Go.Proofs.YtkghgjehjchajaaDoorW.PrintTab2.ungd (by rfl) ?_; refine goesL_ (some 32) rfl rfl Tryd.func37 (by kernel_rfl) rfl #[.int .i64 x2, .int .i64 2, .int .i64 (wrap64 (x1 - 1))] rfl (by (try simp only [List.map_toArray, List.map_cons, List.map_nil]); first | done | rfl) ?_; refine (spec_l02Within.calls x2 2 (wrap64 (x1 - 1)) b4 _ Wb4.out).mono ?_; rintro e_ w_ ⟨rfl, d_⟩; have b_ := kept_drawn d_; refine ⟨_, rfl, ?_⟩; have Hn := Aside0.mk (blk_below H1.out b_); have HBn := Aside0.mk (below_then HB.out HB.out.size b_); clear b_ d_ H1 HB; have H1 := Hn; have HB := HBn; clear Hn HBn; cases b4) | ((with_reducible refine gate_dst (N := 37) rfl ?_); refine Go.Proofs.YtkghgjehjchajaaDoorW.PrintTab2.ungd (by rfl) ?_; refine hx_loadf rfl 3 (.tmp 36) rfl s0 5 rfl Tryd.underlying3 rfl H1.out (lt_len (n := 68) N_.out (by decide)) ?_; rw [← Xx5.out]) | ((with_reducible refine gate_dst (N := 38) rfl ?_); refine Go.Proofs.YtkghgjehjchajaaDoorW.PrintTab2.ungd (by rfl) ?_; refine goesL_ (some 38) rfl rfl Tryd.func37 (by kernel_rfl) rfl #[.int .i64 x5, .int .i64 0, .int .i64 1000] rfl (by (try simp only [List.map_toArray, List.map_cons, List.map_nil]); first | done | rfl) ?_; refine (spec_l02Within.calls x5 0 1000 b5 _ Wb5.out).mono ?_; rintro e_ w_ ⟨rfl, d_⟩; have b_ := kept_drawn d_; refine ⟨_, rfl, ?_⟩; have Hn := Aside0.mk (blk_below H1.out b_); have HBn := Aside0.mk (below_then HB.out HB.out.size b_); clear b_ d_ H1 HB; have H1 := Hn; have HB := HBn; clear Hn HBn; cases b5) | ((with_reducible refine gate_dst (N := 42) rfl ?_); refine hx_loadf rfl 3 (.tmp 41) rfl s0 6 rfl Tryd.underlying3 rfl H1.out (lt_len (n := 68) N_.out (by decide)) ?_; rw [← Xx6.out]) | ((with_reducible refine gate_dst (N := 43) rfl ?_); refine hx_neqi rfl 3 3 (.tmp 42) _ rfl Tryd.underlying3 x6 0 rfl rfl bz WZ ?_; cases bz) | ((with_reducible refine gate_dst (N := 46) rfl ?_); refine Go.Proofs.YtkghgjehjchajaaDoorW.PrintTab2.ungd (by rfl) ?_; refine hx_loadf rfl 3 (.tmp 45) rfl s0 6 rfl Tryd.underlying3 rfl H1.out (lt_len (n := 68) N_.out (by decide)) ?_; rw [← Xx6.out]) | ((with_reducible refine gate_dst (N := 47) rfl ?_); refine Go.Proofs.YtkghgjehjchajaaDoorW.PrintTab2.ungd (by rfl) ?_; refine goesL_ (some 47) rfl rfl Tryd.func37 (by kernel_rfl) rfl #[.int .i64 x6, .int .i64 8192, .int .i64 65536] rfl (by (try simp only [List.map_toArray, List.map_cons, List.map_nil]); first | done | rfl) ?_; refine (spec_l02Within.calls x6 8192 65536 b6 _ Wb6.out).mono ?_; rintro e_ w_ ⟨rfl, d_⟩; have b_ := kept_drawn d_; refine ⟨_, rfl, ?_⟩; have Hn := Aside0.mk (blk_below H1.out b_); have HBn := Aside0.mk (below_then HB.out HB.out.size b_); clear b_ d_ H1 HB; have H1 := Hn; have HB := HBn; clear Hn HBn; cases b6) | ((with_reducible refine gate_dst (N := 52) rfl ?_); refine Go.Proofs.YtkghgjehjchajaaDoorW.PrintTab2.ungd (by rfl) ?_; refine hx_loadp rfl 31 (.tmp 51) rfl s0 7 15 rfl Tryd.underlying31 rfl (by kernel_rfl) H1.out (le_len (n := 68) N_.out (by decide)) ?_; rw [← XI.out]) | ((with_reducible refine gate_dst (N := 53) rfl ?_); refine Go.Proofs.YtkghgjehjchajaaDoorW.PrintTab2.ungd (by rfl) ?_; refine goesL_ (some 53) rfl rfl Tryd.func39 (by kernel_rfl) rfl #[.agg (nums .i64 xi).toArray] rfl (by (try simp only [List.map_toArray, List.map_cons, List.map_nil]); first | done | rfl) ?_; refine (spec_l02Root.calls xi NXI.out b7 _ Wb7.out).mono ?_; rintro e_ w_ ⟨rfl, d_⟩; have b_ := d_; refine ⟨_, rfl, ?_⟩; have Hn := Aside0.mk (blk_below H1.out b_); have HBn := Aside0.mk (below_then HB.out HB.out.size b_); clear b_ d_ H1 HB; have H1 := Hn; have HB := HBn; clear Hn HBn; cases b7) | ((with_reducible refine gate_dst (N := 58) rfl ?_); refine Go.Proofs.YtkghgjehjchajaaDoorW.PrintTab2.ungd (by rfl) ?_; refine hx_loadp rfl 31 (.tmp 57) rfl s0 22 15 rfl Tryd.underlying31 rfl (by kernel_rfl) H1.out (le_len (n := 68) N_.out (by decide)) ?_; rw [← XM.out]) | ((with_reducible refine gate_dst (N := 59) rfl ?_); refine Go.Proofs.YtkghgjehjchajaaDoorW.PrintTab2.ungd (by rfl) ?_; refine goesL_ (some 59) rfl rfl Tryd.func39 (by kernel_rfl) rfl #[.agg (nums .i64 xm).toArray] rfl (by (try simp only [List.map_toArray, List.map_cons, List.map_nil]); first | done | rfl) ?_; refine (spec_l02Root.calls xm NXM.out b8 _ Wb8.out).mono ?_; rintro e_ w_ ⟨rfl, d_⟩; have b_ := d_; refine ⟨_, rfl, ?_⟩; have Hn := Aside0.mk (blk_below H1.out b_); have HBn := Aside0.mk (below_then HB.out HB.out.size b_); clear b_ d_ H1 HB; have H1 := Hn; have HB := HBn; clear Hn HBn; cases b8) | ((with_reducible refine gate_dst (N := 64) rfl ?_); refine hx_loadf rfl 3 (.tmp 63) rfl s0 22 rfl Tryd.underlying3 rfl H1.out (lt_len (n := 68) N_.out (by decide)) ?_; rw [← Xym.out]) | ((with_reducible refine gate_dst (N := 66) rfl ?_); refine hx_loadf rfl 3 (.tmp 65) rfl s0 1 rfl Tryd.underlying3 rfl H1.out (lt_len (n := 68) N_.out (by decide)) ?_; rw [← Xx1.out]) | ((with_reducible refine gate_dst (N := 68) rfl ?_); refine hx_neqi rfl 3 3 (.tmp 64) (.tmp 67) rfl Tryd.underlying3 ym (wrap64 (4 * x1)) rfl rfl bm WM ?_; cases bm) | ((with_reducible refine gate_dst (N := 72) rfl ?_); refine Go.Proofs.YtkghgjehjchajaaDoorW.PrintTab2.ungd (by rfl) ?_; refine hx_loadf rfl 3 (.tmp 71) rfl s0 7 rfl Tryd.underlying3 rfl H1.out (lt_len (n := 68) N_.out (by decide)) ?_; rw [← Xyi.out]) | ((with_reducible refine gate_dst (N := 73) rfl ?_); refine Go.Proofs.YtkghgjehjchajaaDoorW.PrintTab2.ungd (by rfl) ?_; refine goesL_ (some 73) rfl rfl Tryd.func40 (by kernel_rfl) rfl #[.int .i64 yi] rfl (by (try simp only [List.map_toArray, List.map_cons, List.map_nil]); first | done | rfl) ?_; refine (spec_l02TableSize.calls yi b9 _ Wb9.out).mono ?_; rintro e_ w_ ⟨rfl, d_⟩; have b_ := kept_drawn d_; refine ⟨_, rfl, ?_⟩; have Hn := Aside0.mk (blk_below H1.out b_); have HBn := Aside0.mk (below_then HB.out HB.out.size b_); clear b_ d_ H1 HB; have H1 := Hn; have HB := HBn; clear Hn HBn; cases b9))
  all_goals (try (go_ret; exact ⟨by rw [← H.out, HIN.out]; rfl, HB.out⟩))
  all_goals
    have HX1 := Aside0.mk (HR3.out (by first | rfl | trivial))
    have HF := Aside0.mk (show fsGood a0 = pl.all (fsPtr x1) by rw [HIN.out]; rfl)
    have HBS := Aside0.mk HB.out.size
    have info3_ : (Tryd.prog.info? 3).map (fun i => (i.zero, i.size, i.bytes)) = some (some (.int .i64 0), 1, 8) := by kernel_rfl
    obtain ⟨pi, hpi⟩ : ∃ p, p = seg xi 1 14 := ⟨_, rfl⟩
    obtain ⟨pm, hpm⟩ : ∃ p, p = seg xm 1 14 := ⟨_, rfl⟩
    have EPI := Aside0.mk (show spec_l02Pointers.f xi = some pi by rw [hpi]; exact if_pos NXI.out)
    have EPM := Aside0.mk (show spec_l02Pointers.f xm = some pm by rw [hpm]; exact if_pos NXM.out)
    have LPI := Aside0.mk (show pi.length = 14 by rw [hpi]; exact part_len (n := 15) NXI.out (by decide))
    have LPM := Aside0.mk (show pm.length = 14 by rw [hpm]; exact part_len (n := 15) NXM.out (by decide))
    have EPL := Aside0.mk (show (pi ++ pm) ++ seg a0 37 31 = pl by rw [HPL.out, hpi, hpm])
    clear hpi hpm HIN HR3
    refine wp_region_grow_tail 6 [Is (.pointer (some ⟨s0, 7, none⟩)), Is (.agg (nums .i64 xi).toArray), Own (Kd.int .i64) 3 w.heap.size pi, Is (.pointer (some ⟨s0, 22, none⟩)), Is (.agg (nums .i64 xm).toArray), Own (Kd.int .i64) 3 w.heap.size pm] (by kernel_rfl) (by kernel_rfl) (by kernel_rfl) (by kernel_rfl) (allst_cons st_is (allst_cons st_is (allst_cons st_own (allst_cons st_is (allst_cons st_is (allst_cons st_own allst_nil)))))) ?_ (fun w2 hgn => ?_)
    · refine steps_cons ?_ ?_
      · refine stepO_val rfl [] [1] (by kernel_rfl) (.pointer (some ⟨s0, 7, none⟩)) (fun a w_ hg hf => ?_) (fun w_ _ => rfl)
        obtain ⟨_, ⟨o1, _⟩⟩ := hf
        have e1 : a.tmps[1]? = some (.pointer (some ⟨s0, 0, none⟩)) := o1.trans rfl
        unfold execOp
        simp only [PrintLast.eval_of e1, Act.eval]
        go_simp
        (try rfl)
      refine steps_cons ?_ ?_
      · refine stepO_val rfl [(0, 76)] [] (by kernel_rfl) (.agg (nums .i64 xi).toArray) (fun a w_ hg hf => ?_) (fun w_ _ => rfl)
        obtain ⟨⟨⟨_, e76, rfl⟩, _⟩, _⟩ := hf
        replace e76 : a.tmps[76]? = some (.pointer (some ⟨s0, 7, none⟩)) := e76
        have c_ : (loadVar 31 ⟨s0, 7, none⟩).run Tryd.prog w_ = .ok (.agg (nums .i64 xi).toArray) w_ := by have h_ := run_load_part (P := Tryd.prog) w_ s0 7 15 48 31 _ (0, 0) _ (blk_below H1.out hg) Tryd.underlying31 rfl (by kernel_rfl) (by rw [nums_size _ _ _ N_.out]; decide); rw [take_nums, Array.toArray_toList] at h_; rw [XI.out]; exact h_
        unfold execOp
        simp only [PrintLast.eval_of e76, Instr.loadAt, Instr.sureAddr, Sem.run_bind, Sem.run_pure, Result.andThen_ok, c_]
      refine steps_cons ?_ ?_
      · refine stepO_call rfl [(1, 77)] [] (by kernel_rfl) Tryd.func72 (by kernel_rfl) rfl rfl (fun a w_ hg hf => ?_)
        obtain ⟨⟨⟨_, e77, rfl⟩, _⟩, _⟩ := hf
        replace e77 : a.tmps[77]? = some (.agg (nums .i64 xi).toArray) := e77
        refine ⟨#[.agg (nums .i64 xi).toArray], (by simp only [List.map_toArray, List.map_cons, List.map_nil, PrintLast.eval_of e77]; first | done | rfl), (spec_l02Pointers.calls xi NXI.out pi w_ EPI.out).mono ?_⟩
        rintro e_ w2_ ⟨v_, rfl, R_, b_⟩
        exact ⟨_, rfl, b_, Kd.R_lower R_ (Nat.le_trans HBS.out hg.size)⟩
      refine steps_cons ?_ ?_
      · refine stepO_val rfl [] [1] (by kernel_rfl) (.pointer (some ⟨s0, 22, none⟩)) (fun a w_ hg hf => ?_) (fun w_ _ => rfl)
        obtain ⟨_, ⟨o1, _⟩⟩ := hf
        have e1 : a.tmps[1]? = some (.pointer (some ⟨s0, 0, none⟩)) := o1.trans rfl
        unfold execOp
        simp only [PrintLast.eval_of e1, Act.eval]
        go_simp
        (try rfl)
      refine steps_cons ?_ ?_
      · refine stepO_val rfl [(3, 79)] [] (by kernel_rfl) (.agg (nums .i64 xm).toArray) (fun a w_ hg hf => ?_) (fun w_ _ => rfl)
        obtain ⟨⟨⟨_, e79, rfl⟩, _⟩, _⟩ := hf
        replace e79 : a.tmps[79]? = some (.pointer (some ⟨s0, 22, none⟩)) := e79
        have c_ : (loadVar 31 ⟨s0, 22, none⟩).run Tryd.prog w_ = .ok (.agg (nums .i64 xm).toArray) w_ := by have h_ := run_load_part (P := Tryd.prog) w_ s0 22 15 48 31 _ (0, 0) _ (blk_below H1.out hg) Tryd.underlying31 rfl (by kernel_rfl) (by rw [nums_size _ _ _ N_.out]; decide); rw [take_nums, Array.toArray_toList] at h_; rw [XM.out]; exact h_
        unfold execOp
        simp only [PrintLast.eval_of e79, Instr.loadAt, Instr.sureAddr, Sem.run_bind, Sem.run_pure, Result.andThen_ok, c_]
      refine steps_cons ?_ ?_
      · refine stepO_call rfl [(4, 80)] [] (by kernel_rfl) Tryd.func72 (by kernel_rfl) rfl rfl (fun a w_ hg hf => ?_)
        obtain ⟨⟨⟨_, e80, rfl⟩, _⟩, _⟩ := hf
        replace e80 : a.tmps[80]? = some (.agg (nums .i64 xm).toArray) := e80
        refine ⟨#[.agg (nums .i64 xm).toArray], (by simp only [List.map_toArray, List.map_cons, List.map_nil, PrintLast.eval_of e80]; first | done | rfl), (spec_l02Pointers.calls xm NXM.out pm w_ EPM.out).mono ?_⟩
        rintro e_ w2_ ⟨v_, rfl, R_, b_⟩
        exact ⟨_, rfl, b_, Kd.R_lower R_ (Nat.le_trans HBS.out hg.size)⟩
      exact steps_nil
    · skip
      refine ends_cons (fun v0_ p0_ => ?_)
      obtain rfl : v0_ = _ := p0_
      refine ends_cons (fun v1_ p1_ => ?_)
      obtain rfl : v1_ = _ := p1_
      refine ends_cons (fun v2_ p2_ => ?_)
      replace p2_ := Aside0.mk (show Own (Kd.int .i64) 3 w.heap.size pi v2_ w2 from p2_)
      refine ends_cons (fun v3_ p3_ => ?_)
      obtain rfl : v3_ = _ := p3_
      refine ends_cons (fun v4_ p4_ => ?_)
      obtain rfl : v4_ = _ := p4_
      refine ends_cons (fun v5_ p5_ => ?_)
      replace p5_ := Aside0.mk (show Own (Kd.int .i64) 3 w.heap.size pm v5_ w2 from p5_)
      refine ends_nil ?_
      simp only [Act.put, List.setIfInBounds_toArray, List.set_cons_succ, List.set_cons_zero]
      have HB2 := Aside0.mk (below_then HB.out HB.out.size hgn)
      have H2 := Aside0.mk (blk_below H1.out hgn)
      obtain ⟨Ap, cp, ep_⟩ := Kd.R_slice p5_.out
      subst ep_
      have O2 := Aside0.mk (Kd.R_types p2_.out H2.out (by decide))
      clear hgn HB H1 p2_
      simp only [List.drop_succ_cons, List.drop_zero]
      go_wp2_with (first | ((with_reducible refine gate_dst (N := 82) rfl ?_); refine Kd.R_append_rows (Kd.int .i64) (w0 := w) w.heap.size rfl (.tmp 78) (.tmp 81) 122 3 (.int .i64 0) 8 rfl Tryd.underlying122 info3_ rfl (by decide) (by omega) v2_ pi pm _ _ _ (fun k => True ∧ k ≠ s0) (fun _ => False) rfl rfl O2.out (Kd.R_reads' p5_.out).2.2 (fun _ _ h => h) (fun _ h => h.elim) (fun k hk => ⟨trivial, by have := blk_lt H2.out; omega⟩) HB2.out HB2.out.size (by rw [LPI.out, LPM.out]; decide) ?_; intro v82 w3 ho hb hg_ hn_; have H3 := Aside0.mk (blk_grown H2.out hg_ (fun e_ => (O2.out.1 s0 e_.symm).2 rfl)); have O3 := Aside0.mk ho; have HB3 := Aside0.mk hb; clear ho hb hg_ hn_ H2 HB2 p5_) | ((with_reducible refine gate_dst (N := 86) rfl ?_); refine Kd.R_append_rows (Kd.int .i64) (w0 := w) w.heap.size rfl (.tmp 83) (.tmp 85) 122 3 (.int .i64 0) 8 rfl Tryd.underlying122 info3_ rfl (by decide) (by omega) v82 (pi ++ pm) (seg a0 37 31) _ 31 _ (fun k => True ∧ k ≠ s0) (fun _ => False) rfl rfl O3.out (part_reads H3.out 37 31 (by rw [N_.out]; decide) (by decide)) (fun _ _ h => h) (fun _ h => h.elim) (fun k hk => ⟨trivial, by have := blk_lt H3.out; omega⟩) HB3.out HB3.out.size (by rw [List.length_append, LPI.out, LPM.out]; decide) ?_; intro v86 w4 ho hb hg_ hn_; have H4 := Aside0.mk (blk_grown H3.out hg_ (fun e_ => (O3.out.1 s0 e_.symm).2 rfl)); have O4 := Aside0.mk ho; have HB4 := Aside0.mk hb; clear ho hb hg_ hn_ H3 HB3; rw [EPL.out] at O4; obtain ⟨A86, c86, ea_⟩ := Kd.R_slice O4.out; subst ea_))
      (try simp only [Act.put, List.setIfInBounds_toArray, List.set_cons_succ, List.set_cons_zero])
      go_loopw [5, 88] (fun v5 v88 wr => ∃ (j : Nat) (u5 : Value), u5 = v5 ∧ v88 = .int .i64 (j : Int) ∧ Aside0 (j ≤ 59) ∧ Aside0 (∀ i, i < j → fsPtr x1 (pl.getD i 0) = true) ∧ Aside0 (Kd.R (Kd.int .i64) 3 wr w.heap.size (fun k => True ∧ k ≠ s0) (.slice A86 pl.length c86) pl) ∧ Aside0 (wr.heap[s0]? = some (.cells (nums .i64 a0).toArray 48 (0, 0))) ∧ Aside0 (Below w.heap.size w wr)) (fun _ v88 _ => 59 - (intOf v88).toNat)
      case atStart => exact ⟨0, _, rfl, rfl, ⟨Nat.zero_le _⟩, ⟨fun i hi => absurd hi (by omega)⟩, O4, H4, HB4⟩
      case round =>
        clear O4 H4 HB4
        obtain ⟨j, v5, rfl, rfl, hj, HG, OP, H1, HB⟩ := hrel
        by_cases c9 : j < 59
        · have c9b0 : decide ((j : Int) < (pl.length : Int)) = true := decide_eq_true (by rw [NPL.out]; omega)
          have c9b1 : decide (j < pl.length) = true := decide_eq_true (by rw [NPL.out]; omega)
          have p112 : 0 ≤ (j : Int) := by omega
          have q112 : (j : Int) < (pl.length : Int) := by rw [NPL.out]; omega
          obtain ⟨ad112, e112, hx112⟩ := Kd.at_int (Kd.R_reads' OP.out).2.2 (j : Int) p112 q112
          (first | subst e112 | cases e112)
          rw [Int.toNat_natCast] at hx112
          replace p112 := eq_true p112
          replace q112 := eq_true q112
          have q113 : (j < pl.length) = True := eq_true (by rw [NPL.out]; omega)
          obtain ⟨p, hp⟩ : ∃ p, p = rd pl (j : Int) := ⟨_, rfl⟩
          rw [← hp] at hx112
          have HPV := Aside0.mk (show p = pl.getD j 0 by rw [hp, rd, Int.toNat_natCast])
          have C9 := Aside0.mk c9
          clear hp c9
          obtain ⟨bp, hbp⟩ : ∃ b, b = ptrOk p := ⟨_, rfl⟩
          have HQ := Aside0.mk (show spec_l02Pointer.f p = some bp by rw [hbp]; exact ptr_i p)
          have HBP := Aside0.mk hbp
          clear hbp
          cases bp with
          | false =>
            go_wp2_with (first | ((with_reducible refine gate_dst (N := 93) rfl ?_); refine goesL_ (some 93) rfl rfl Tryd.func73 (by kernel_rfl) rfl #[.int .i64 p] rfl (by (try simp only [List.map_toArray, List.map_cons, List.map_nil]); first | done | rfl) ?_; refine (spec_l02Pointer.calls p false _ HQ.out).mono ?_; rintro e_ w_ ⟨rfl, d_⟩; have b_ := kept_drawn d_; refine ⟨_, rfl, ?_⟩; have H5 := Aside0.mk (blk_below H1.out b_); have HB5 := Aside0.mk (below_then HB.out HB.out.size b_); have OP5 := Aside0.mk (Kd.R_below OP.out b_); clear b_ d_ H1 HB OP))
            go_ret
            have e_ : fsGood a0 = false := by rw [HF.out]; exact all_not (j := j) (by rw [NPL.out]; exact C9.out) (by rw [← HPV.out]; exact (by unfold fsPtr; rw [← HBP.out]; rfl))
            exact ⟨by rw [← H.out, e_]; first | done | rfl, HB5.out⟩
          | true =>
            by_cases cl : p < x1
            · have cl0 : decide (x1 ≤ p) = false := decide_eq_false (by omega)
              have CL := Aside0.mk cl
              clear cl
              go_wp2_with (first | ((with_reducible refine gate_dst (N := 93) rfl ?_); refine goesL_ (some 93) rfl rfl Tryd.func73 (by kernel_rfl) rfl #[.int .i64 p] rfl (by (try simp only [List.map_toArray, List.map_cons, List.map_nil]); first | done | rfl) ?_; refine (spec_l02Pointer.calls p true _ HQ.out).mono ?_; rintro e_ w_ ⟨rfl, d_⟩; have b_ := kept_drawn d_; refine ⟨_, rfl, ?_⟩; have H5 := Aside0.mk (blk_below H1.out b_); have HB5 := Aside0.mk (below_then HB.out HB.out.size b_); have OP5 := Aside0.mk (Kd.R_below OP.out b_); clear b_ d_ H1 HB OP) | ((with_reducible refine gate_dst (N := 98) rfl ?_); refine Go.Proofs.YtkghgjehjchajaaDoorW.PrintTab2.ungd (by rfl) ?_; refine hx_loadf rfl 3 (.tmp 97) rfl s0 1 rfl Tryd.underlying3 rfl H5.out (lt_len (n := 68) N_.out (by decide)) ?_; rw [← Xx1.out]))
              go_roundw
              case rel => exact ⟨j + 1, _, rfl, by rw [show wrap64 ((j : Int) + 1) = ((j + 1 : Nat) : Int) by (have := C9.out; unfold wrap64; omega)], ⟨by have := C9.out; omega⟩, ⟨fun i hi => by
                by_cases hij : i = j
                · rw [hij, ← HPV.out]; exact (by unfold fsPtr; rw [← HBP.out, decide_eq_true (show p < x1 by have := CL.out; omega)]; rfl)
                · exact HG.out i (by omega)⟩, OP5, H5, HB5⟩
              case measure =>
                rw [show wrap64 ((j : Int) + 1) = ((j + 1 : Nat) : Int) by (have := C9.out; unfold wrap64; omega)]
                simp only [intOf, Int.toNat_natCast]
                have := C9.out
                omega
            · have cl0 : decide (x1 ≤ p) = true := decide_eq_true (by omega)
              have CL := Aside0.mk cl
              clear cl
              go_wp2_with (first | ((with_reducible refine gate_dst (N := 93) rfl ?_); refine goesL_ (some 93) rfl rfl Tryd.func73 (by kernel_rfl) rfl #[.int .i64 p] rfl (by (try simp only [List.map_toArray, List.map_cons, List.map_nil]); first | done | rfl) ?_; refine (spec_l02Pointer.calls p true _ HQ.out).mono ?_; rintro e_ w_ ⟨rfl, d_⟩; have b_ := kept_drawn d_; refine ⟨_, rfl, ?_⟩; have H5 := Aside0.mk (blk_below H1.out b_); have HB5 := Aside0.mk (below_then HB.out HB.out.size b_); have OP5 := Aside0.mk (Kd.R_below OP.out b_); clear b_ d_ H1 HB OP) | ((with_reducible refine gate_dst (N := 98) rfl ?_); refine Go.Proofs.YtkghgjehjchajaaDoorW.PrintTab2.ungd (by rfl) ?_; refine hx_loadf rfl 3 (.tmp 97) rfl s0 1 rfl Tryd.underlying3 rfl H5.out (lt_len (n := 68) N_.out (by decide)) ?_; rw [← Xx1.out]))
              go_ret
              have e_ : fsGood a0 = false := by rw [HF.out]; exact all_not (j := j) (by rw [NPL.out]; exact C9.out) (by rw [← HPV.out]; exact (by unfold fsPtr; rw [← HBP.out, decide_eq_false (show ¬ p < x1 by have := CL.out; omega)]; rfl))
              exact ⟨by rw [← H.out, e_]; first | done | rfl, HB5.out⟩
        · obtain rfl : j = 59 := by have := hj.out; omega
          have c9b0 : decide ((59 : Int) < (pl.length : Int)) = false := decide_eq_false (by rw [NPL.out]; decide)
          have c9b1 : decide (59 < pl.length) = false := decide_eq_false (by rw [NPL.out]; decide)
          clear c9
          go_wp2
          go_ret
          have e_ : fsGood a0 = true := by rw [HF.out]; exact all_of (fun j hj => HG.out j (by rw [← NPL.out]; exact hj))
          exact ⟨by rw [← H.out, e_]; first | done | rfl, HB.out⟩

open Go.Proofs.YtkghgjehjchajaaDoorW Go.Proofs.YtkghgjehjchajaaDoorW.PrintHand Go.Proofs.YtkghgjehjchajaaDoorW.PrintHx
/-! ### spec_EncodeFsinfo: function 20 -/
open Go.Proofs.YtkghgjehjchajaaDoorW.PrintLe Go.Proofs.YtkghgjehjchajaaDoorW.PrintGrow Go.Proofs.YtkghgjehjchajaaDoorW.PrintIno Go.Proofs.YtkghgjehjchajaaDoorW.PrintFsi Go.Proofs.YtkghgjehjchajaaDoorW.PrintFsb Go.Proofs.YtkghgjehjchajaaDoorW.PrintCrc
theorem l02Fill_l0 (n : Nat) (hn : n ≤ 1048576) : ∀ (d k : Nat) (l : List Int), l.length + d = n → d < k → spec_l02Fill.l0 k (n : Int) l = some (l ++ List.replicate d 0)
  | 0, k, l, h1, h2 => by
    obtain ⟨k, rfl⟩ := sucK h2
    simp only [spec_l02Fill.l0]
    rw [if_neg (by omega)]
    simp
  | d + 1, k, l, h1, h2 => by
    obtain ⟨k, rfl⟩ := sucK h2
    simp only [spec_l02Fill.l0]
    rw [if_pos (by omega), if_pos (by omega), l02Fill_l0 n hn d k _ (by rw [List.length_append, List.length_singleton]; omega) (by omega), List.append_assoc]
    rfl
theorem l02Fill_f (l : List Int) (n d k : Nat) (hn : n ≤ 1048576) (hl : l.length + d = n) (hk : d < k) : spec_l02Fill.f k l (n : Int) = some (l ++ List.replicate d 0) := by
  unfold spec_l02Fill.f
  simp only [Option.bind_some]
  rw [if_pos (by simp; omega), List.nil_append]
  exact l02Fill_l0 n hn d k l hl hk
def sumL : List (List Int) → Nat
  | [] => 0
  | x :: r => x.length + sumL r
theorem sumL_append (a b : List (List Int)) : sumL (a ++ b) = sumL a + sumL b := by
  induction a with
  | nil => simp [sumL]
  | cons x a ih => simp [sumL, ih]; omega
theorem sumL_flatten (a : List (List Int)) : sumL a = a.flatten.length := by
  induction a with
  | nil => simp [sumL]
  | cons x a ih => simp [sumL, ih]
theorem l02Join_l0 (xs : List (List Int)) (hx : xs.length ≤ 1048576) : ∀ (d i k : Nat) (out : List Int), i + d = xs.length → d < k → out.length + sumL (xs.drop i) < 140737488355328 → spec_l02Join.l0 k out xs (xs.length : Int) (i : Int) = some (out ++ (xs.drop i).flatten)
  | 0, i, k, out, h1, h2, h3 => by
    obtain ⟨k, rfl⟩ := sucK h2
    simp only [spec_l02Join.l0]
    rw [if_neg (by omega), List.drop_eq_nil_of_le (by omega)]
    simp
  | d + 1, i, k, out, h1, h2, h3 => by
    obtain ⟨k, rfl⟩ := sucK h2
    simp only [spec_l02Join.l0]
    have hi : i < xs.length := by omega
    have hr : rd_L1 xs (i : Int) = xs[i] := by simp [rd_L1, hi]
    have hd := List.drop_eq_getElem_cons hi
    rw [hd, sumL] at h3
    rw [if_pos (by omega), if_pos (by omega), if_pos (by omega), hr, if_pos (by omega), w64n (by omega), l02Join_l0 xs hx d (i + 1) k _ (by omega) (by omega) (by rw [List.length_append]; omega), List.append_assoc]
    conv => rhs; rw [hd, List.flatten_cons]
theorem l02Join_f (xs : List (List Int)) (k : Nat) (hx : xs.length ≤ 1048576) (hk : xs.length < k) (hl : sumL xs < 140737488355328) : spec_l02Join.f k xs = some xs.flatten := by
  unfold spec_l02Join.f
  have h := l02Join_l0 xs hx xs.length 0 k [] (by omega) hk (by simpa using hl)
  simpa using h
theorem table_l0 : ∀ (d i k n : Nat), i + d = 8 → d < k → n < 4294967296 → spec_l02Table.l0 k (n : Int) (i : Int) = some ((stepN d n : Nat) : Int)
  | 0, i, k, n, h1, h2, h3 => by
    obtain ⟨k, rfl⟩ := sucK h2
    simp only [spec_l02Table.l0]
    rw [if_neg (by omega)]
    rfl
  | d + 1, i, k, n, h1, h2, h3 => by
    obtain ⟨k, rfl⟩ := sucK h2
    have e1 : Int.tmod (n : Int) 2 = ((n % 2 : Nat) : Int) := by rw [Int.tmod_eq_emod_of_nonneg (by omega)]; omega
    have e2 : Int.tdiv (n : Int) 2 % 4294967296 = ((n / 2 : Nat) : Int) := by rw [Int.tdiv_eq_ediv_of_nonneg (by omega)]; omega
    have e3 : (3988292384 : Int) = ((3988292384 : Nat) : Int) := rfl
    simp only [spec_l02Table.l0]
    rw [if_pos (by omega), e1, e2, w64n (by omega)]
    by_cases hp : n % 2 = 1
    · rw [if_pos (by omega), e3, xor_nat _ _ (by omega) (by omega), table_l0 d (i + 1) k _ (by omega) (by omega) (by have := stepB_lt h3; unfold stepB at this; rw [if_pos hp] at this; exact this)]
      simp only [stepN, stepB, if_pos hp]
    · rw [if_neg (by omega), table_l0 d (i + 1) k _ (by omega) (by omega) (by omega)]
      simp only [stepN, stepB, if_neg hp, Nat.xor_zero]
theorem table_f (n k : Nat) (hk : 8 < k) (hn : n < 4294967296) : spec_l02Table.f k (n : Int) = some ((stepN 8 n : Nat) : Int) := table_l0 8 0 k n rfl hk hn
theorem specCrc_l0 (l : List Int) (hb : ∀ x ∈ l, 0 ≤ x ∧ x ≤ 255) (hl : l.length ≤ 1048576) : ∀ (d i k n : Nat), i + d = l.length → d + 10 < k → n < 4294967296 → spec_Crc32.l0 k (n : Int) l (l.length : Int) (i : Int) = some (Go.bits .xor .u32 ((crcS n (nats (l.drop i)) : Nat) : Int) 4294967295)
  | 0, i, k, n, h1, h2, h3 => by
    obtain ⟨k, rfl⟩ := sucK h2
    simp only [spec_Crc32.l0]
    rw [if_neg (by omega), List.drop_eq_nil_of_le (by omega)]
    rfl
  | d + 1, i, k, n, h1, h2, h3 => by
    obtain ⟨k, rfl⟩ := sucK h2
    have hi : i < l.length := by omega
    have hx := hb _ (List.getElem_mem hi)
    obtain ⟨c, hc⟩ := Int.eq_ofNat_of_zero_le hx.1
    have hc8 : c < 256 := by omega
    simp only [spec_Crc32.l0]
    have hlt : n ^^^ c < 2 ^ 32 := Nat.xor_lt_two_pow (by omega) (by omega)
    rw [if_pos (by omega), if_pos (by omega), if_pos (by omega), rd_some hi, hc, show (c : Int) % 4294967296 = (c : Int) by omega, xor_nat _ _ h3 (by omega), Int.tmod_eq_emod_of_nonneg (by omega), show (((n ^^^ c : Nat) : Int) % 256) = (((n ^^^ c) % 256 : Nat) : Int) by omega, table_f _ k (by omega) (by omega), Option.bind_some, Int.tdiv_eq_ediv_of_nonneg (by omega), show ((n : Int) / 256 % 4294967296) = ((n / 256 : Nat) : Int) by omega, xor_nat _ _ (by omega) (stepN_lt 8 (by omega)), w64n (by omega), specCrc_l0 l hb hl d (i + 1) k _ (by omega) (by omega) (by rw [byte_step n c hc8]; exact stepN_lt 8 (by omega)), List.drop_eq_getElem_cons hi]
    simp only [nats, List.map_cons, hc, Int.toNat_natCast, crcS]
theorem specCrc_f (l : List Int) (hb : ∀ x ∈ l, 0 ≤ x ∧ x ≤ 255) (hl : l.length ≤ 1048576) (k : Nat) (hk : l.length + 10 < k) : spec_Crc32.f k l = some (Go.bits .xor .u32 ((crcS 4294967295 (nats l) : Nat) : Int) 4294967295) := by
  unfold spec_Crc32.f
  exact specCrc_l0 l hb hl l.length 0 k 4294967295 (by omega) hk (by omega)
theorem specCrc_v (l : List Int) (hb : ∀ x ∈ l, 0 ≤ x ∧ x ≤ 255) (hl : l.length ≤ 1048576) (k : Nat) (hk : l.length + 10 < k) : spec_Crc32.f k l = some (crcV l) := by
  have hlt := crcI_lt (nats l) (nats_byt hb) 4294967295 (by omega)
  have e : (4294967295 : Int) = ((4294967295 : Nat) : Int) := rfl
  rw [specCrc_f l hb hl k hk, crc_eq _ (nats_byt hb), e, xor_nat _ _ hlt (by omega)]
  rfl
theorem spec_EncodeFsinfo.sealed {a0 : List Int} (h : a0.length = 68) : spec_l02Sealed.f 2000 (fsBody a0) = some (fsFill a0 ++ leB (crcV (fsFill a0)) 4) := by
  have hb := fsFill_byt a0
  have hl := fsFill_length h
  have hr := crcV_range hb
  unfold spec_l02Sealed.f
  rw [show spec_l02Fill.f 2000 (fsBody a0) 508 = some (fsFill a0) from l02Fill_f (fsBody a0) 508 208 2000 (by decide) (by rw [fsBody_length h]) (by decide)]
  simp only [Option.bind_some]
  rw [specCrc_v (fsFill a0) hb (by rw [hl]; decide) 2000 (by rw [hl]; decide)]
  simp only [Option.bind_some]
  rw [w64 (by omega) (by omega), show spec_l02Put.f 2000 (crcV (fsFill a0)) 4 = some (leB (crcV (fsFill a0)) 4) from l02Put_f _ 4 2000 (by decide) hr.1 (by omega) (by decide)]
  simp only [Option.bind_some]
  rw [if_pos (by rw [hl, leB_length]; decide)]
def spec_EncodeFsinfo.f (a0 : List Int) : Option (List Int × Int) := some (if fsGood a0 = true then (fsFill a0 ++ leB (crcV (fsFill a0)) 4, 0) else ([], 7))
set_option maxHeartbeats 8000000 in
set_option maxRecDepth 100000 in
theorem spec_EncodeFsinfo.calls (a0 : List Int) (n0 : a0.length = 68) (r1 : List Int) (r2 : Int) (w : World) (h : spec_EncodeFsinfo.f a0 = some (r1, r2)) :
    Calls Tryd.prog 20 #[.agg (nums .i64 a0).toArray] w fun e w' => ∃ v0_ : Value, e = .returned (.tuple #[v0_, .int .i64 r2]) ∧ Kd.R (Kd.int .u8) 5 w' w.heap.size (fun _ => True) v0_ r1 ∧ Below w.heap.size w w' := by
  unfold spec_EncodeFsinfo.f at h
  have N_ := Aside0.mk n0
  have HB0 : Aside0 (Below w.heap.size w w) := ⟨Below.refl _ _⟩
  obtain ⟨s0, Sz0⟩ : ∃ s0, Aside0 (w.heap.size = s0) := ⟨_, ⟨rfl⟩⟩
  have hw0 : w.heap.size ≤ s0 := Nat.le_of_eq Sz0.out
  have hw1 : s0 ≤ w.heap.size := Nat.le_of_eq Sz0.out.symm
  by_cases hgood : fsGood a0 = true
  case neg =>
    rw [if_neg hgood] at h
    simp only [Option.some.injEq, Prod.mk.injEq] at h
    obtain ⟨rfl, rfl⟩ := h
    have HG := Aside0.mk (show spec_l02Fsinfo.f a0 = some false by rw [show false = fsGood a0 by simpa using hgood]; rfl)
    clear hgood n0
    go_enter Tryd.func20, Tryd.ntmps20
    go_wp2_with (first | ((with_reducible refine gate_dst (N := 1) rfl ?_); refine hx_box rfl 1 rfl 48 (.tmp 0) rfl Sz0 (.agg (nums .i64 a0).toArray) (nums .i64 a0).toArray rfl rfl ?_; intro w1 s1 L1 Sz1 b1 g_; have H_1 := Aside0.mk g_; have HB1 := Aside0.mk (below_then HB0.out HB0.out.size b1); clear g_ HB0 b1) | ((with_reducible refine gate_dst (N := 7) rfl ?_); refine hx_load rfl 48 (.tmp 1) rfl s0 68 rfl Tryd.underlying48 rfl (by kernel_rfl) H_1.out (nums_size _ _ _ N_.out) ?_) | ((with_reducible refine gate_dst (N := 8) rfl ?_); refine goesL_ (some 8) rfl rfl Tryd.func56 (by kernel_rfl) rfl #[.agg (nums .i64 a0).toArray] rfl (by (try simp only [List.map_toArray, List.map_cons, List.map_nil]); first | done | rfl) ?_; refine (spec_l02Fsinfo.calls a0 N_.out false _ HG.out).mono ?_; rintro e_ w2 ⟨rfl, b_⟩; refine ⟨_, rfl, ?_⟩; have HB2 := Aside0.mk (below_then HB1.out HB1.out.size b_); have H_2 := Aside0.mk (blk_below H_1.out b_); clear b_ HB1 H_1))
    go_ret2
    exact ⟨_, rfl, Kd.R_nil _ _ _ _ _, HB2.out⟩
  rw [if_pos hgood] at h
  simp only [Option.some.injEq, Prod.mk.injEq] at h
  obtain ⟨rfl, rfl⟩ := h
  have HG := Aside0.mk (show spec_l02Fsinfo.f a0 = some true by rw [← hgood]; rfl)
  have HSE := Aside0.mk (spec_EncodeFsinfo.sealed n0)
  have HHL := Aside0.mk (fsHead_length n0)
  have HBB := Aside0.mk (show fsBody a0 = fsHead a0 ++ flat4 (fsS a0) from rfl)
  obtain ⟨g0, g1, g2, g3, g4, g5, g6, g7, g8, g9⟩ := fsGood_get hgood
  have GS := Aside0.mk (fun j hj => fsS_get hgood n0 j hj)
  have info5_ : (Tryd.prog.info? 5).map (fun i => (i.zero, i.size, i.bytes)) = some (some (.int .u8 0), 1, 1) := by kernel_rfl
  obtain ⟨x0, hx0⟩ : ∃ x, x = a0.getD 0 0 := ⟨_, rfl⟩
  obtain ⟨x1, hx1⟩ : ∃ x, x = a0.getD 1 0 := ⟨_, rfl⟩
  obtain ⟨x2, hx2⟩ : ∃ x, x = a0.getD 2 0 := ⟨_, rfl⟩
  obtain ⟨x3, hx3⟩ : ∃ x, x = a0.getD 3 0 := ⟨_, rfl⟩
  obtain ⟨x4, hx4⟩ : ∃ x, x = a0.getD 4 0 := ⟨_, rfl⟩
  obtain ⟨x5, hx5⟩ : ∃ x, x = a0.getD 5 0 := ⟨_, rfl⟩
  obtain ⟨x6, hx6⟩ : ∃ x, x = a0.getD 6 0 := ⟨_, rfl⟩
  obtain ⟨xi, hxi⟩ : ∃ x, x = fsI a0 := ⟨_, rfl⟩
  obtain ⟨xm, hxm⟩ : ∃ x, x = fsM a0 := ⟨_, rfl⟩
  obtain ⟨xs, hxs⟩ : ∃ x, x = fsS a0 := ⟨_, rfl⟩
  have NXI := Aside0.mk (show xi.length = 15 by rw [hxi]; exact fsI_length n0)
  have NXM := Aside0.mk (show xm.length = 15 by rw [hxm]; exact fsM_length n0)
  have NXS := Aside0.mk (show xs.length = 31 by rw [hxs]; exact fsS_length n0)
  rw [← hx0] at g0
  rw [← hx1] at g1
  rw [← hx2] at g2
  rw [← hx3] at g3
  rw [← hx4] at g4
  rw [← hx5] at g5
  rw [← hx6] at g6
  rw [← hxi] at g7
  rw [← hxm] at g8
  rw [← hxs] at GS HBB
  have E0 := Aside0.mk (show spec_l02Put.f 20 x0 8 = some (leB x0 8) from l02Put_f x0 8 20 (by decide) (by omega) (by omega) (by decide))
  have E1 := Aside0.mk (show spec_l02Put.f 20 x1 4 = some (leB x1 4) from l02Put_f x1 4 20 (by decide) (by omega) (by omega) (by decide))
  have E2 := Aside0.mk (show spec_l02Put.f 20 x2 4 = some (leB x2 4) from l02Put_f x2 4 20 (by decide) (by omega) (by omega) (by decide))
  have E3 := Aside0.mk (show spec_l02Put.f 20 x3 8 = some (leB x3 8) from l02Put_f x3 8 20 (by decide) (by omega) (by omega) (by decide))
  have E4 := Aside0.mk (show spec_l02Put.f 20 x4 8 = some (leB x4 8) from l02Put_f x4 8 20 (by decide) (by omega) (by omega) (by decide))
  have E5 := Aside0.mk (show spec_l02Put.f 20 x5 4 = some (leB x5 4) from l02Put_f x5 4 20 (by decide) (by omega) (by omega) (by decide))
  have E6 := Aside0.mk (show spec_l02Put.f 20 x6 4 = some (leB x6 4) from l02Put_f x6 4 20 (by decide) (by omega) (by omega) (by decide))
  have ER7 := Aside0.mk (show spec_l02RootBytes.f xi = some (rootBytes xi) from if_pos g7)
  have ER8 := Aside0.mk (show spec_l02RootBytes.f xm = some (rootBytes xm) from if_pos g8)
  obtain ⟨fl, hfl⟩ : ∃ fl, fl = ([magicF, leB x0 8, leB x1 4, leB x2 4, leB x3 8, leB x4 8, leB x5 4, leB x6 4, rootBytes xi, rootBytes xm] : List (List Int)).flatten := ⟨_, rfl⟩
  have hfh : fsHead a0 = fl := by unfold fsHead fsParts; rw [hfl, ← hx0, ← hx1, ← hx2, ← hx3, ← hx4, ← hx5, ← hx6, ← hxi, ← hxm]
  rw [hfh] at HHL HBB
  have EJ := Aside0.mk (show spec_l02Join.f 20 [magicF, leB x0 8, leB x1 4, leB x2 4, leB x3 8, leB x4 8, leB x5 4, leB x6 4, rootBytes xi, rootBytes xm] = some fl by rw [hfl]; exact l02Join_f _ 20 (by simp) (by simp) (by rw [sumL_flatten, ← hfl, HHL.out]; decide))
  have X0 := Aside0.mk hx0
  have X1 := Aside0.mk hx1
  have X2 := Aside0.mk hx2
  have X3 := Aside0.mk hx3
  have X4 := Aside0.mk hx4
  have X5 := Aside0.mk hx5
  have X6 := Aside0.mk hx6
  have XI := Aside0.mk (show xi = seg a0 7 15 from hxi)
  have XM := Aside0.mk (show xm = seg a0 22 15 from hxm)
  have XS := Aside0.mk (show xs = seg a0 37 31 from hxs)
  clear n0 hx0 hx1 hx2 hx3 hx4 hx5 hx6 hxi hxm hxs hfl hfh hgood g0 g1 g2 g3 g4 g5 g6 g7 g8 g9
  go_enter Tryd.func20, Tryd.ntmps20
  go_wp2_with (first | ((with_reducible refine gate_dst (N := 1) rfl ?_); refine hx_box rfl 1 rfl 48 (.tmp 0) rfl Sz0 (.agg (nums .i64 a0).toArray) (nums .i64 a0).toArray rfl rfl ?_; intro w1 s1 L1 Sz1 b1 g_; have H_1 := Aside0.mk g_; have HB1 := Aside0.mk (below_then HB0.out HB0.out.size b1); clear g_ HB0 b1) | ((with_reducible refine gate_dst (N := 7) rfl ?_); refine hx_load rfl 48 (.tmp 1) rfl s0 68 rfl Tryd.underlying48 rfl (by kernel_rfl) H_1.out (nums_size _ _ _ N_.out) ?_) | ((with_reducible refine gate_dst (N := 8) rfl ?_); refine goesL_ (some 8) rfl rfl Tryd.func56 (by kernel_rfl) rfl #[.agg (nums .i64 a0).toArray] rfl (by (try simp only [List.map_toArray, List.map_cons, List.map_nil]); first | done | rfl) ?_; refine (spec_l02Fsinfo.calls a0 N_.out true _ HG.out).mono ?_; rintro e_ w2 ⟨rfl, b_⟩; refine ⟨_, rfl, ?_⟩; have HB2 := Aside0.mk (below_then HB1.out HB1.out.size b_); have H_2 := Aside0.mk (blk_below H_1.out b_); clear b_ HB1 H_1))
  have HBS := Aside0.mk HB2.out.size
  refine wp_region_grow_tailS 29 [LitB w2.heap.size (nums .u8 magicF).toArray 5 8, Row (Kd.int .u8) magicF, Is (.pointer (some ⟨s0, 0, none⟩)), Is (.int .i64 x0), Row (Kd.int .u8) (leB x0 8), Is (.pointer (some ⟨s0, 1, none⟩)), Is (.int .i64 x1), Row (Kd.int .u8) (leB x1 4), Is (.pointer (some ⟨s0, 2, none⟩)), Is (.int .i64 x2), Row (Kd.int .u8) (leB x2 4), Is (.pointer (some ⟨s0, 3, none⟩)), Is (.int .i64 x3), Row (Kd.int .u8) (leB x3 8), Is (.pointer (some ⟨s0, 4, none⟩)), Is (.int .i64 x4), Row (Kd.int .u8) (leB x4 8), Is (.pointer (some ⟨s0, 5, none⟩)), Is (.int .i64 x5), Row (Kd.int .u8) (leB x5 4), Is (.pointer (some ⟨s0, 6, none⟩)), Is (.int .i64 x6), Row (Kd.int .u8) (leB x6 4), Is (.pointer (some ⟨s0, 7, none⟩)), Is (.agg (nums .i64 xi).toArray), Row (Kd.int .u8) (rootBytes xi), Is (.pointer (some ⟨s0, 22, none⟩)), Is (.agg (nums .i64 xm).toArray), Row (Kd.int .u8) (rootBytes xm)] (by kernel_rfl) (by kernel_rfl) (by kernel_rfl) (by kernel_rfl) (allstS_cons stS_lit (allstS_cons stS_row (allstS_cons stS_is (allstS_cons stS_is (allstS_cons stS_row (allstS_cons stS_is (allstS_cons stS_is (allstS_cons stS_row (allstS_cons stS_is (allstS_cons stS_is (allstS_cons stS_row (allstS_cons stS_is (allstS_cons stS_is (allstS_cons stS_row (allstS_cons stS_is (allstS_cons stS_is (allstS_cons stS_row (allstS_cons stS_is (allstS_cons stS_is (allstS_cons stS_row (allstS_cons stS_is (allstS_cons stS_is (allstS_cons stS_row (allstS_cons stS_is (allstS_cons stS_is (allstS_cons stS_row (allstS_cons stS_is (allstS_cons stS_is (allstS_cons stS_row allstS_nil))))))))))))))))))))))))))))) ?_ (fun w3 hgn => ?_)
  · refine stepsS_cons ?_ ?_
    · refine stepS_of (stepO_run rfl [] [] (by kernel_rfl) (fun a w_ hg hf => ?_))
      refine ⟨.slice (some ⟨w_.heap.size, 0, none⟩) 8 8, w_.alloc (.cells (nums .u8 magicF).toArray 5), ?_, below_alloc (Below.refl _ _) _, ⟨_, _, hg.size, rfl, blk_new w_ _⟩⟩
      unfold execOp
      go_simp
      (try rfl)
    refine stepsS_cons ?_ ?_
    · refine stepS_run rfl [(0, 10)] [] (by kernel_rfl) (fun a w_ hg hf => ?_)
      obtain ⟨⟨⟨v10, e10, p10⟩, _⟩, _⟩ := hf
      replace e10 : a.tmps[10]? = some (v10) := e10
      obtain ⟨g10, fr10, hB10, rfl, hh10⟩ := p10
      refine ⟨.slice (some ⟨g10, 0, none⟩) 8 8, _, ?_, soft_freeze (p := ⟨g10, (nums .u8 magicF).toArray.size, none⟩) hB10 1, stS_row _ _ _ (soft_freeze (p := ⟨g10, (nums .u8 magicF).toArray.size, none⟩) hB10 1) (lit_row (k := .u8) magicF hh10 (by decide))⟩
      have h_ := run_convert_mark (P := Tryd.prog) w_ 28 5 _ fr10 g10 8 8 Tryd.underlying28 Tryd.underlying5 hh10
      unfold execOp
      simp only [PrintLast.eval_of e10, Sem.run_bind, h_, Result.andThen_ok, Sem.run_pure]
      (try rfl)
    refine stepsS_cons ?_ ?_
    · refine stepS_of (stepO_val rfl [] [1] (by kernel_rfl) (.pointer (some ⟨s0, 0, none⟩)) (fun a w_ hg hf => ?_) (fun w_ _ => rfl))
      obtain ⟨_, ⟨o1, _⟩⟩ := hf
      have e1 : a.tmps[1]? = some (.pointer (some ⟨s0, 0, none⟩)) := o1.trans rfl
      unfold execOp
      simp only [PrintLast.eval_of e1, Act.eval]
      go_simp
      (try rfl)
    refine stepsS_cons ?_ ?_
    · refine stepS_of (stepO_val rfl [(2, 12)] [] (by kernel_rfl) (.int .i64 x0) (fun a w_ hg hf => ?_) (fun w_ _ => rfl))
      obtain ⟨⟨⟨_, e12, rfl⟩, _⟩, _⟩ := hf
      replace e12 : a.tmps[12]? = some (.pointer (some ⟨s0, 0, none⟩)) := e12
      have c_ : w_.cell? ⟨s0, 0, none⟩ = some (.int .i64 x0) := by have h_ := row_cell (blk_below H_2.out hg) 0 (lt_len (n := 68) N_.out (by decide)); rw [← X0.out] at h_; exact h_
      unfold execOp
      simp only [PrintLast.eval_of e12, Act.eval]
      go_simp
      (try rfl)
    refine stepsS_cons ?_ ?_
    · refine stepS_of (stepO_call rfl [(3, 13)] [] (by kernel_rfl) Tryd.func42 (by kernel_rfl) rfl rfl (fun a w_ hg hf => ?_))
      obtain ⟨⟨⟨_, e13, rfl⟩, _⟩, _⟩ := hf
      replace e13 : a.tmps[13]? = some (.int .i64 x0) := e13
      refine ⟨#[.int .i64 x0, .int .i64 8], (by simp only [List.map_toArray, List.map_cons, List.map_nil, PrintLast.eval_of e13]; first | done | rfl), (spec_l02Put.calls 20 x0 8 (leB x0 8) w_ E0.out).mono ?_⟩
      rintro e_ w2_ ⟨v_, rfl, R_, b_⟩
      exact ⟨_, rfl, b_, own_row R_⟩
    refine stepsS_cons ?_ ?_
    · refine stepS_of (stepO_val rfl [] [1] (by kernel_rfl) (.pointer (some ⟨s0, 1, none⟩)) (fun a w_ hg hf => ?_) (fun w_ _ => rfl))
      obtain ⟨_, ⟨o1, _⟩⟩ := hf
      have e1 : a.tmps[1]? = some (.pointer (some ⟨s0, 0, none⟩)) := o1.trans rfl
      unfold execOp
      simp only [PrintLast.eval_of e1, Act.eval]
      go_simp
      (try rfl)
    refine stepsS_cons ?_ ?_
    · refine stepS_of (stepO_val rfl [(5, 15)] [] (by kernel_rfl) (.int .i64 x1) (fun a w_ hg hf => ?_) (fun w_ _ => rfl))
      obtain ⟨⟨⟨_, e15, rfl⟩, _⟩, _⟩ := hf
      replace e15 : a.tmps[15]? = some (.pointer (some ⟨s0, 1, none⟩)) := e15
      have c_ : w_.cell? ⟨s0, 1, none⟩ = some (.int .i64 x1) := by have h_ := row_cell (blk_below H_2.out hg) 1 (lt_len (n := 68) N_.out (by decide)); rw [← X1.out] at h_; exact h_
      unfold execOp
      simp only [PrintLast.eval_of e15, Act.eval]
      go_simp
      (try rfl)
    refine stepsS_cons ?_ ?_
    · refine stepS_of (stepO_call rfl [(6, 16)] [] (by kernel_rfl) Tryd.func42 (by kernel_rfl) rfl rfl (fun a w_ hg hf => ?_))
      obtain ⟨⟨⟨_, e16, rfl⟩, _⟩, _⟩ := hf
      replace e16 : a.tmps[16]? = some (.int .i64 x1) := e16
      refine ⟨#[.int .i64 x1, .int .i64 4], (by simp only [List.map_toArray, List.map_cons, List.map_nil, PrintLast.eval_of e16]; first | done | rfl), (spec_l02Put.calls 20 x1 4 (leB x1 4) w_ E1.out).mono ?_⟩
      rintro e_ w2_ ⟨v_, rfl, R_, b_⟩
      exact ⟨_, rfl, b_, own_row R_⟩
    refine stepsS_cons ?_ ?_
    · refine stepS_of (stepO_val rfl [] [1] (by kernel_rfl) (.pointer (some ⟨s0, 2, none⟩)) (fun a w_ hg hf => ?_) (fun w_ _ => rfl))
      obtain ⟨_, ⟨o1, _⟩⟩ := hf
      have e1 : a.tmps[1]? = some (.pointer (some ⟨s0, 0, none⟩)) := o1.trans rfl
      unfold execOp
      simp only [PrintLast.eval_of e1, Act.eval]
      go_simp
      (try rfl)
    refine stepsS_cons ?_ ?_
    · refine stepS_of (stepO_val rfl [(8, 18)] [] (by kernel_rfl) (.int .i64 x2) (fun a w_ hg hf => ?_) (fun w_ _ => rfl))
      obtain ⟨⟨⟨_, e18, rfl⟩, _⟩, _⟩ := hf
      replace e18 : a.tmps[18]? = some (.pointer (some ⟨s0, 2, none⟩)) := e18
      have c_ : w_.cell? ⟨s0, 2, none⟩ = some (.int .i64 x2) := by have h_ := row_cell (blk_below H_2.out hg) 2 (lt_len (n := 68) N_.out (by decide)); rw [← X2.out] at h_; exact h_
      unfold execOp
      simp only [PrintLast.eval_of e18, Act.eval]
      go_simp
      (try rfl)
    refine stepsS_cons ?_ ?_
    · refine stepS_of (stepO_call rfl [(9, 19)] [] (by kernel_rfl) Tryd.func42 (by kernel_rfl) rfl rfl (fun a w_ hg hf => ?_))
      obtain ⟨⟨⟨_, e19, rfl⟩, _⟩, _⟩ := hf
      replace e19 : a.tmps[19]? = some (.int .i64 x2) := e19
      refine ⟨#[.int .i64 x2, .int .i64 4], (by simp only [List.map_toArray, List.map_cons, List.map_nil, PrintLast.eval_of e19]; first | done | rfl), (spec_l02Put.calls 20 x2 4 (leB x2 4) w_ E2.out).mono ?_⟩
      rintro e_ w2_ ⟨v_, rfl, R_, b_⟩
      exact ⟨_, rfl, b_, own_row R_⟩
    refine stepsS_cons ?_ ?_
    · refine stepS_of (stepO_val rfl [] [1] (by kernel_rfl) (.pointer (some ⟨s0, 3, none⟩)) (fun a w_ hg hf => ?_) (fun w_ _ => rfl))
      obtain ⟨_, ⟨o1, _⟩⟩ := hf
      have e1 : a.tmps[1]? = some (.pointer (some ⟨s0, 0, none⟩)) := o1.trans rfl
      unfold execOp
      simp only [PrintLast.eval_of e1, Act.eval]
      go_simp
      (try rfl)
    refine stepsS_cons ?_ ?_
    · refine stepS_of (stepO_val rfl [(11, 21)] [] (by kernel_rfl) (.int .i64 x3) (fun a w_ hg hf => ?_) (fun w_ _ => rfl))
      obtain ⟨⟨⟨_, e21, rfl⟩, _⟩, _⟩ := hf
      replace e21 : a.tmps[21]? = some (.pointer (some ⟨s0, 3, none⟩)) := e21
      have c_ : w_.cell? ⟨s0, 3, none⟩ = some (.int .i64 x3) := by have h_ := row_cell (blk_below H_2.out hg) 3 (lt_len (n := 68) N_.out (by decide)); rw [← X3.out] at h_; exact h_
      unfold execOp
      simp only [PrintLast.eval_of e21, Act.eval]
      go_simp
      (try rfl)
    refine stepsS_cons ?_ ?_
    · refine stepS_of (stepO_call rfl [(12, 22)] [] (by kernel_rfl) Tryd.func42 (by kernel_rfl) rfl rfl (fun a w_ hg hf => ?_))
      obtain ⟨⟨⟨_, e22, rfl⟩, _⟩, _⟩ := hf
      replace e22 : a.tmps[22]? = some (.int .i64 x3) := e22
      refine ⟨#[.int .i64 x3, .int .i64 8], (by simp only [List.map_toArray, List.map_cons, List.map_nil, PrintLast.eval_of e22]; first | done | rfl), (spec_l02Put.calls 20 x3 8 (leB x3 8) w_ E3.out).mono ?_⟩
      rintro e_ w2_ ⟨v_, rfl, R_, b_⟩
      exact ⟨_, rfl, b_, own_row R_⟩
    refine stepsS_cons ?_ ?_
    · refine stepS_of (stepO_val rfl [] [1] (by kernel_rfl) (.pointer (some ⟨s0, 4, none⟩)) (fun a w_ hg hf => ?_) (fun w_ _ => rfl))
      obtain ⟨_, ⟨o1, _⟩⟩ := hf
      have e1 : a.tmps[1]? = some (.pointer (some ⟨s0, 0, none⟩)) := o1.trans rfl
      unfold execOp
      simp only [PrintLast.eval_of e1, Act.eval]
      go_simp
      (try rfl)
    refine stepsS_cons ?_ ?_
    · refine stepS_of (stepO_val rfl [(14, 24)] [] (by kernel_rfl) (.int .i64 x4) (fun a w_ hg hf => ?_) (fun w_ _ => rfl))
      obtain ⟨⟨⟨_, e24, rfl⟩, _⟩, _⟩ := hf
      replace e24 : a.tmps[24]? = some (.pointer (some ⟨s0, 4, none⟩)) := e24
      have c_ : w_.cell? ⟨s0, 4, none⟩ = some (.int .i64 x4) := by have h_ := row_cell (blk_below H_2.out hg) 4 (lt_len (n := 68) N_.out (by decide)); rw [← X4.out] at h_; exact h_
      unfold execOp
      simp only [PrintLast.eval_of e24, Act.eval]
      go_simp
      (try rfl)
    refine stepsS_cons ?_ ?_
    · refine stepS_of (stepO_call rfl [(15, 25)] [] (by kernel_rfl) Tryd.func42 (by kernel_rfl) rfl rfl (fun a w_ hg hf => ?_))
      obtain ⟨⟨⟨_, e25, rfl⟩, _⟩, _⟩ := hf
      replace e25 : a.tmps[25]? = some (.int .i64 x4) := e25
      refine ⟨#[.int .i64 x4, .int .i64 8], (by simp only [List.map_toArray, List.map_cons, List.map_nil, PrintLast.eval_of e25]; first | done | rfl), (spec_l02Put.calls 20 x4 8 (leB x4 8) w_ E4.out).mono ?_⟩
      rintro e_ w2_ ⟨v_, rfl, R_, b_⟩
      exact ⟨_, rfl, b_, own_row R_⟩
    refine stepsS_cons ?_ ?_
    · refine stepS_of (stepO_val rfl [] [1] (by kernel_rfl) (.pointer (some ⟨s0, 5, none⟩)) (fun a w_ hg hf => ?_) (fun w_ _ => rfl))
      obtain ⟨_, ⟨o1, _⟩⟩ := hf
      have e1 : a.tmps[1]? = some (.pointer (some ⟨s0, 0, none⟩)) := o1.trans rfl
      unfold execOp
      simp only [PrintLast.eval_of e1, Act.eval]
      go_simp
      (try rfl)
    refine stepsS_cons ?_ ?_
    · refine stepS_of (stepO_val rfl [(17, 27)] [] (by kernel_rfl) (.int .i64 x5) (fun a w_ hg hf => ?_) (fun w_ _ => rfl))
      obtain ⟨⟨⟨_, e27, rfl⟩, _⟩, _⟩ := hf
      replace e27 : a.tmps[27]? = some (.pointer (some ⟨s0, 5, none⟩)) := e27
      have c_ : w_.cell? ⟨s0, 5, none⟩ = some (.int .i64 x5) := by have h_ := row_cell (blk_below H_2.out hg) 5 (lt_len (n := 68) N_.out (by decide)); rw [← X5.out] at h_; exact h_
      unfold execOp
      simp only [PrintLast.eval_of e27, Act.eval]
      go_simp
      (try rfl)
    refine stepsS_cons ?_ ?_
    · refine stepS_of (stepO_call rfl [(18, 28)] [] (by kernel_rfl) Tryd.func42 (by kernel_rfl) rfl rfl (fun a w_ hg hf => ?_))
      obtain ⟨⟨⟨_, e28, rfl⟩, _⟩, _⟩ := hf
      replace e28 : a.tmps[28]? = some (.int .i64 x5) := e28
      refine ⟨#[.int .i64 x5, .int .i64 4], (by simp only [List.map_toArray, List.map_cons, List.map_nil, PrintLast.eval_of e28]; first | done | rfl), (spec_l02Put.calls 20 x5 4 (leB x5 4) w_ E5.out).mono ?_⟩
      rintro e_ w2_ ⟨v_, rfl, R_, b_⟩
      exact ⟨_, rfl, b_, own_row R_⟩
    refine stepsS_cons ?_ ?_
    · refine stepS_of (stepO_val rfl [] [1] (by kernel_rfl) (.pointer (some ⟨s0, 6, none⟩)) (fun a w_ hg hf => ?_) (fun w_ _ => rfl))
      obtain ⟨_, ⟨o1, _⟩⟩ := hf
      have e1 : a.tmps[1]? = some (.pointer (some ⟨s0, 0, none⟩)) := o1.trans rfl
      unfold execOp
      simp only [PrintLast.eval_of e1, Act.eval]
      go_simp
      (try rfl)
    refine stepsS_cons ?_ ?_
    · refine stepS_of (stepO_val rfl [(20, 30)] [] (by kernel_rfl) (.int .i64 x6) (fun a w_ hg hf => ?_) (fun w_ _ => rfl))
      obtain ⟨⟨⟨_, e30, rfl⟩, _⟩, _⟩ := hf
      replace e30 : a.tmps[30]? = some (.pointer (some ⟨s0, 6, none⟩)) := e30
      have c_ : w_.cell? ⟨s0, 6, none⟩ = some (.int .i64 x6) := by have h_ := row_cell (blk_below H_2.out hg) 6 (lt_len (n := 68) N_.out (by decide)); rw [← X6.out] at h_; exact h_
      unfold execOp
      simp only [PrintLast.eval_of e30, Act.eval]
      go_simp
      (try rfl)
    refine stepsS_cons ?_ ?_
    · refine stepS_of (stepO_call rfl [(21, 31)] [] (by kernel_rfl) Tryd.func42 (by kernel_rfl) rfl rfl (fun a w_ hg hf => ?_))
      obtain ⟨⟨⟨_, e31, rfl⟩, _⟩, _⟩ := hf
      replace e31 : a.tmps[31]? = some (.int .i64 x6) := e31
      refine ⟨#[.int .i64 x6, .int .i64 4], (by simp only [List.map_toArray, List.map_cons, List.map_nil, PrintLast.eval_of e31]; first | done | rfl), (spec_l02Put.calls 20 x6 4 (leB x6 4) w_ E6.out).mono ?_⟩
      rintro e_ w2_ ⟨v_, rfl, R_, b_⟩
      exact ⟨_, rfl, b_, own_row R_⟩
    refine stepsS_cons ?_ ?_
    · refine stepS_of (stepO_val rfl [] [1] (by kernel_rfl) (.pointer (some ⟨s0, 7, none⟩)) (fun a w_ hg hf => ?_) (fun w_ _ => rfl))
      obtain ⟨_, ⟨o1, _⟩⟩ := hf
      have e1 : a.tmps[1]? = some (.pointer (some ⟨s0, 0, none⟩)) := o1.trans rfl
      unfold execOp
      simp only [PrintLast.eval_of e1, Act.eval]
      go_simp
      (try rfl)
    refine stepsS_cons ?_ ?_
    · refine stepS_of (stepO_val rfl [(23, 33)] [] (by kernel_rfl) (.agg (nums .i64 xi).toArray) (fun a w_ hg hf => ?_) (fun w_ _ => rfl))
      obtain ⟨⟨⟨_, e33, rfl⟩, _⟩, _⟩ := hf
      replace e33 : a.tmps[33]? = some (.pointer (some ⟨s0, 7, none⟩)) := e33
      have c_ : (loadVar 31 ⟨s0, 7, none⟩).run Tryd.prog w_ = .ok (.agg (nums .i64 xi).toArray) w_ := by have h_ := run_load_part (P := Tryd.prog) w_ s0 7 15 48 31 _ (0, 0) _ (blk_below H_2.out hg) Tryd.underlying31 rfl (by kernel_rfl) (by rw [nums_size _ _ _ N_.out]; decide); rw [take_nums, Array.toArray_toList] at h_; rw [XI.out]; exact h_
      unfold execOp
      simp only [PrintLast.eval_of e33, Instr.loadAt, Instr.sureAddr, Sem.run_bind, Sem.run_pure, Result.andThen_ok, c_]
    refine stepsS_cons ?_ ?_
    · refine stepS_of (stepO_call rfl [(24, 34)] [] (by kernel_rfl) Tryd.func45 (by kernel_rfl) rfl rfl (fun a w_ hg hf => ?_))
      obtain ⟨⟨⟨_, e34, rfl⟩, _⟩, _⟩ := hf
      replace e34 : a.tmps[34]? = some (.agg (nums .i64 xi).toArray) := e34
      refine ⟨#[.agg (nums .i64 xi).toArray], (by simp only [List.map_toArray, List.map_cons, List.map_nil, PrintLast.eval_of e34]; first | done | rfl), (spec_l02RootBytes.calls xi NXI.out (rootBytes xi) w_ ER7.out).mono ?_⟩
      rintro e_ w2_ ⟨v_, rfl, R_, b_⟩
      exact ⟨_, rfl, b_, own_row R_⟩
    refine stepsS_cons ?_ ?_
    · refine stepS_of (stepO_val rfl [] [1] (by kernel_rfl) (.pointer (some ⟨s0, 22, none⟩)) (fun a w_ hg hf => ?_) (fun w_ _ => rfl))
      obtain ⟨_, ⟨o1, _⟩⟩ := hf
      have e1 : a.tmps[1]? = some (.pointer (some ⟨s0, 0, none⟩)) := o1.trans rfl
      unfold execOp
      simp only [PrintLast.eval_of e1, Act.eval]
      go_simp
      (try rfl)
    refine stepsS_cons ?_ ?_
    · refine stepS_of (stepO_val rfl [(26, 36)] [] (by kernel_rfl) (.agg (nums .i64 xm).toArray) (fun a w_ hg hf => ?_) (fun w_ _ => rfl))
      obtain ⟨⟨⟨_, e36, rfl⟩, _⟩, _⟩ := hf
      replace e36 : a.tmps[36]? = some (.pointer (some ⟨s0, 22, none⟩)) := e36
      have c_ : (loadVar 31 ⟨s0, 22, none⟩).run Tryd.prog w_ = .ok (.agg (nums .i64 xm).toArray) w_ := by have h_ := run_load_part (P := Tryd.prog) w_ s0 22 15 48 31 _ (0, 0) _ (blk_below H_2.out hg) Tryd.underlying31 rfl (by kernel_rfl) (by rw [nums_size _ _ _ N_.out]; decide); rw [take_nums, Array.toArray_toList] at h_; rw [XM.out]; exact h_
      unfold execOp
      simp only [PrintLast.eval_of e36, Instr.loadAt, Instr.sureAddr, Sem.run_bind, Sem.run_pure, Result.andThen_ok, c_]
    refine stepsS_cons ?_ ?_
    · refine stepS_of (stepO_call rfl [(27, 37)] [] (by kernel_rfl) Tryd.func45 (by kernel_rfl) rfl rfl (fun a w_ hg hf => ?_))
      obtain ⟨⟨⟨_, e37, rfl⟩, _⟩, _⟩ := hf
      replace e37 : a.tmps[37]? = some (.agg (nums .i64 xm).toArray) := e37
      refine ⟨#[.agg (nums .i64 xm).toArray], (by simp only [List.map_toArray, List.map_cons, List.map_nil, PrintLast.eval_of e37]; first | done | rfl), (spec_l02RootBytes.calls xm NXM.out (rootBytes xm) w_ ER8.out).mono ?_⟩
      rintro e_ w2_ ⟨v_, rfl, R_, b_⟩
      exact ⟨_, rfl, b_, own_row R_⟩
    exact stepsS_nil
  · skip
    refine ends_cons (fun v0_ p0_ => ?_)
    replace p0_ := Aside0.mk (show LitB w2.heap.size (nums .u8 magicF).toArray 5 8 v0_ w3 from p0_)
    refine ends_cons (fun v1_ p1_ => ?_)
    replace p1_ := Aside0.mk (show Row (Kd.int .u8) magicF v1_ w3 from p1_)
    refine ends_cons (fun v2_ p2_ => ?_)
    obtain rfl : v2_ = _ := p2_
    refine ends_cons (fun v3_ p3_ => ?_)
    obtain rfl : v3_ = _ := p3_
    refine ends_cons (fun v4_ p4_ => ?_)
    replace p4_ := Aside0.mk (show Row (Kd.int .u8) (leB x0 8) v4_ w3 from p4_)
    refine ends_cons (fun v5_ p5_ => ?_)
    obtain rfl : v5_ = _ := p5_
    refine ends_cons (fun v6_ p6_ => ?_)
    obtain rfl : v6_ = _ := p6_
    refine ends_cons (fun v7_ p7_ => ?_)
    replace p7_ := Aside0.mk (show Row (Kd.int .u8) (leB x1 4) v7_ w3 from p7_)
    refine ends_cons (fun v8_ p8_ => ?_)
    obtain rfl : v8_ = _ := p8_
    refine ends_cons (fun v9_ p9_ => ?_)
    obtain rfl : v9_ = _ := p9_
    refine ends_cons (fun v10_ p10_ => ?_)
    replace p10_ := Aside0.mk (show Row (Kd.int .u8) (leB x2 4) v10_ w3 from p10_)
    refine ends_cons (fun v11_ p11_ => ?_)
    obtain rfl : v11_ = _ := p11_
    refine ends_cons (fun v12_ p12_ => ?_)
    obtain rfl : v12_ = _ := p12_
    refine ends_cons (fun v13_ p13_ => ?_)
    replace p13_ := Aside0.mk (show Row (Kd.int .u8) (leB x3 8) v13_ w3 from p13_)
    refine ends_cons (fun v14_ p14_ => ?_)
    obtain rfl : v14_ = _ := p14_
    refine ends_cons (fun v15_ p15_ => ?_)
    obtain rfl : v15_ = _ := p15_
    refine ends_cons (fun v16_ p16_ => ?_)
    replace p16_ := Aside0.mk (show Row (Kd.int .u8) (leB x4 8) v16_ w3 from p16_)
    refine ends_cons (fun v17_ p17_ => ?_)
    obtain rfl : v17_ = _ := p17_
    refine ends_cons (fun v18_ p18_ => ?_)
    obtain rfl : v18_ = _ := p18_
    refine ends_cons (fun v19_ p19_ => ?_)
    replace p19_ := Aside0.mk (show Row (Kd.int .u8) (leB x5 4) v19_ w3 from p19_)
    refine ends_cons (fun v20_ p20_ => ?_)
    obtain rfl : v20_ = _ := p20_
    refine ends_cons (fun v21_ p21_ => ?_)
    obtain rfl : v21_ = _ := p21_
    refine ends_cons (fun v22_ p22_ => ?_)
    replace p22_ := Aside0.mk (show Row (Kd.int .u8) (leB x6 4) v22_ w3 from p22_)
    refine ends_cons (fun v23_ p23_ => ?_)
    obtain rfl : v23_ = _ := p23_
    refine ends_cons (fun v24_ p24_ => ?_)
    obtain rfl : v24_ = _ := p24_
    refine ends_cons (fun v25_ p25_ => ?_)
    replace p25_ := Aside0.mk (show Row (Kd.int .u8) (rootBytes xi) v25_ w3 from p25_)
    refine ends_cons (fun v26_ p26_ => ?_)
    obtain rfl : v26_ = _ := p26_
    refine ends_cons (fun v27_ p27_ => ?_)
    obtain rfl : v27_ = _ := p27_
    refine ends_cons (fun v28_ p28_ => ?_)
    replace p28_ := Aside0.mk (show Row (Kd.int .u8) (rootBytes xm) v28_ w3 from p28_)
    refine ends_nil ?_
    simp only [Act.put, List.setIfInBounds_toArray, List.set_cons_succ, List.set_cons_zero]
    have HB3 := Aside0.mk (below_then HB2.out HB2.out.size hgn)
    have H_3 := Aside0.mk (blk_below H_2.out hgn)
    clear hgn HB2 H_2 p0_
    obtain ⟨A1, c1, rfl, h1, C1⟩ := p1_.out
    obtain ⟨A4, c4, rfl, h4, C4⟩ := p4_.out
    obtain ⟨A7, c7, rfl, h7, C7⟩ := p7_.out
    obtain ⟨A10, c10, rfl, h10, C10⟩ := p10_.out
    obtain ⟨A13, c13, rfl, h13, C13⟩ := p13_.out
    obtain ⟨A16, c16, rfl, h16, C16⟩ := p16_.out
    obtain ⟨A19, c19, rfl, h19, C19⟩ := p19_.out
    obtain ⟨A22, c22, rfl, h22, C22⟩ := p22_.out
    obtain ⟨A25, c25, rfl, h25, C25⟩ := p25_.out
    obtain ⟨A28, c28, rfl, h28, C28⟩ := p28_.out
    clear p1_ p4_ p7_ p10_ p13_ p16_ p19_ p22_ p25_ p28_
    simp only [List.drop_succ_cons, List.drop_zero]
    go_wp2_with (first | ((with_reducible refine gate_dst (N := 39) rfl ?_); refine wpList_rows rfl (N := 39) rfl (Kd.int .u8) 5 28 [(.slice A1 magicF.length c1), (.slice A4 (leB x0 8).length c4), (.slice A7 (leB x1 4).length c7), (.slice A10 (leB x2 4).length c10), (.slice A13 (leB x3 8).length c13), (.slice A16 (leB x4 8).length c16), (.slice A19 (leB x5 4).length c19), (.slice A22 (leB x6 4).length c22), (.slice A25 (rootBytes xi).length c25), (.slice A28 (rootBytes xm).length c28)] [magicF, (leB x0 8), (leB x1 4), (leB x2 4), (leB x3 8), (leB x4 8), (leB x5 4), (leB x6 4), (rootBytes xi), (rootBytes xm)] (by simp) ?hr (rows_cons ⟨_, _, rfl, h1, C1⟩ (rows_cons ⟨_, _, rfl, h4, C4⟩ (rows_cons ⟨_, _, rfl, h7, C7⟩ (rows_cons ⟨_, _, rfl, h10, C10⟩ (rows_cons ⟨_, _, rfl, h13, C13⟩ (rows_cons ⟨_, _, rfl, h16, C16⟩ (rows_cons ⟨_, _, rfl, h19, C19⟩ (rows_cons ⟨_, _, rfl, h22, C22⟩ (rows_cons ⟨_, _, rfl, h25, C25⟩ (rows_cons ⟨_, _, rfl, h28, C28⟩ (rows_nil))))))))))) ?_; (case hr => first | (go_simp; done) | (go_simp; rfl)); intro A39 c39 w4 h39 C_ b_; have C39_4 := Aside0.mk C_; clear C_; have HB4 := Aside0.mk (below_then HB3.out HB3.out.size b_); have H_4 := Aside0.mk (blk_below H_3.out b_); clear b_ HB3 H_3) | ((with_reducible refine gate_dst (N := 40) rfl ?_); refine goesL_ (some 40) rfl rfl Tryd.func41 (by kernel_rfl) rfl #[.slice A39 [magicF, leB x0 8, leB x1 4, leB x2 4, leB x3 8, leB x4 8, leB x5 4, leB x6 4, rootBytes xi, rootBytes xm].length c39] rfl (by (try simp only [List.map_toArray, List.map_cons, List.map_nil]); first | done | rfl) ?_; refine (spec_l02Join.calls 20 A39 c39 _ fl w4 C39_4.out h39 EJ.out).mono ?_; rintro e_ w5 ⟨v_, rfl, R_, b_⟩; obtain ⟨A40, c40, rfl⟩ := Kd.R_slice R_; refine ⟨_, rfl, ?_⟩; have O40_5 := Aside0.mk (Kd.R_lower R_ HB4.out.size); clear R_; have HB5 := Aside0.mk (below_then HB4.out HB4.out.size b_); have H_5 := Aside0.mk (blk_below H_4.out b_); have C39_5 := Aside0.mk (Kd.C_below C39_4.out b_); clear b_ HB4 H_4 C39_4) | ((with_reducible refine gate_dst (N := 42) rfl ?_); refine hx_loadp rfl 43 (.tmp 41) rfl s0 37 31 rfl Tryd.underlying43 rfl (by kernel_rfl) H_5.out (le_len (n := 68) N_.out (by decide)) ?_; rw [← XS.out]))
    have O3 := O40_5
    have HB3 := HB5
    have H_3 := H_5
    (try simp only [Act.put, List.setIfInBounds_toArray, List.set_cons_succ, List.set_cons_zero])
    go_loopw [4, 6, 43] (fun v4 v6 v43 wr => ∃ (j : Nat) (u4 u6 : Value), u4 = v4 ∧ u6 = v6 ∧ v43 = .int .i64 (j : Int) ∧ Aside0 (j ≤ 31) ∧ Aside0 (Kd.R (Kd.int .u8) 5 wr w.heap.size (fun _ => True) v4 (fl ++ flat4 (xs.take j))) ∧ Aside0 (Below w.heap.size w wr)) (fun _ _ v43 _ => 31 - (intOf v43).toNat)
    case atStart => exact ⟨0, _, _, rfl, rfl, rfl, ⟨Nat.zero_le _⟩, ⟨by rw [List.take_zero, flat4, List.append_nil]; exact O3.out⟩, HB3⟩
    case round =>
      clear O3 HB3 H_3 O40_5 HB5 H_5
      obtain ⟨j, v4, v6, rfl, rfl, rfl, hj, OO0, HB⟩ := hrel
      by_cases c9 : j < 31
      · have c9b0 : decide ((j : Int) < 31) = true := decide_eq_true (by omega)
        have c9b1 : decide (j < 31) = true := decide_eq_true c9
        obtain ⟨p, hp⟩ : ∃ p, p = xs.getD j 0 := ⟨_, rfl⟩
        have hpr := GS.out j c9
        rw [← hp] at hpr
        have HPV := Aside0.mk hp
        have HP4 := Aside0.mk (show spec_l02Put.f 20 p 4 = some (leB p 4) from l02Put_f p 4 20 (by decide) hpr.1 (by omega) (by decide))
        obtain ⟨bs, hbs⟩ : ∃ bs, bs = fl ++ flat4 (xs.take j) := ⟨_, rfl⟩
        have oo := OO0.out
        rw [← hbs] at oo
        have OO := Aside0.mk oo
        have HBL := Aside0.mk (show bs.length = 176 + 4 * j by rw [hbs, List.length_append, HHL.out, flat4_length, List.length_take, NXS.out, Nat.min_eq_left (by omega)])
        have HBS_ := Aside0.mk hbs
        have C9 := Aside0.mk c9
        clear hp c9 hpr hbs oo OO0
        go_wp2_with (first | ((with_reducible refine gate_dst (N := 45) rfl ?_); refine hx_index rfl 43 3 31 (.tmp 42) (.tmp 43) rfl xs j _ rfl rfl Tryd.underlying43 Tryd.underlying3 rfl (by kernel_rfl) NXS.out C9.out ?_; rw [← HPV.out]) | ((with_reducible refine gate_dst (N := 48) rfl ?_); refine goesL_ (some 48) rfl rfl Tryd.func42 (by kernel_rfl) rfl #[.int .i64 p, .int .i64 4] rfl (by (try simp only [List.map_toArray, List.map_cons, List.map_nil]); first | done | rfl) ?_; refine (spec_l02Put.calls 20 p 4 _ _ HP4.out).mono ?_; rintro e_ w4 ⟨v48, rfl, R_, b_⟩; obtain ⟨A48, c48, rfl⟩ := Kd.R_slice R_; refine ⟨_, rfl, ?_⟩; have O48 := Aside0.mk R_; have HB4 := Aside0.mk (below_then HB.out HB.out.size b_); have OO4 := Aside0.mk (Kd.R_below OO.out b_); clear R_ b_ HB OO) | ((with_reducible refine gate_dst (N := 49) rfl ?_); refine Kd.R_append_rows (Kd.int .u8) (w0 := w) w.heap.size rfl (.tmp 46) (.tmp 48) 28 5 (.int .u8 0) 1 rfl Tryd.underlying28 info5_ rfl (by decide) (by omega) v4 bs (leB p 4) _ _ _ (fun _ => True) (fun _ => False) rfl rfl OO4.out (Kd.R_reads' O48.out).2.2 (fun _ _ h => h) (fun _ h => h.elim) (fun _ _ => trivial) HB4.out HB4.out.size (by have h1_ := HBL.out; have h2_ := C9.out; show (bs.length + (leB p 4).length) * 1 ≤ _; rw [leB_length]; omega) ?_; intro v49 w5 ho hb hg_ hn_; have OO5 := Aside0.mk ho; have HB5 := Aside0.mk hb; clear ho hb hg_ hn_ HB4 OO4 O48))
        go_roundw
        case rel => exact ⟨j + 1, _, _, rfl, rfl, by first | rw [show wrap64 ((j : Int) + 1) = ((j + 1 : Nat) : Int) by (have := C9.out; unfold wrap64; omega)] | (simp; done), ⟨by have := C9.out; omega⟩, ⟨by
          have ho := OO5.out
          rw [HBS_.out, HPV.out, List.append_assoc, ← flat4_take xs j (by rw [NXS.out]; exact C9.out)] at ho
          exact ho⟩, HB5⟩
        case measure =>
          (try rw [show wrap64 ((j : Int) + 1) = ((j + 1 : Nat) : Int) by (have := C9.out; unfold wrap64; omega)])
          simp only [intOf]
          have := C9.out
          omega
      · obtain rfl : j = 31 := by have := hj.out; omega
        have c9b0 : decide ((31 : Int) < 31) = false := by decide
        have oo := OO0.out
        rw [List.take_of_length_le (by rw [NXS.out]; exact Nat.le_refl _), ← HBB.out] at oo
        obtain ⟨A4, c4, ev4⟩ := Kd.R_slice oo
        subst ev4
        have OO := Aside0.mk oo
        clear c9 oo OO0
        go_wp2_with (first | ((with_reducible refine gate_dst (N := 52) rfl ?_); refine goesL_ (some 52) rfl rfl Tryd.func44 (by kernel_rfl) rfl #[.slice A4 (fsBody a0).length c4] rfl (by (try simp only [List.map_toArray, List.map_cons, List.map_nil]); first | done | rfl) ?_; refine (spec_l02Sealed.calls 2000 A4 c4 (fsBody a0) _ _ (Kd.R_reads' OO.out).2.2 (Kd.R_reads' OO.out).2.1 HSE.out).mono ?_; rintro e_ w6 ⟨v52, rfl, R_, b_⟩; refine ⟨_, rfl, ?_⟩; have O52 := Aside0.mk (Kd.R_lower R_ HB.out.size); have HB6 := Aside0.mk (below_then HB.out HB.out.size b_); clear R_ b_ HB OO))
        go_ret2
        exact ⟨_, rfl, O52.out, HB6.out⟩

/-! ### spec_l02Get: function 51 -/
def spec_l02Get.l0 : Nat → List Int → Int → Int → Option (Int)
  | 0, _, _, _ => none
  | k + 1, x0, x3, x4 => if x4 ≥ 0 then (if x3 ≥ 70368744177664 then (some 4611686018427387904) else (if 0 ≤ x4 then (if x4 < (x0.length : Int) then (spec_l02Get.l0 k x0 (wrap64 ((wrap64 (x3 * 256)) + (wrap64 (rd x0 x4)))) (wrap64 (x4 - 1))) else (none)) else (none))) else (some x3)
def spec_l02Get.f (k : Nat) (l0 : List Int) : Option (Int) := spec_l02Get.l0 k l0 0 (wrap64 ((l0.length : Int) - 1))
theorem spec_l02Get.mono_l : ∀ k, (∀ y0 y1 y2, LeO (spec_l02Get.l0 k y0 y1 y2) (spec_l02Get.l0 (k + 1) y0 y1 y2))
  | 0 => fun _ _ _ r h => by simp [spec_l02Get.l0] at h
  | k + 1 => by
    have ih0 := spec_l02Get.mono_l k
    · intro y0 y1 y2
      unfold spec_l02Get.l0
      repeat' first
      | (with_reducible exact ih0 _ _ _)
      | (with_reducible exact LeO.refl _)
      | (with_reducible exact LeO.none _)
      | (with_reducible refine LeO.ite ?_ ?_)
      | (with_reducible refine LeO.bind ?_ (fun _ => ?_))
      | exact ih0 _ _ _
      | exact LeO.none _
      | refine LeO.ite ?_ ?_
      | refine LeO.bind ?_ (fun _ => ?_)
theorem spec_l02Get.mono : ∀ a0 k, LeO (spec_l02Get.f k a0) (spec_l02Get.f (k + 1) a0) := by
  intro a0 k
  have ih0 := spec_l02Get.mono_l k
  unfold spec_l02Get.f
  repeat' first
      | (with_reducible exact ih0 _ _ _)
      | (with_reducible exact LeO.refl _)
      | (with_reducible exact LeO.none _)
      | (with_reducible refine LeO.ite ?_ ?_)
      | (with_reducible refine LeO.bind ?_ (fun _ => ?_))
      | exact ih0 _ _ _
      | exact LeO.none _
      | refine LeO.ite ?_ ?_
      | refine LeO.bind ?_ (fun _ => ?_)
set_option maxHeartbeats 8000000 in
set_option maxRecDepth 100000 in
theorem spec_l02Get.calls (k : Nat) (A0 : Option Addr) (c0 : Nat) (l0 : List Int) (r : Int) (w : World) (hr0 : Kd.C (Kd.int .u8) w A0 l0.length l0) (hc0 : l0.length ≤ c0) (h : spec_l02Get.f k l0 = some r) :
    Calls Tryd.prog 51 #[.slice A0 l0.length c0] w fun e w' => e = .returned (.int .i64 r) ∧ Drawn0 w w' := by
  have HR0 := Aside0.mk hr0
  have HC0 := Aside0.mk hc0
  clear hr0 hc0
  have H : (spec_l02Get.l0 k l0 0 (wrap64 ((l0.length : Int) - 1))) = some r := h
  clear h
  have H' := Aside0.mk H
  clear H
  go_enter Tryd.func51, Tryd.ntmps51
  go_wp2
  go_loopg [3, 4] k (fun kq v3 v4 w' => ∃ (x3_1 : Int) (x4_1 : Int), v3 = .int .i64 x3_1 ∧ v4 = .int .i64 x4_1 ∧ Aside0 (spec_l02Get.l0 kq l0 x3_1 x4_1 = some r) ∧ Aside0 (kq ≤ k) ∧ Drawn0 w w')
  case atStart => exact ⟨(0), (wrap64 ((l0.length : Int) - 1)), (by first | rfl | (simp; done) | (simp [*]; done)), (by first | rfl | (simp; done) | (simp [*]; done)), H', ⟨Nat.le_refl _⟩, by repeat (first | exact Drawn0.refl _ | apply Drawn0.step)⟩
  case round =>
    clear H'
    obtain ⟨x3_1, x4_1, rfl, rfl, HA, HK1, ⟨m1, rfl⟩⟩ := hrel
    cases gk with
    | zero => exact absurd HA.out (by simp [spec_l02Get.l0])
    | succ k1 =>
      have H := HA.out
      clear HA
      simp only [spec_l02Get.l0] at H
      by_cases c2 : x4_1 ≥ 0
      · rw [if_pos c2] at H
        have c2b0 : decide (0 ≤ x4_1) = true := decide_eq_true c2
        clear c2
        by_cases c3 : x3_1 ≥ 70368744177664
        · rw [if_pos c3] at H
          have c3b0 : decide (70368744177664 ≤ x3_1) = true := decide_eq_true c3
          clear c3
          obtain rfl := Option.some.inj H
          go_wp2
          go_ret
          exact ⟨by first | rfl | (simp; done) | (simp [*]; done), by repeat (first | exact Drawn0.refl _ | apply Drawn0.step)⟩
        · rw [if_neg c3] at H
          have c3b0 : decide (70368744177664 ≤ x3_1) = false := decide_eq_false c3
          clear c3
          by_cases c4 : 0 ≤ x4_1
          · rw [if_pos c4] at H
            have c4b0 : decide (0 ≤ x4_1) = true := decide_eq_true c4
            clear c4
            by_cases c5 : x4_1 < (l0.length : Int)
            · rw [if_pos c5] at H
              have c5b0 : decide (x4_1 < (l0.length : Int)) = true := decide_eq_true c5
              clear c5
              have H' := Aside0.mk H
              clear H
              have p142 : 0 ≤ (x4_1 : Int) := of_decide_eq_true (by first | (with_reducible assumption) | assumption)
              have q142 : x4_1 < (l0.length : Int) := of_decide_eq_true (by first | (with_reducible assumption) | assumption)
              obtain ⟨ad142, e142, hx142_0⟩ := Kd.at_int HR0.out x4_1 p142 q142
              cases e142
              replace p142 := eq_true p142
              replace q142 := eq_true q142
              go_wp2
              go_roundg k1
              case measure => have := HK1.out; omega
              case rel => exact ⟨(wrap64 ((wrap64 (x3_1 * 256)) + (wrap64 (rd l0 x4_1)))), (wrap64 (x4_1 - 1)), (by first | rfl | (simp; done) | (simp [*]; done)), (by first | rfl | (simp; done) | (simp [*]; done)), H', ⟨by have := HK1.out; omega⟩, by repeat (first | exact Drawn0.refl _ | apply Drawn0.step)⟩
            · rw [if_neg c5] at H
              exact absurd H (by simp)
          · rw [if_neg c4] at H
            exact absurd H (by simp)
      · rw [if_neg c2] at H
        have c2b0 : decide (0 ≤ x4_1) = false := decide_eq_false c2
        clear c2
        obtain rfl := Option.some.inj H
        go_wp2
        go_ret
        exact ⟨by first | rfl | (simp; done) | (simp [*]; done), by repeat (first | exact Drawn0.refl _ | apply Drawn0.step)⟩

end Go.Proofs.YtkghgjehjchajaaDoor.PFnExactChooseFsinfo
