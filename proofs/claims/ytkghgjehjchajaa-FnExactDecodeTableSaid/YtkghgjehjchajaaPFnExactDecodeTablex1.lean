-- Written by a program of this session (patch_print.py over the kit print)
import Derived.Test.YtkghgjehjchajaaPFnExactDecodeTablex0
namespace Go.Proofs.Ytkghgjehjchajaa.PFnExactDecodeTable
open Go.RowKit Go.Proofs.YtkghgjehjchajaaW.PrintWords Go.Proofs.YtkghgjehjchajaaW.PrintLast Go.Proofs.YtkghgjehjchajaaW.PrintMore
attribute [local go_sem] max2_int min2_int max_two min_two max_three min_three max_four min_four   -- for this text's walks alone
set_option linter.unusedVariables false
set_option linter.unusedSimpArgs false

/-! ### laws_eqByteS: function 14 -/
def laws_eqByteS.l0 : Nat → List Int → List Int → Int → Option (Bool)
  | 0, _, _, _ => none
  | k + 1, x0, x1, x5 => if x5 < (x0.length : Int) then (if 0 ≤ x5 then (if x5 < (x1.length : Int) then (if (rd x0 x5) = (rd x1 x5) then (laws_eqByteS.l0 k x0 x1 (wrap64 (x5 + 1))) else (some false)) else (none)) else (none)) else (some true)
def laws_eqByteS.f (k : Nat) (l0 : List Int) (l1 : List Int) : Option (Bool) := if (l0.length : Int) = (l1.length : Int) then (laws_eqByteS.l0 k l0 l1 0) else (some false)
theorem laws_eqByteS.mono_l : ∀ k, (∀ y0 y1 y2, LeO (laws_eqByteS.l0 k y0 y1 y2) (laws_eqByteS.l0 (k + 1) y0 y1 y2))
  | 0 => fun _ _ _ r h => by simp [laws_eqByteS.l0] at h
  | k + 1 => by
    have ih0 := laws_eqByteS.mono_l k
    · intro y0 y1 y2
      unfold laws_eqByteS.l0
      repeat' first
      | (with_reducible exact ih0 _ _ _)
      | (with_reducible exact LeO.refl _)
      | (with_reducible exact LeO.none _)
      | (with_reducible refine LeO.ite ?_ ?_)
      | (with_reducible refine LeO.bind ?_ (fun _ => ?_))
      | exact ih0 _ _ _
      | exact LeO.none _
      | refine LeO.ite ?_ ?_
      | refine LeO.bind ?_ (fun _ => ?_)
theorem laws_eqByteS.mono : ∀ a0 a1 k, LeO (laws_eqByteS.f k a0 a1) (laws_eqByteS.f (k + 1) a0 a1) := by
  intro a0 a1 k
  have ih0 := laws_eqByteS.mono_l k
  unfold laws_eqByteS.f
  repeat' first
      | (with_reducible exact ih0 _ _ _)
      | (with_reducible exact LeO.refl _)
      | (with_reducible exact LeO.none _)
      | (with_reducible refine LeO.ite ?_ ?_)
      | (with_reducible refine LeO.bind ?_ (fun _ => ?_))
      | exact ih0 _ _ _
      | exact LeO.none _
      | refine LeO.ite ?_ ?_
      | refine LeO.bind ?_ (fun _ => ?_)
set_option maxHeartbeats 8000000 in
set_option maxRecDepth 100000 in
theorem laws_eqByteS.calls (k : Nat) (A0 : Option Addr) (c0 : Nat) (l0 : List Int) (A1 : Option Addr) (c1 : Nat) (l1 : List Int) (r : Bool) (w : World) (hr0 : Kd.C (Kd.int .u8) w A0 l0.length l0) (hc0 : l0.length ≤ c0) (hr1 : Kd.C (Kd.int .u8) w A1 l1.length l1) (hc1 : l1.length ≤ c1) (h : laws_eqByteS.f k l0 l1 = some r) :
    Calls Try.prog 14 #[.slice A0 l0.length c0, .slice A1 l1.length c1] w fun e w' => e = .returned (.bool r) ∧ Drawn0 w w' := by
  have HR0 := Aside0.mk hr0
  have HC0 := Aside0.mk hc0
  clear hr0 hc0
  have HR1 := Aside0.mk hr1
  have HC1 := Aside0.mk hc1
  clear hr1 hc1
  have H : (if (l0.length : Int) = (l1.length : Int) then (laws_eqByteS.l0 k l0 l1 0) else (some false)) = some r := h
  clear h
  by_cases c3 : (l0.length : Int) = (l1.length : Int)
  · rw [if_pos c3] at H
    have c3b0 : ((l0.length : Int) == (l1.length : Int)) = true := beq_iff_eq.mpr c3
    have c3b1 : ((l0.length : Int) != (l1.length : Int)) = false := bne_eq_false_iff_eq.mpr c3
    have c3b2 : (l0.length == l1.length) = true := by first | simpa using c3 | (simp at c3 ⊢; omega)
    clear c3
    have H' := Aside0.mk H
    clear H
    go_enter Try.func14, Try.ntmps14
    go_wp2
    repeat (go_quiet (fail); try go_wp2)
    go_loopg [5] k (fun kq v5 w' => ∃ (x5_1 : Int), v5 = .int .i64 x5_1 ∧ Aside0 (laws_eqByteS.l0 kq l0 l1 x5_1 = some r) ∧ Aside0 (kq ≤ k) ∧ Drawn0 w w')
    case atStart => exact ⟨(0), (by first | rfl | (simp; done) | (simp [*]; done)), H', ⟨Nat.le_refl _⟩, by repeat (first | exact Drawn0.refl _ | apply Drawn0.step)⟩
    case round =>
      clear H'
      try clear c1
      try clear p2
      try clear c3
      try clear c3b0
      try clear c3b1
      try clear c3b2
      obtain ⟨x5_1, rfl, HA, HK1, ⟨m1, rfl⟩⟩ := hrel
      cases gk with
      | zero => exact absurd HA.out (by simp [laws_eqByteS.l0])
      | succ k1 =>
        have H := HA.out
        clear HA
        simp only [laws_eqByteS.l0] at H
        by_cases c4 : x5_1 < (l0.length : Int)
        · rw [if_pos c4] at H
          have c4b0 : decide (x5_1 < (l0.length : Int)) = true := decide_eq_true c4
          clear c4
          by_cases c5 : 0 ≤ x5_1
          · rw [if_pos c5] at H
            have c5b0 : decide (0 ≤ x5_1) = true := decide_eq_true c5
            clear c5
            by_cases c6 : x5_1 < (l1.length : Int)
            · rw [if_pos c6] at H
              have c6b0 : decide (x5_1 < (l1.length : Int)) = true := decide_eq_true c6
              clear c6
              by_cases c7 : (rd l0 x5_1) = (rd l1 x5_1)
              · rw [if_pos c7] at H
                have c7b0 : ((rd l0 x5_1) == (rd l1 x5_1)) = true := beq_iff_eq.mpr c7
                have c7b1 : ((rd l0 x5_1) != (rd l1 x5_1)) = false := bne_eq_false_iff_eq.mpr c7
                clear c7
                have H' := Aside0.mk H
                clear H
                have p101 : 0 ≤ (x5_1 : Int) := of_decide_eq_true (by first | (with_reducible assumption) | assumption)
                have q101 : x5_1 < (l0.length : Int) := of_decide_eq_true (by first | (with_reducible assumption) | assumption)
                obtain ⟨ad101, e101, hx101_0⟩ := Kd.at_int HR0.out x5_1 p101 q101
                cases e101
                replace p101 := eq_true p101
                replace q101 := eq_true q101
                have p102 : 0 ≤ (x5_1 : Int) := of_decide_eq_true (by first | (with_reducible assumption) | assumption)
                have q102 : x5_1 < (l1.length : Int) := of_decide_eq_true (by first | (with_reducible assumption) | assumption)
                obtain ⟨ad102, e102, hx102_0⟩ := Kd.at_int HR1.out x5_1 p102 q102
                cases e102
                replace p102 := eq_true p102
                replace q102 := eq_true q102
                go_wp2
                repeat (go_quiet (fail); try go_wp2)
                go_roundg k1
                case measure => have := HK1.out; omega
                case rel => exact ⟨(wrap64 (x5_1 + 1)), (by first | rfl | (simp; done) | (simp [*]; done)), H', ⟨by have := HK1.out; omega⟩, by repeat (first | exact Drawn0.refl _ | apply Drawn0.step)⟩
              · rw [if_neg c7] at H
                have c7b0 : ((rd l0 x5_1) == (rd l1 x5_1)) = false := beq_eq_false_iff_ne.mpr c7
                have c7b1 : ((rd l0 x5_1) != (rd l1 x5_1)) = true := bne_iff_ne.mpr c7
                obtain rfl := Option.some.inj H
                have p101 : 0 ≤ (x5_1 : Int) := of_decide_eq_true (by first | (with_reducible assumption) | assumption)
                have q101 : x5_1 < (l0.length : Int) := of_decide_eq_true (by first | (with_reducible assumption) | assumption)
                obtain ⟨ad101, e101, hx101_0⟩ := Kd.at_int HR0.out x5_1 p101 q101
                cases e101
                replace p101 := eq_true p101
                replace q101 := eq_true q101
                have p102 : 0 ≤ (x5_1 : Int) := of_decide_eq_true (by first | (with_reducible assumption) | assumption)
                have q102 : x5_1 < (l1.length : Int) := of_decide_eq_true (by first | (with_reducible assumption) | assumption)
                obtain ⟨ad102, e102, hx102_0⟩ := Kd.at_int HR1.out x5_1 p102 q102
                cases e102
                replace p102 := eq_true p102
                replace q102 := eq_true q102
                go_wp2
                repeat (go_quiet (fail); try go_wp2)
                go_ret
                exact ⟨by first | rfl | (simp; done) | (simp [*]; done), by repeat (first | exact Drawn0.refl _ | apply Drawn0.step)⟩
            · rw [if_neg c6] at H
              exact absurd H (by simp)
          · rw [if_neg c5] at H
            exact absurd H (by simp)
        · rw [if_neg c4] at H
          have c4b0 : decide (x5_1 < (l0.length : Int)) = false := decide_eq_false c4
          clear c4
          obtain rfl := Option.some.inj H
          go_wp2
          repeat (go_quiet (fail); try go_wp2)
          go_ret
          exact ⟨by first | rfl | (simp; done) | (simp [*]; done), by repeat (first | exact Drawn0.refl _ | apply Drawn0.step)⟩
  · rw [if_neg c3] at H
    have c3b0 : ((l0.length : Int) == (l1.length : Int)) = false := beq_eq_false_iff_ne.mpr c3
    have c3b1 : ((l0.length : Int) != (l1.length : Int)) = true := bne_iff_ne.mpr c3
    have c3b2 : (l0.length == l1.length) = false := by first | simpa using c3 | (simp at c3 ⊢; omega)
    obtain rfl := Option.some.inj H
    go_enter Try.func14, Try.ntmps14
    go_wp2
    repeat (go_quiet (fail); try go_wp2)
    go_ret
    exact ⟨by first | rfl | (simp; done) | (simp [*]; done), by repeat (first | exact Drawn0.refl _ | apply Drawn0.step)⟩

/-! ### laws_markByteS: function 15 -/
def laws_markByteS.l0 : Nat → List Int → Int → Int → Option (Int × List Int)
  | 0, _, _, _ => none
  | k + 1, x0, x1, x5 => if x5 < (x0.length : Int) then (if 0 ≤ x5 then (laws_markByteS.l0 k (x0.set (x5 : Int).toNat ((x1) % 256)) (wrap64 (x1 + 1)) (wrap64 (x5 + 1))) else (none)) else (some (x1, x0))
def laws_markByteS.f (k : Nat) (l0 : List Int) (a1 : Int) : Option (Int × List Int) := laws_markByteS.l0 k l0 a1 0
theorem laws_markByteS.mono_l : ∀ k, (∀ y0 y1 y2, LeO (laws_markByteS.l0 k y0 y1 y2) (laws_markByteS.l0 (k + 1) y0 y1 y2))
  | 0 => fun _ _ _ r h => by simp [laws_markByteS.l0] at h
  | k + 1 => by
    have ih0 := laws_markByteS.mono_l k
    · intro y0 y1 y2
      unfold laws_markByteS.l0
      repeat' first
      | (with_reducible exact ih0 _ _ _)
      | (with_reducible exact LeO.refl _)
      | (with_reducible exact LeO.none _)
      | (with_reducible refine LeO.ite ?_ ?_)
      | (with_reducible refine LeO.bind ?_ (fun _ => ?_))
      | exact ih0 _ _ _
      | exact LeO.none _
      | refine LeO.ite ?_ ?_
      | refine LeO.bind ?_ (fun _ => ?_)
theorem laws_markByteS.mono : ∀ a0 a1 k, LeO (laws_markByteS.f k a0 a1) (laws_markByteS.f (k + 1) a0 a1) := by
  intro a0 a1 k
  have ih0 := laws_markByteS.mono_l k
  unfold laws_markByteS.f
  repeat' first
      | (with_reducible exact ih0 _ _ _)
      | (with_reducible exact LeO.refl _)
      | (with_reducible exact LeO.none _)
      | (with_reducible refine LeO.ite ?_ ?_)
      | (with_reducible refine LeO.bind ?_ (fun _ => ?_))
      | exact ih0 _ _ _
      | exact LeO.none _
      | refine LeO.ite ?_ ?_
      | refine LeO.bind ?_ (fun _ => ?_)
set_option maxHeartbeats 8000000 in
set_option maxRecDepth 100000 in
theorem laws_markByteS.calls (k : Nat) (P0_ : Nat → Prop) (u9000_ : Value) (l0 : List Int) (a1 : Int) (r1 : Int) (r2 : List Int) (w0 w : World) (hB : Below w0.heap.size w0 w) (ho0 : Kd.R (Kd.int .u8) 5 w w0.heap.size P0_ u9000_ l0) (h : laws_markByteS.f k l0 a1 = some (r1, r2)) :
    Calls Try.prog 15 #[u9000_, .int .i64 a1] w fun e w' => e = .returned (.int .i64 r1) ∧ Kd.R (Kd.int .u8) 5 w' w0.heap.size (fun k_ => (P0_ k_ ∨ w.heap.size ≤ k_)) u9000_ r2 ∧ Below w0.heap.size w0 w' ∧ Kept w w' (fun k_ => P0_ k_) := by
  have HO0 := Aside0.mk (show Kd.R (Kd.int .u8) 5 w w0.heap.size (fun k_ => (P0_ k_ ∨ w.heap.size ≤ k_)) u9000_ l0 from Kd.R_mono ho0 (fun k_ hk => (.inl hk)))
  have HK := Aside0.mk (Kept.refl w (fun k_ => P0_ k_))
  have HW0 := Aside0.mk hB.size
  have HB := Aside0.mk hB
  clear hB
  have H : (laws_markByteS.l0 k l0 a1 0) = some (r1, r2) := h
  clear h
  have H' := Aside0.mk H
  clear H
  go_enter Try.func15, Try.ntmps15
  go_wp2
  go_loopg [1, 5] k (fun kq v1 v5 w' => ∃ (x0_1 : List Int) (x1_1 : Int) (x5_1 : Int), v1 = .int .i64 x1_1 ∧ v5 = .int .i64 x5_1 ∧ Aside0 (laws_markByteS.l0 kq x0_1 x1_1 x5_1 = some (r1, r2)) ∧ Aside0 (kq ≤ k) ∧ Aside0 (Kd.R (Kd.int .u8) 5 w' w0.heap.size (fun k_ => (P0_ k_ ∨ w.heap.size ≤ k_)) u9000_ x0_1) ∧ Aside0 (Kept w w' (fun k_ => P0_ k_)) ∧ Aside0 (Below w0.heap.size w0 w'))
  case atStart => exact ⟨(l0), (a1), (0), (by first | rfl | (simp; done) | (simp [*]; done)), (by first | rfl | (simp; done) | (simp [*]; done)), H', ⟨Nat.le_refl _⟩, ⟨by (with_reducible repeat (first | apply Kd.R_alloc | apply Kd.R_drewN | apply Kd.R_drew)); exact HO0.out⟩, ⟨by repeat (first | (with_reducible first | exact HK.out | apply Kept.alloc | apply Kept.drewN | apply Kept.drew) | exact HK.out)⟩, ⟨by repeat (first | (with_reducible first | exact HB.out | apply below_alloc | apply pw_below_drewN | apply below_drew1) | exact HB.out)⟩⟩
  case round =>
    clear H'
    try clear c1
    try clear p2
    obtain ⟨x0_1, x1_1, x5_1, rfl, rfl, HA, HK1, HO_0, HK, HB⟩ := hrel
    cases gk with
    | zero => exact absurd HA.out (by simp [laws_markByteS.l0])
    | succ k1 =>
      have H := HA.out
      clear HA
      simp only [laws_markByteS.l0] at H
      by_cases c3 : x5_1 < (x0_1.length : Int)
      · rw [if_pos c3] at H
        have c3b0 : decide (x5_1 < (x0_1.length : Int)) = true := decide_eq_true c3
        clear c3
        by_cases c4 : 0 ≤ x5_1
        · rw [if_pos c4] at H
          have c4b0 : decide (0 ≤ x5_1) = true := decide_eq_true c4
          clear c4
          obtain ⟨y103, hy103⟩ : ∃ y_ : List Int, y_ = (x0_1.set (x5_1 : Int).toNat ((x1_1) % 256)) := ⟨_, rfl⟩
          replace H : (laws_markByteS.l0 k1 y103 (wrap64 (x1_1 + 1)) (wrap64 (x5_1 + 1))) = some (r1, r2) := by first | (rw [hy103]; with_reducible exact H) | (have H2_ := (Option.bind_some _ _).symm.trans H; rw [hy103]; with_reducible exact H2_) | (have H2_ := (Option.bind_some _ _).symm.trans H; with_reducible exact H2_) | with_reducible exact H | (rw [hy103]; exact H) | exact H
          have Ny103 := Aside0.mk hy103
          clear hy103
          have H' := Aside0.mk H
          clear H
          obtain ⟨Ao6, co6, eo6⟩ := Kd.R_slice HO_0.out
          subst eo6
          have p5 : 0 ≤ (x5_1 : Int) := of_decide_eq_true (by first | (with_reducible assumption) | assumption)
          have q5 : (x5_1 : Int) < ((x0_1.length : Int) : Int) := of_decide_eq_true (by first | (with_reducible assumption) | assumption)
          obtain ⟨go5, co5, eo5, gb5, gl5, cl5, HG5⟩ := Kd.R_form HO_0.out (by omega)
          (first | cases eo5 | (injection eo5 with ea_ en_ ec_; (first | subst ea_ | (injection ea_ with ea_; subst ea_)); subst ec_; clear en_))
          have GB5 := Aside0.mk gb5
          have GG5 := Aside0.mk HG5
          clear gb5 gl5 HG5
          have HMgo5 := Aside0.mk (show (P0_ go5 ∨ w.heap.size ≤ go5) from (HO_0.out.1 _ rfl))
          obtain ⟨hx5_0, hf5_0⟩ := Kd.R_celln 0 HO_0.out (x5_1 : Int) p5 q5
          replace p5 := eq_true p5
          replace q5 := eq_true q5
          have HP7 := Kd.R_putg HO_0.out (x5_1 : Int) ((x1_1) % 256)
          go_wp2_with (first | ((with_reducible refine gate_store (t := 5) (p := 16) rfl ?_); refine store_event (t := 5) (p := 16) (v := ?vo_w8) (w1 := (wr.setCell ⟨go5, (x5_1 : Int).toNat, none⟩ (.int .u8 ((x1_1) % 256)))) ?hg ?ho ?hn ?hr ?_; (case ho => rfl); (case hg => rfl); (case hn => rfl); (case hr => first | (go_simp; done) | (go_simp; rfl)); intro w8 hw; have hg : wr.grownBy w8 (some go5) := (by rw [hw]; exact HP7.2); have hp_ : Kd.R (Kd.int .u8) 5 w8 w0.heap.size (fun k_ => (P0_ k_ ∨ w.heap.size ≤ k_)) (.slice (some ⟨go5, 0, none⟩) x0_1.length co6) y103 := (by rw [hw, Ny103.out]; exact HP7.1); clear HP7; have n0_ := Aside0.mk (hp_); have n1_ := Aside0.mk ((by rw [hw]; exact below_set (HB.out) GB5.out : Below w0.heap.size w0 w8)); have n2_ := Aside0.mk (Kept.of_grown (S := (fun k_ => P0_ k_)) hg (by repeat (first | (with_reducible first | exact HK.out | apply Kept.alloc | apply Kept.drewN | apply Kept.drew) | exact HK.out)) (fun k_ e_ => (HO_0.out.1 k_ e_))); clear HO_0; clear HB; clear HK; have HO_0 := n0_; have HB := n1_; have HK := n2_; clear n0_ n1_ n2_; clear hg hw hp_))
          go_roundg k1
          case measure => have := HK1.out; omega
          case rel => exact ⟨(y103), (wrap64 (x1_1 + 1)), (wrap64 (x5_1 + 1)), (by first | rfl | (simp; done) | (simp [*]; done)), (by first | rfl | (simp; done) | (simp [*]; done)), H', ⟨by have := HK1.out; omega⟩, ⟨by (with_reducible repeat (first | apply Kd.R_alloc | apply Kd.R_drewN | apply Kd.R_drew)); exact HO_0.out⟩, ⟨by repeat (first | (with_reducible first | exact HK.out | apply Kept.alloc | apply Kept.drewN | apply Kept.drew) | exact HK.out)⟩, ⟨by repeat (first | (with_reducible first | exact HB.out | apply below_alloc | apply pw_below_drewN | apply below_drew1) | exact HB.out)⟩⟩
        · rw [if_neg c4] at H
          exact absurd H (by simp)
      · rw [if_neg c3] at H
        have c3b0 : decide (x5_1 < (x0_1.length : Int)) = false := decide_eq_false c3
        clear c3
        simp only [Option.some.injEq, Prod.mk.injEq] at H
        obtain ⟨rfl, rfl⟩ := H
        obtain ⟨Ao9, co9, eo9⟩ := Kd.R_slice HO_0.out
        subst eo9
        go_wp2
        go_ret
        exact ⟨by first | rfl | (simp [errW_none, errW_some] <;> rfl) | (simp [*, errW_none, errW_some] <;> rfl), by (with_reducible repeat (first | apply Kd.R_alloc | apply Kd.R_drewN | apply Kd.R_drew)); exact HO_0.out, by repeat (first | (with_reducible first | exact HB.out | apply below_alloc | apply pw_below_drewN | apply below_drew1) | exact HB.out), by repeat (first | (with_reducible first | exact HK.out | apply Kept.alloc | apply Kept.drewN | apply Kept.drew) | exact HK.out)⟩

/-! ### laws_toByteS: function 18 -/
def laws_toByteS.l0 : Nat → List Int → List Int → Int → Option (List Int)
  | 0, _, _, _ => none
  | k + 1, x0, x3, x4 => if x4 < (x0.length : Int) then (if 0 ≤ x4 then (if x4 < (x3.length : Int) then (laws_toByteS.l0 k x0 (x3.set (x4 : Int).toNat (rd x0 x4)) (wrap64 (x4 + 1))) else (none)) else (none)) else (some x3)
def laws_toByteS.f (k : Nat) (l0 : List Int) : Option (List Int) := if 0 ≤ (l0.length : Int) then (if ((l0.length : Int) : Int).toNat ≤ 281474976710656 then (laws_toByteS.l0 k l0 (List.replicate ((l0.length : Int) : Int).toNat 0) 0) else (none)) else (none)
theorem laws_toByteS.mono_l : ∀ k, (∀ y0 y1 y2, LeO (laws_toByteS.l0 k y0 y1 y2) (laws_toByteS.l0 (k + 1) y0 y1 y2))
  | 0 => fun _ _ _ r h => by simp [laws_toByteS.l0] at h
  | k + 1 => by
    have ih0 := laws_toByteS.mono_l k
    · intro y0 y1 y2
      unfold laws_toByteS.l0
      repeat' first
      | (with_reducible exact ih0 _ _ _)
      | (with_reducible exact LeO.refl _)
      | (with_reducible exact LeO.none _)
      | (with_reducible refine LeO.ite ?_ ?_)
      | (with_reducible refine LeO.bind ?_ (fun _ => ?_))
      | exact ih0 _ _ _
      | exact LeO.none _
      | refine LeO.ite ?_ ?_
      | refine LeO.bind ?_ (fun _ => ?_)
theorem laws_toByteS.mono : ∀ a0 k, LeO (laws_toByteS.f k a0) (laws_toByteS.f (k + 1) a0) := by
  intro a0 k
  have ih0 := laws_toByteS.mono_l k
  unfold laws_toByteS.f
  repeat' first
      | (with_reducible exact ih0 _ _ _)
      | (with_reducible exact LeO.refl _)
      | (with_reducible exact LeO.none _)
      | (with_reducible refine LeO.ite ?_ ?_)
      | (with_reducible refine LeO.bind ?_ (fun _ => ?_))
      | exact ih0 _ _ _
      | exact LeO.none _
      | refine LeO.ite ?_ ?_
      | refine LeO.bind ?_ (fun _ => ?_)
set_option maxHeartbeats 8000000 in
set_option maxRecDepth 100000 in
theorem laws_toByteS.calls (k : Nat) (A0 : Option Addr) (c0 : Nat) (l0 : List Int) (r : List Int) (w : World) (hr0 : Kd.C (Kd.int .u8) w A0 l0.length l0) (hc0 : l0.length ≤ c0) (h : laws_toByteS.f k l0 = some r) :
    Calls Try.prog 18 #[.slice A0 l0.length c0] w fun e w' => ∃ v0_ : Value, e = .returned (v0_) ∧ Kd.R (Kd.int .u8) 5 w' w.heap.size (fun _ => True) v0_ r ∧ Below w.heap.size w w' := by
  have HR0 := Aside0.mk hr0
  have HC0 := Aside0.mk hc0
  clear hr0 hc0
  have HB := Aside0.mk (Below.refl w.heap.size w)
  have H : (if 0 ≤ (l0.length : Int) then (if ((l0.length : Int) : Int).toNat ≤ 281474976710656 then (laws_toByteS.l0 k l0 (List.replicate ((l0.length : Int) : Int).toNat 0) 0) else (none)) else (none)) = some r := h
  clear h
  by_cases c2 : 0 ≤ (l0.length : Int)
  · rw [if_pos c2] at H
    have c2b0 := eq_true c2
    have c2b1 : decide (0 ≤ (l0.length : Int)) = true := decide_eq_true c2
    clear c2
    by_cases c3 : ((l0.length : Int) : Int).toNat ≤ 281474976710656
    · rw [if_pos c3] at H
      have c3b0 := eq_true c3
      have c3b1 : decide (((l0.length : Int) : Int).toNat ≤ 281474976710656) = true := decide_eq_true c3
      clear c3
      obtain ⟨y104, hy104⟩ : ∃ y_ : List Int, y_ = (List.replicate ((l0.length : Int) : Int).toNat 0) := ⟨_, rfl⟩
      replace H : (laws_toByteS.l0 k l0 y104 0) = some r := by first | (rw [hy104]; with_reducible exact H) | (have H2_ := (Option.bind_some _ _).symm.trans H; rw [hy104]; with_reducible exact H2_) | (have H2_ := (Option.bind_some _ _).symm.trans H; with_reducible exact H2_) | with_reducible exact H | (rw [hy104]; exact H) | exact H
      have Ny104 := Aside0.mk hy104
      clear hy104
      have H' := Aside0.mk H
      clear H
      go_enter Try.func18, Try.ntmps18
      go_wp2_with (first | ((with_reducible refine gate_dst (N := 7) rfl ?_); refine Kd.R_make (Kd.int .u8) _ 5 rfl (N := 7) rfl 25 _ _ rfl (l0.length : Int) rfl rfl Try.underlying25 (.int .u8 0) 1 info5 rfl (by decide) (by omega) 0 (ok := fun _ => True) (okp := fun _ => True) rfl (fun _ hk => hk) trivial (of_decide_eq_true (by first | (with_reducible assumption) | assumption)) (Nat.le_trans (Nat.mul_le_mul_right _ (of_decide_eq_true (by first | (with_reducible assumption) | assumption) : (l0.length : Int).toNat ≤ 281474976710656)) (by omega)) (Below.refl _ _) (Nat.le_refl _) ?_; intro v105 w4 ho5 hb hg_ hnew_; clear hg_ hnew_; (first | rw [← Ny104.out] at ho5 | (simp only [Int.reduceToNat] at ho5; rw [← Ny104.out] at ho5)); have n0_ := Aside0.mk (Kd.R_lower ho5 (below_size (by repeat (first | (with_reducible first | exact HB.out | apply below_alloc | apply pw_below_drewN | apply below_drew1) | exact HB.out)))); have n1_ := Aside0.mk (below_step (by repeat (first | (with_reducible first | exact HB.out | apply below_alloc | apply pw_below_drewN | apply below_drew1) | exact HB.out)) hb); clear HB; have HO106 := n0_; have HB := n1_; clear n0_ n1_; clear hb ho5))
      go_loopg [4] k (fun kq v4 w' => ∃ (x3_1 : List Int) (x4_1 : Int), v4 = .int .i64 x4_1 ∧ Aside0 (laws_toByteS.l0 kq l0 x3_1 x4_1 = some r) ∧ Aside0 (kq ≤ k) ∧ Aside0 (Kd.R (Kd.int .u8) 5 w' w.heap.size (fun _ => True) v105 x3_1) ∧ Aside0 (Below w.heap.size w w'))
      case atStart => exact ⟨(y104), (0), (by first | rfl | (simp; done) | (simp [*]; done)), H', ⟨Nat.le_refl _⟩, ⟨by (with_reducible repeat (first | apply Kd.R_alloc | apply Kd.R_drewN | apply Kd.R_drew)); exact HO106.out⟩, ⟨by repeat (first | (with_reducible first | exact HB.out | apply below_alloc | apply pw_below_drewN | apply below_drew1) | exact HB.out)⟩⟩
      case round =>
        clear H'
        try clear c1
        try clear c2
        try clear c2b0
        try clear c2b1
        try clear p2
        try clear c3
        try clear c3b0
        try clear c3b1
        obtain ⟨x3_1, x4_1, rfl, HA, HK1, HO_3, HB⟩ := hrel
        cases gk with
        | zero => exact absurd HA.out (by simp [laws_toByteS.l0])
        | succ k1 =>
          have H := HA.out
          clear HA
          simp only [laws_toByteS.l0] at H
          by_cases c6 : x4_1 < (l0.length : Int)
          · rw [if_pos c6] at H
            have c6b0 : decide (x4_1 < (l0.length : Int)) = true := decide_eq_true c6
            clear c6
            by_cases c7 : 0 ≤ x4_1
            · rw [if_pos c7] at H
              have c7b0 : decide (0 ≤ x4_1) = true := decide_eq_true c7
              clear c7
              by_cases c8 : x4_1 < (x3_1.length : Int)
              · rw [if_pos c8] at H
                have c8b0 : decide (x4_1 < (x3_1.length : Int)) = true := decide_eq_true c8
                clear c8
                obtain ⟨y108, hy108⟩ : ∃ y_ : List Int, y_ = (x3_1.set (x4_1 : Int).toNat (rd l0 x4_1)) := ⟨_, rfl⟩
                replace H : (laws_toByteS.l0 k1 l0 y108 (wrap64 (x4_1 + 1))) = some r := by first | (rw [hy108]; with_reducible exact H) | (have H2_ := (Option.bind_some _ _).symm.trans H; rw [hy108]; with_reducible exact H2_) | (have H2_ := (Option.bind_some _ _).symm.trans H; with_reducible exact H2_) | with_reducible exact H | (rw [hy108]; exact H) | exact H
                have Ny108 := Aside0.mk hy108
                clear hy108
                have H' := Aside0.mk H
                clear H
                have p107 : 0 ≤ (x4_1 : Int) := of_decide_eq_true (by first | (with_reducible assumption) | assumption)
                have q107 : x4_1 < (l0.length : Int) := of_decide_eq_true (by first | (with_reducible assumption) | assumption)
                obtain ⟨ad107, e107, hx107_0⟩ := Kd.at_int HR0.out x4_1 p107 q107
                cases e107
                replace hx107_0 := (HB.out.cell (World.block_lt_of_cell? w _ hx107_0)).trans hx107_0
                replace p107 := eq_true p107
                replace q107 := eq_true q107
                have p9 : 0 ≤ (x4_1 : Int) := of_decide_eq_true (by first | (with_reducible assumption) | assumption)
                have q9 : (x4_1 : Int) < ((x3_1.length : Int) : Int) := of_decide_eq_true (by first | (with_reducible assumption) | assumption)
                obtain ⟨go9, co9, eo9, gb9, gl9, cl9, HG9⟩ := Kd.R_form HO_3.out (by omega)
                (first | cases eo9 | (injection eo9 with ea_ en_ ec_; (first | subst ea_ | (injection ea_ with ea_; subst ea_)); subst ec_; clear en_))
                have GB9 := Aside0.mk gb9
                have GG9 := Aside0.mk HG9
                clear gb9 gl9 HG9
                obtain ⟨hx9_0, hf9_0⟩ := Kd.R_celln 0 HO_3.out (x4_1 : Int) p9 q9
                replace p9 := eq_true p9
                replace q9 := eq_true q9
                have HP10 := Kd.R_putg HO_3.out (x4_1 : Int) (rd l0 x4_1)
                go_wp2_with (first | ((with_reducible refine gate_store (t := 5) (p := 20) rfl ?_); refine store_event (t := 5) (p := 20) (v := ?vo_w11) (w1 := (wr.setCell ⟨go9, (x4_1 : Int).toNat, none⟩ (.int .u8 (rd l0 x4_1)))) ?hg ?ho ?hn ?hr ?_; (case ho => rfl); (case hg => rfl); (case hn => rfl); (case hr => first | (go_simp; done) | (go_simp; rfl)); intro w11 hw; have hg : wr.grownBy w11 (some go9) := (by rw [hw]; exact HP10.2); have hp_ : Kd.R (Kd.int .u8) 5 w11 w.heap.size (fun _ => True) (.slice (some ⟨go9, 0, none⟩) x3_1.length co9) y108 := (by rw [hw, Ny108.out]; exact HP10.1); clear HP10; have n0_ := Aside0.mk (hp_); have n1_ := Aside0.mk ((by rw [hw]; exact below_set (HB.out) GB9.out : Below w.heap.size w w11)); clear HO_3; clear HB; have HO_3 := n0_; have HB := n1_; clear n0_ n1_; clear hg hw hp_))
                go_roundg k1
                case measure => have := HK1.out; omega
                case rel => exact ⟨(y108), (wrap64 (x4_1 + 1)), (by first | rfl | (simp; done) | (simp [*]; done)), H', ⟨by have := HK1.out; omega⟩, ⟨by (with_reducible repeat (first | apply Kd.R_alloc | apply Kd.R_drewN | apply Kd.R_drew)); exact HO_3.out⟩, ⟨by repeat (first | (with_reducible first | exact HB.out | apply below_alloc | apply pw_below_drewN | apply below_drew1) | exact HB.out)⟩⟩
              · rw [if_neg c8] at H
                exact absurd H (by simp)
            · rw [if_neg c7] at H
              exact absurd H (by simp)
          · rw [if_neg c6] at H
            have c6b0 : decide (x4_1 < (l0.length : Int)) = false := decide_eq_false c6
            clear c6
            obtain rfl := Option.some.inj H
            go_wp2
            go_ret
            exact ⟨_, by first | rfl | (simp [errW_none, errW_some] <;> rfl) | (simp [*, errW_none, errW_some] <;> rfl), by (with_reducible repeat (first | apply Kd.R_alloc | apply Kd.R_drewN | apply Kd.R_drew)); exact HO_3.out, by repeat (first | (with_reducible first | exact HB.out | apply below_alloc | apply pw_below_drewN | apply below_drew1) | exact HB.out)⟩
    · rw [if_neg c3] at H
      exact absurd H (by simp)
  · rw [if_neg c2] at H
    exact absurd H (by simp)

open Go.Proofs.YtkghgjehjchajaaW Go.Proofs.YtkghgjehjchajaaW.PrintHand Go.Proofs.YtkghgjehjchajaaW.PrintHx
/-! ### laws_eqIntA12: function 49 -/
def laws_eqIntA12.f (a0 a1 : List Int) : Option Bool := if a0 = a1 then some true else none
set_option maxHeartbeats 4000000 in
theorem laws_eqIntA12.calls (a0 : List Int) (n0 : a0.length = 12) (a1 : List Int) (n1 : a1.length = 12) (r : Bool) (w : World) (h : laws_eqIntA12.f a0 a1 = some r) :
    Calls Try.prog 49 #[.agg (nums .i64 a0).toArray, .agg (nums .i64 a1).toArray] w fun e w' => e = .returned (.bool r) ∧ Below w.heap.size w w' := by
  unfold laws_eqIntA12.f at h
  by_cases he : a0 = a1
  case neg => rw [if_neg he] at h; cases h
  rw [if_pos he] at h
  obtain rfl := Option.some.inj h
  subst he
  have N_ := Aside0.mk n0
  clear n0 n1 h
  have HB0 : Aside0 (Below w.heap.size w w) := ⟨Below.refl _ _⟩
  obtain ⟨s0, Sz0⟩ : ∃ s0, Aside0 (w.heap.size = s0) := ⟨_, ⟨rfl⟩⟩
  go_enter Try.func49, Try.ntmps49
  go_wp2_with (first | ((with_reducible refine gate_dst (N := 2) rfl ?_); refine hx_box rfl 2 rfl 22 (.tmp 0) rfl Sz0 (.agg (nums .i64 a0).toArray) (nums .i64 a0).toArray rfl rfl ?_; intro w1 s1 L1 Sz1 b1 g_; have H0 := Aside0.mk g_; have HB1 := Aside0.mk (below_then HB0.out HB0.out.size b1); clear g_ HB0 b1) | ((with_reducible refine gate_dst (N := 3) rfl ?_); refine hx_box rfl 3 rfl 22 (.tmp 1) rfl Sz1 (.agg (nums .i64 a0).toArray) (nums .i64 a0).toArray rfl rfl ?_; intro w2 s2 L2 Sz2 b2 g_; have H1 := Aside0.mk g_; have H0 := Aside0.mk (blk_below H0.out b2); have HB2 := Aside0.mk (below_then HB1.out HB1.out.size b2); clear g_ HB1 b2))
  (try simp only [Act.put, List.setIfInBounds_toArray, List.set_cons_succ, List.set_cons_zero])
  go_loopw [5] (fun i wr => ∃ k : Nat, k ≤ 12 ∧ i = .int .i64 (k : Int) ∧ Aside0 (Below w.heap.size w wr) ∧ Aside0 (wr.heap[s0]? = some (.cells (nums .i64 a0).toArray 22 (0, 0))) ∧ Aside0 (wr.heap[s1]? = some (.cells (nums .i64 a0).toArray 22 (0, 0)))) (fun i _ => 12 - (intOf i).toNat)
  case atStart => exact ⟨0, by omega, rfl, HB2, H0, H1⟩
  case round =>
    obtain ⟨k, hk, rfl, hB, h0, h1⟩ := hrel
    by_cases hlt : k < 12
    · have c0 := row_cell h0.out k (by rw [N_.out]; exact hlt)
      have c1 := row_cell h1.out k (by rw [N_.out]; exact hlt)
      have hn : (a0.getD k 0 != a0.getD k 0) = false := by simp
      go_wp2
      go_quiet (fail)
      go_wp2
      go_roundw
      case rel => exact ⟨k + 1, by omega, by go_num, ⟨pw_below_drewN hB.out _⟩, ⟨blk_drewN h0.out _⟩, ⟨blk_drewN h1.out _⟩⟩
      case measure => simp [intOf]; omega
    · obtain rfl : k = 12 := by omega
      go_wp2
      go_ret
      exact ⟨rfl, hB.out⟩

open Go.Proofs.YtkghgjehjchajaaW Go.Proofs.YtkghgjehjchajaaW.PrintHand Go.Proofs.YtkghgjehjchajaaW.PrintHx
/-! ### laws_eqRoot: function 20 -/
def laws_eqRoot.f (a0 a1 : List Int) : Option Bool := if a0 = a1 then some true else none
set_option maxHeartbeats 8000000 in
set_option maxRecDepth 100000 in
theorem laws_eqRoot.calls (a0 : List Int) (n0 : a0.length = 15) (a1 : List Int) (n1 : a1.length = 15) (r : Bool) (w : World) (h : laws_eqRoot.f a0 a1 = some r) :
    Calls Try.prog 20 #[.agg (nums .i64 a0).toArray, .agg (nums .i64 a1).toArray] w fun e w' => e = .returned (.bool r) ∧ Below w.heap.size w w' := by
  unfold laws_eqRoot.f at h
  by_cases he : a0 = a1
  case neg => rw [if_neg he] at h; cases h
  rw [if_pos he] at h
  obtain rfl := Option.some.inj h
  subst he
  have N_ := Aside0.mk n0
  clear n0 n1 h
  have HB0 : Aside0 (Below w.heap.size w w) := ⟨Below.refl _ _⟩
  obtain ⟨s0, Sz0⟩ : ∃ s0, Aside0 (w.heap.size = s0) := ⟨_, ⟨rfl⟩⟩
  have hw0 : w.heap.size ≤ s0 := Nat.le_of_eq Sz0.out
  have hw1 : s0 ≤ w.heap.size := Nat.le_of_eq Sz0.out.symm
  go_enter Try.func20, Try.ntmps20
  go_wp2_with (first | ((with_reducible refine gate_dst (N := 2) rfl ?_); refine hx_box rfl 2 rfl 28 (.tmp 0) rfl Sz0 (.agg (nums .i64 a0).toArray) (nums .i64 a0).toArray rfl rfl ?_; intro w1 s1 L1 Sz1 b1 g_; have H2_1 := Aside0.mk g_; clear g_; have K0 := kept_below b1; have HB1 := Aside0.mk (below_then HB0.out HB0.out.size b1); clear b1; clear K0 HB0) | ((with_reducible refine gate_dst (N := 3) rfl ?_); refine hx_box rfl 3 rfl 28 (.tmp 1) rfl Sz1 (.agg (nums .i64 a0).toArray) (nums .i64 a0).toArray rfl rfl ?_; intro w2 s2 L2 Sz2 b2 g_; have H3_2 := Aside0.mk g_; clear g_; have K1 := kept_below b2; have HB2 := Aside0.mk (below_then HB1.out HB1.out.size b2); have H2_2 := Aside0.mk (blk_kept H2_1.out K1 (fun h_ => h_)); clear b2; clear K1 HB1 H2_1) | ((with_reducible refine gate_dst (N := 6) rfl ?_); refine hx_loadf rfl 3 (.tmp 5) rfl s0 0 rfl Try.underlying3 rfl H2_2.out (lt_len (n := 15) N_.out (by decide)) ?_) | ((with_reducible refine gate_dst (N := 8) rfl ?_); refine hx_loadf rfl 3 (.tmp 7) rfl s1 0 rfl Try.underlying3 rfl H3_2.out (lt_len (n := 15) N_.out (by decide)) ?_) | ((with_reducible refine gate_dst (N := 11) rfl ?_); refine hx_loadp rfl 22 (.tmp 10) rfl s0 1 12 rfl Try.underlying22 rfl (by kernel_rfl) H2_2.out (le_len (n := 15) N_.out (by decide)) ?_) | ((with_reducible refine gate_dst (N := 13) rfl ?_); refine hx_loadp rfl 22 (.tmp 12) rfl s1 1 12 rfl Try.underlying22 rfl (by kernel_rfl) H3_2.out (le_len (n := 15) N_.out (by decide)) ?_) | ((with_reducible refine gate_dst (N := 14) rfl ?_); refine goesL_ (some 14) rfl rfl Try.func49 (by kernel_rfl) rfl #[.agg (nums .i64 (seg a0 1 12)).toArray, .agg (nums .i64 (seg a0 1 12)).toArray] rfl (by (try simp only [List.map_toArray, List.map_cons, List.map_nil]); first | done | rfl) ?_; refine (laws_eqIntA12.calls _ (part_len (n := 15) N_.out (by decide)) _ (part_len (n := 15) N_.out (by decide)) _ _ (if_pos rfl)).mono ?_; rintro e_ w3 ⟨rfl, b3⟩; refine ⟨_, rfl, ?_⟩; obtain ⟨s3, L3, Sz3⟩ := size_letter Sz2 (kept_below b3); have K2 := kept_below b3; have HB3 := Aside0.mk (below_then HB2.out HB2.out.size b3); have H2_3 := Aside0.mk (blk_kept H2_2.out K2 (fun h_ => h_)); have H3_3 := Aside0.mk (blk_kept H3_2.out K2 (fun h_ => h_)); clear b3; clear K2 HB2 H2_2 H3_2) | ((with_reducible refine gate_dst (N := 17) rfl ?_); refine hx_loadf rfl 3 (.tmp 16) rfl s0 13 rfl Try.underlying3 rfl H2_3.out (lt_len (n := 15) N_.out (by decide)) ?_) | ((with_reducible refine gate_dst (N := 19) rfl ?_); refine hx_loadf rfl 3 (.tmp 18) rfl s1 13 rfl Try.underlying3 rfl H3_3.out (lt_len (n := 15) N_.out (by decide)) ?_) | ((with_reducible refine gate_dst (N := 22) rfl ?_); refine hx_loadf rfl 3 (.tmp 21) rfl s0 14 rfl Try.underlying3 rfl H2_3.out (lt_len (n := 15) N_.out (by decide)) ?_) | ((with_reducible refine gate_dst (N := 24) rfl ?_); refine hx_loadf rfl 3 (.tmp 23) rfl s1 14 rfl Try.underlying3 rfl H3_3.out (lt_len (n := 15) N_.out (by decide)) ?_))
  go_ret
  exact ⟨rfl, HB3.out⟩

open Go.Proofs.YtkghgjehjchajaaW Go.Proofs.YtkghgjehjchajaaW.PrintHand Go.Proofs.YtkghgjehjchajaaW.PrintHx
/-! ### laws_eqInode: function 26 -/
def laws_eqInode.f (a0 a1 : List Int) : Option Bool := if a0 = a1 then some true else none
set_option maxHeartbeats 8000000 in
set_option maxRecDepth 100000 in
theorem laws_eqInode.calls (a0 : List Int) (n0 : a0.length = 24) (a1 : List Int) (n1 : a1.length = 24) (r : Bool) (w : World) (h : laws_eqInode.f a0 a1 = some r) :
    Calls Try.prog 26 #[.agg (nums .i64 a0).toArray, .agg (nums .i64 a1).toArray] w fun e w' => e = .returned (.bool r) ∧ Below w.heap.size w w' := by
  unfold laws_eqInode.f at h
  by_cases he : a0 = a1
  case neg => rw [if_neg he] at h; cases h
  rw [if_pos he] at h
  obtain rfl := Option.some.inj h
  subst he
  have N_ := Aside0.mk n0
  clear n0 n1 h
  have HB0 : Aside0 (Below w.heap.size w w) := ⟨Below.refl _ _⟩
  obtain ⟨s0, Sz0⟩ : ∃ s0, Aside0 (w.heap.size = s0) := ⟨_, ⟨rfl⟩⟩
  have hw0 : w.heap.size ≤ s0 := Nat.le_of_eq Sz0.out
  have hw1 : s0 ≤ w.heap.size := Nat.le_of_eq Sz0.out.symm
  go_enter Try.func26, Try.ntmps26
  go_wp2_with (first | ((with_reducible refine gate_dst (N := 2) rfl ?_); refine hx_box rfl 2 rfl 42 (.tmp 0) rfl Sz0 (.agg (nums .i64 a0).toArray) (nums .i64 a0).toArray rfl rfl ?_; intro w1 s1 L1 Sz1 b1 g_; have H2_1 := Aside0.mk g_; clear g_; have K0 := kept_below b1; have HB1 := Aside0.mk (below_then HB0.out HB0.out.size b1); clear b1; clear K0 HB0) | ((with_reducible refine gate_dst (N := 3) rfl ?_); refine hx_box rfl 3 rfl 42 (.tmp 1) rfl Sz1 (.agg (nums .i64 a0).toArray) (nums .i64 a0).toArray rfl rfl ?_; intro w2 s2 L2 Sz2 b2 g_; have H3_2 := Aside0.mk g_; clear g_; have K1 := kept_below b2; have HB2 := Aside0.mk (below_then HB1.out HB1.out.size b2); have H2_2 := Aside0.mk (blk_kept H2_1.out K1 (fun h_ => h_)); clear b2; clear K1 HB1 H2_1) | ((with_reducible refine gate_dst (N := 6) rfl ?_); refine hx_loadf rfl 3 (.tmp 5) rfl s0 0 rfl Try.underlying3 rfl H2_2.out (lt_len (n := 24) N_.out (by decide)) ?_) | ((with_reducible refine gate_dst (N := 8) rfl ?_); refine hx_loadf rfl 3 (.tmp 7) rfl s1 0 rfl Try.underlying3 rfl H3_2.out (lt_len (n := 24) N_.out (by decide)) ?_) | ((with_reducible refine gate_dst (N := 11) rfl ?_); refine hx_loadf rfl 3 (.tmp 10) rfl s0 1 rfl Try.underlying3 rfl H2_2.out (lt_len (n := 24) N_.out (by decide)) ?_) | ((with_reducible refine gate_dst (N := 13) rfl ?_); refine hx_loadf rfl 3 (.tmp 12) rfl s1 1 rfl Try.underlying3 rfl H3_2.out (lt_len (n := 24) N_.out (by decide)) ?_) | ((with_reducible refine gate_dst (N := 16) rfl ?_); refine hx_loadf rfl 3 (.tmp 15) rfl s0 2 rfl Try.underlying3 rfl H2_2.out (lt_len (n := 24) N_.out (by decide)) ?_) | ((with_reducible refine gate_dst (N := 18) rfl ?_); refine hx_loadf rfl 3 (.tmp 17) rfl s1 2 rfl Try.underlying3 rfl H3_2.out (lt_len (n := 24) N_.out (by decide)) ?_) | ((with_reducible refine gate_dst (N := 21) rfl ?_); refine hx_loadf rfl 3 (.tmp 20) rfl s0 3 rfl Try.underlying3 rfl H2_2.out (lt_len (n := 24) N_.out (by decide)) ?_) | ((with_reducible refine gate_dst (N := 23) rfl ?_); refine hx_loadf rfl 3 (.tmp 22) rfl s1 3 rfl Try.underlying3 rfl H3_2.out (lt_len (n := 24) N_.out (by decide)) ?_) | ((with_reducible refine gate_dst (N := 26) rfl ?_); refine hx_loadf rfl 3 (.tmp 25) rfl s0 4 rfl Try.underlying3 rfl H2_2.out (lt_len (n := 24) N_.out (by decide)) ?_) | ((with_reducible refine gate_dst (N := 28) rfl ?_); refine hx_loadf rfl 3 (.tmp 27) rfl s1 4 rfl Try.underlying3 rfl H3_2.out (lt_len (n := 24) N_.out (by decide)) ?_) | ((with_reducible refine gate_dst (N := 31) rfl ?_); refine hx_loadf rfl 3 (.tmp 30) rfl s0 5 rfl Try.underlying3 rfl H2_2.out (lt_len (n := 24) N_.out (by decide)) ?_) | ((with_reducible refine gate_dst (N := 33) rfl ?_); refine hx_loadf rfl 3 (.tmp 32) rfl s1 5 rfl Try.underlying3 rfl H3_2.out (lt_len (n := 24) N_.out (by decide)) ?_) | ((with_reducible refine gate_dst (N := 36) rfl ?_); refine hx_loadf rfl 3 (.tmp 35) rfl s0 6 rfl Try.underlying3 rfl H2_2.out (lt_len (n := 24) N_.out (by decide)) ?_) | ((with_reducible refine gate_dst (N := 38) rfl ?_); refine hx_loadf rfl 3 (.tmp 37) rfl s1 6 rfl Try.underlying3 rfl H3_2.out (lt_len (n := 24) N_.out (by decide)) ?_) | ((with_reducible refine gate_dst (N := 41) rfl ?_); refine hx_loadf rfl 3 (.tmp 40) rfl s0 7 rfl Try.underlying3 rfl H2_2.out (lt_len (n := 24) N_.out (by decide)) ?_) | ((with_reducible refine gate_dst (N := 43) rfl ?_); refine hx_loadf rfl 3 (.tmp 42) rfl s1 7 rfl Try.underlying3 rfl H3_2.out (lt_len (n := 24) N_.out (by decide)) ?_) | ((with_reducible refine gate_dst (N := 46) rfl ?_); refine hx_loadf rfl 3 (.tmp 45) rfl s0 8 rfl Try.underlying3 rfl H2_2.out (lt_len (n := 24) N_.out (by decide)) ?_) | ((with_reducible refine gate_dst (N := 48) rfl ?_); refine hx_loadf rfl 3 (.tmp 47) rfl s1 8 rfl Try.underlying3 rfl H3_2.out (lt_len (n := 24) N_.out (by decide)) ?_) | ((with_reducible refine gate_dst (N := 51) rfl ?_); refine hx_loadp rfl 28 (.tmp 50) rfl s0 9 15 rfl Try.underlying28 rfl (by kernel_rfl) H2_2.out (le_len (n := 24) N_.out (by decide)) ?_) | ((with_reducible refine gate_dst (N := 53) rfl ?_); refine hx_loadp rfl 28 (.tmp 52) rfl s1 9 15 rfl Try.underlying28 rfl (by kernel_rfl) H3_2.out (le_len (n := 24) N_.out (by decide)) ?_) | ((with_reducible refine gate_dst (N := 54) rfl ?_); refine goesL_ (some 54) rfl rfl Try.func20 (by kernel_rfl) rfl #[.agg (nums .i64 (seg a0 9 15)).toArray, .agg (nums .i64 (seg a0 9 15)).toArray] rfl (by (try simp only [List.map_toArray, List.map_cons, List.map_nil]); first | done | rfl) ?_; refine (laws_eqRoot.calls _ (part_len (n := 24) N_.out (by decide)) _ (part_len (n := 24) N_.out (by decide)) _ _ (if_pos rfl)).mono ?_; rintro e_ w3 ⟨rfl, b3⟩; refine ⟨_, rfl, ?_⟩; obtain ⟨s3, L3, Sz3⟩ := size_letter Sz2 (kept_below b3); have K2 := kept_below b3; have HB3 := Aside0.mk (below_then HB2.out HB2.out.size b3); have H2_3 := Aside0.mk (blk_kept H2_2.out K2 (fun h_ => h_)); have H3_3 := Aside0.mk (blk_kept H3_2.out K2 (fun h_ => h_)); clear b3; clear K2 HB2 H2_2 H3_2))
  go_ret
  exact ⟨rfl, HB3.out⟩

open Go.Proofs.YtkghgjehjchajaaW Go.Proofs.YtkghgjehjchajaaW.PrintHand Go.Proofs.YtkghgjehjchajaaW.PrintHx
/-! ### laws_eqInodeS: function 31 -/
def laws_eqInodeS.f (l0 l1 : List (List Int)) : Option Bool := if l0 = l1 then some true else none
set_option maxHeartbeats 8000000 in
set_option maxRecDepth 100000 in
theorem laws_eqInodeS.calls (A0 : Option Addr) (c0 : Nat) (l0 : List (List Int)) (A1 : Option Addr) (c1 : Nat) (l1 : List (List Int)) (r : Bool) (w : World) (hr0 : Kd.C (PrintHx.wide 24) w A0 l0.length l0) (hc0 : l0.length ≤ c0) (hr1 : Kd.C (PrintHx.wide 24) w A1 l1.length l1) (hc1 : l1.length ≤ c1) (h : laws_eqInodeS.f l0 l1 = some r) :
    Calls Try.prog 31 #[.slice A0 l0.length c0, .slice A1 l1.length c1] w fun e w' => e = .returned (.bool r) ∧ Below w.heap.size w w' := by
  unfold laws_eqInodeS.f at h
  by_cases he : l0 = l1
  case neg => rw [if_neg he] at h; cases h
  rw [if_pos he] at h
  obtain rfl := Option.some.inj h
  subst he
  have HR0 := Aside0.mk hr0
  have HR1 := Aside0.mk hr1
  have HM := Aside0.mk (show l0.length ≤ 9223372036854775807 from hr0.2.1)
  clear hr0 hc0 hr1 hc1 h
  have hn_ : ((l0.length : Int) != (l0.length : Int)) = false := by simp
  go_enter Try.func31, Try.ntmps31
  go_wp2
  go_loopw [5] (fun v5 wr => ∃ j : Nat, v5 = .int .i64 (j : Int) ∧ Aside0 (j ≤ l0.length) ∧ Aside0 (Below w.heap.size w wr)) (fun v5 _ => l0.length - (intOf v5).toNat)
  case atStart => exact ⟨0, rfl, ⟨Nat.zero_le _⟩, ⟨Below.refl _ _⟩⟩
  case round =>
    obtain ⟨j, rfl, hj, HB⟩ := hrel
    by_cases c9 : j < l0.length
    · have c9b0 : decide ((j : Int) < (l0.length : Int)) = true := decide_eq_true (by omega)
      have c9b1 : decide (j < l0.length) = true := decide_eq_true c9
      obtain ⟨ad, ea, hl, hc⟩ := wide_at (Kd.C_below HR0.out HB.out) j c9
      subst ea
      obtain ⟨ad1, ea1, hl1, hc1⟩ := wide_at (Kd.C_below HR1.out HB.out) j c9
      subst ea1
      obtain ⟨x, hx⟩ : ∃ x, x = l0.getD j [] := ⟨_, rfl⟩
      rw [← hx] at hl hc hc1
      have HL := Aside0.mk hl
      have HC := Aside0.mk hc
      have HC1 := Aside0.mk hc1
      clear hx hl hc hc1 hl1
      have q3 : ((j : Int) < (l0.length : Int)) = True := eq_true (by omega)
      have q4 : (0 ≤ (j : Int)) = True := eq_true (by omega)
      have q5 : (j < l0.length) = True := eq_true c9
      have C9 := Aside0.mk c9
      clear c9
      go_wp2
      refine PrintQTail.wp_region_quiet_tail 8 (by kernel_rfl) (by kernel_rfl) ?_
      simp only [List.take_succ_cons, List.take_zero, List.drop_succ_cons, List.drop_zero]
      quiet_step (fail)
      quiet_step (fail)
      quiet_step (fail)
      refine quiet_load_at rfl 42 (.tmp 19) rfl (ad.add (j * 24)) rfl x 24 Try.underlying42 rfl (by kernel_rfl) HL.out (fun i hi => by rw [Addr.add_add]; exact HC.out i hi) ?_
      quiet_step (fail)
      quiet_step (fail)
      quiet_step (fail)
      refine quiet_load_at rfl 42 (.tmp 23) rfl (ad1.add (j * 24)) rfl x 24 Try.underlying42 rfl (by kernel_rfl) HL.out (fun i hi => by rw [Addr.add_add]; exact HC1.out i hi) ?_
      refine wpQuiet_nil ?_
      intro w_ hw_
      obtain ⟨nq, rfl⟩ := hw_
      go_wp2_with (first | ((with_reducible refine gate_dst (N := 25) rfl ?_); refine goesL_ (some 25) rfl rfl Try.func26 (by kernel_rfl) rfl #[.agg (nums .i64 x).toArray, .agg (nums .i64 x).toArray] rfl (by (try simp only [List.map_toArray, List.map_cons, List.map_nil]); first | done | rfl) ?_; refine (laws_eqInode.calls _ HL.out _ HL.out _ _ (if_pos rfl)).mono ?_; rintro e_ w2 ⟨rfl, b2⟩; refine ⟨_, rfl, ?_⟩; have HB4 := Aside0.mk (below_then (pw_below_drewN HB.out nq) (pw_below_drewN HB.out nq).size b2); clear b2 HB))
      go_roundw
      case rel => exact ⟨j + 1, by rw [show wrap64 ((j : Int) + 1) = ((j + 1 : Nat) : Int) by (have := HM.out; have := C9.out; unfold wrap64; omega)], ⟨by have := C9.out; omega⟩, HB4⟩
      case measure =>
        rw [show wrap64 ((j : Int) + 1) = ((j + 1 : Nat) : Int) by (have := HM.out; have := C9.out; unfold wrap64; omega)]
        simp only [intOf, Int.toNat_natCast]
        have := C9.out
        omega
    · have c9b0 : decide ((j : Int) < (l0.length : Int)) = false := decide_eq_false (by omega)
      have c9b1 : decide (j < l0.length) = false := decide_eq_false c9
      go_wp2
      go_ret
      exact ⟨rfl, HB.out⟩

open Go.Proofs.YtkghgjehjchajaaW Go.Proofs.YtkghgjehjchajaaW.PrintHand Go.Proofs.YtkghgjehjchajaaW.PrintHx
/-! ### laws_markInodeS: function 32 -/
open Go.Proofs.YtkghgjehjchajaaW.PrintTabl Go.Proofs.YtkghgjehjchajaaW.PrintTab2
theorem mk_base {b : List (List Int)} {x : List Int} {j : Nat} (kk : Nat) (hj : j < b.length) (hx : x = b.getD j []) : b.set j (mkRow x kk 0) = b := by
  rw [mkRow_zero, hx, List.getD_eq_getElem?_getD, List.getElem?_eq_getElem hj]
  simp
theorem mk_step {b : List (List Int)} {x : List Int} {j kk f : Nat} {v : Nat} (hj : j < b.length) (hf : f < x.length) (hv : v = kk + f) : (b.set j (mkRow x kk f)).set j (((b.set j (mkRow x kk f)).getD j []).set f ((v : Nat) : Int)) = b.set j (mkRow x kk (f + 1)) := by
  subst hv
  have e : (b.set j (mkRow x kk f)).getD j [] = mkRow x kk f := by
    rw [List.getD_eq_getElem?_getD, List.getElem?_set_self hj]
    rfl
  rw [e, mkRow_set hf, List.set_set]
theorem hx_putm {P : Program} {ops : Array Oper} {rest : List Oper} {o : Oper} {a : Act} {w : World} {Q : Exit → Act → World → Prop} {n : Nat} {w0 : World} (base : Nat) (hN : o.dst = none) (hgd : o.guard = none) (t : TypeId) (p x : Operand) (ho : o.op = .store t p x) (e : TypeId) {g m cap off : Nat} (j f : Nat) (xs : List (List Int)) (v : Int) (ok : Nat → Prop)
    (haddr : a.eval p = .pointer (some ⟨g, off, none⟩)) (hoff : off = j * n + f) (hx : a.eval x = .int .i64 v) (ht : (P.info? t).map (·.size) = some 1) (hf : f < n) (hm : m = xs.length)
    (HO : (PrintHx.wide n).R e w base ok (.slice (some ⟨g, 0, none⟩) m cap) xs) (hj : j < xs.length) (HB : Below base w0 w)
    (h : ∀ w1, (PrintHx.wide n).R e w1 base ok (.slice (some ⟨g, 0, none⟩) m cap) (xs.set j ((xs.getD j []).set f v)) → Below base w0 w1 → w.grownBy w1 (some g) → wpList P ops Q rest a w1) : wpList P ops Q (o :: rest) a w := by
  subst hm
  exact hx_putf base hN hgd t p x ho e j f xs v ok haddr hoff hx ht hf HO hj HB h
def laws_markInodeS.f (l0 : List (List Int)) (a1 : Int) : Option (Int × List (List Int)) := if a1 = 1 ∧ l0.length ≤ 1048576 then some (((1 + 24 * l0.length : Nat) : Int), marks 1 l0.length) else none
set_option maxHeartbeats 8000000 in
set_option maxRecDepth 100000 in
theorem laws_markInodeS.calls (P0_ : Nat → Prop) (u9000_ : Value) (l0 : List (List Int)) (a1 : Int) (r1 : Int) (r2 : List (List Int)) (w0 w : World) (hB : Below w0.heap.size w0 w) (ho0 : Kd.R (PrintHx.wide 24) 42 w w0.heap.size P0_ u9000_ l0) (h : laws_markInodeS.f l0 a1 = some (r1, r2)) :
    Calls Try.prog 32 #[u9000_, .int .i64 a1] w fun e w' => e = .returned (.int .i64 r1) ∧ Kd.R (PrintHx.wide 24) 42 w' w0.heap.size (fun k_ => (P0_ k_ ∨ w.heap.size ≤ k_)) u9000_ r2 ∧ Below w0.heap.size w0 w' ∧ Kept w w' (fun k_ => P0_ k_) := by
  unfold laws_markInodeS.f at h
  by_cases hd : a1 = 1 ∧ l0.length ≤ 1048576
  case neg => rw [if_neg hd] at h; cases h
  rw [if_pos hd] at h
  simp only [Option.some.injEq, Prod.mk.injEq] at h
  obtain ⟨rfl, rfl⟩ := h
  obtain rfl := hd.1
  have HLEN := Aside0.mk hd.2
  have HW : Aside0 (∀ x ∈ l0, x.length = 24) := by
    obtain ⟨A_, c_, e_⟩ := Kd.R_slice ho0
    rw [e_] at ho0
    exact ⟨wide_len (Kd.R_reads' ho0).2.2⟩
  have HO := Aside0.mk (show Kd.R (PrintHx.wide 24) 42 w w0.heap.size (fun k_ => (P0_ k_ ∨ w.heap.size ≤ k_)) u9000_ l0 from Kd.R_mono ho0 (fun k_ hk => (.inl hk)))
  have HK := Aside0.mk (Kept.refl w (fun k_ => P0_ k_))
  have HB := Aside0.mk hB
  clear hd ho0 hB
  obtain ⟨A0_, c0_, ev_⟩ := Kd.R_slice HO.out
  subst ev_
  go_enter Try.func32, Try.ntmps32
  go_wp2
  (try simp only [Act.put, List.setIfInBounds_toArray, List.set_cons_succ, List.set_cons_zero])
  go_loopw [1, 5, 6] (fun v1 v5 v6 wr => ∃ (j kk : Nat) (u6 : Value), u6 = v6 ∧ v5 = .int .i64 (j : Int) ∧ v1 = .int .i64 (kk : Int) ∧ Aside0 (j ≤ l0.length) ∧ Aside0 (kk = 1 + 24 * j) ∧ Aside0 (Kd.R (PrintHx.wide 24) 42 wr w0.heap.size (fun k_ => (P0_ k_ ∨ w.heap.size ≤ k_)) (.slice A0_ l0.length c0_) (marks 1 j ++ l0.drop j)) ∧ Aside0 (Below w0.heap.size w0 wr) ∧ Aside0 (Kept w wr P0_)) (fun _ v5 _ _ => l0.length - (intOf v5).toNat)
  case atStart => exact ⟨0, 1, _, rfl, rfl, rfl, ⟨Nat.zero_le _⟩, ⟨rfl⟩, HO, HB, HK⟩
  case round =>
    clear HO HB HK
    obtain ⟨j, kk, v6, rfl, rfl, rfl, hj, HKK, HO, HB, HK⟩ := hrel
    by_cases c9 : j < l0.length
    · have c9b0 : decide ((j : Int) < (l0.length : Int)) = true := decide_eq_true (by omega)
      have c9b1 : decide (j < l0.length) = true := decide_eq_true c9
      obtain ⟨b, hb⟩ : ∃ b, b = marks 1 j ++ l0.drop j := ⟨_, rfl⟩
      have hbl : b.length = l0.length := by rw [hb, List.length_append, marks_length, List.length_drop]; omega
      obtain ⟨g, cap, ev, hbg, hlt_, cells, hce⟩ := Kd.R_form HO.out (by rw [← hb, hbl]; omega)
      rw [← hb, hbl] at ev
      obtain ⟨rfl, rfl⟩ : A0_ = some ⟨g, 0, none⟩ ∧ c0_ = cap := by cases ev; exact ⟨rfl, rfl⟩
      clear ev hbg hlt_ hce cells
      obtain ⟨x, hx⟩ : ∃ x, x = b.getD j [] := ⟨_, rfl⟩
      have hxe : x = l0.getD j [] := by rw [hx, hb, List.getD_eq_getElem?_getD, List.getElem?_append_right (by rw [marks_length]; exact Nat.le_refl _), marks_length, Nat.sub_self, List.getElem?_drop, Nat.add_zero, List.getD_eq_getElem?_getD]
      have XL := Aside0.mk (show x.length = 24 by rw [hxe, List.getD_eq_getElem?_getD, List.getElem?_eq_getElem c9]; exact HW.out _ (List.getElem_mem c9))
      have BJ := Aside0.mk (show j < b.length by rw [hbl]; exact c9)
      have BL := Aside0.mk hbl
      have BE := Aside0.mk hb
      have KK := Aside0.mk (show kk ≤ 30000000 by have := HKK.out; have := HLEN.out; omega)
      have HO0 := Aside0.mk (show (PrintHx.wide 24).R 42 wr w0.heap.size (fun k_ => (P0_ k_ ∨ w.heap.size ≤ k_)) (.slice (some ⟨g, 0, none⟩) l0.length c0_) (b.set j (mkRow x kk 0)) by rw [mk_base kk BJ.out hx, hb]; exact HO.out)
      have HB0 := HB
      have HK0 := HK
      obtain ⟨k0, hk0⟩ : ∃ k0, k0 = kk := ⟨_, rfl⟩
      rw [← hk0]
      have F0 := Aside0.mk (show k0 = kk + (0) by omega)
      have q1 : ((j : Int) < (l0.length : Int)) = True := eq_true (by omega)
      have q2 : (j < l0.length) = True := eq_true c9
      have q4 : (0 ≤ (j : Int)) = True := eq_true (by omega)
      have C9 := Aside0.mk c9
      clear hx hxe hbl c9 HO HB HK hk0 hb
      go_wp2_with (first | ((with_reducible refine gate_store (t := 3) (p := 17) (v := .tmp 15) rfl ?_); refine hx_putm (w0 := w0) w0.heap.size rfl rfl 3 (.tmp 17) (.tmp 15) rfl 42 j (0) (b.set j (mkRow x kk (0))) (k0 : Int) (fun k_ => (P0_ k_ ∨ w.heap.size ≤ k_)) rfl (by first | rfl | omega) rfl (by kernel_rfl) (by omega) (by rw [List.length_set]; exact BL.out.symm) HO0.out (by rw [List.length_set]; exact BJ.out) HB0.out ?_; intro w1 ho_ hb_ hg_; have HO1 := Aside0.mk ho_; rw [mk_step BJ.out (by rw [XL.out]; omega) F0.out] at HO1; have HB1 := Aside0.mk hb_; have HK1 := Aside0.mk (Kept.of_grown (S := P0_) hg_ HK0.out (fun k_ e_ => by have h_ := HO0.out.1 k_ e_; exact h_)); clear ho_ hb_ hg_ HO0 HB0 HK0) | ((with_reducible refine gate_dst (N := 19) rfl ?_); refine hx_addn rfl 3 (.tmp 18) _ rfl k0 1 rfl rfl (by have := F0.out; have := KK.out; omega) ?_; intro k1 e_; have F1 := Aside0.mk (show k1 = kk + (1) by have := e_.out; have := F0.out; omega); clear e_) | ((with_reducible refine gate_store (t := 3) (p := 24) (v := .tmp 22) rfl ?_); refine hx_putm (w0 := w0) w0.heap.size rfl rfl 3 (.tmp 24) (.tmp 22) rfl 42 j (1) (b.set j (mkRow x kk (1))) (k1 : Int) (fun k_ => (P0_ k_ ∨ w.heap.size ≤ k_)) rfl (by first | rfl | omega) rfl (by kernel_rfl) (by omega) (by rw [List.length_set]; exact BL.out.symm) HO1.out (by rw [List.length_set]; exact BJ.out) HB1.out ?_; intro w2 ho_ hb_ hg_; have HO2 := Aside0.mk ho_; rw [mk_step BJ.out (by rw [XL.out]; omega) F1.out] at HO2; have HB2 := Aside0.mk hb_; have HK2 := Aside0.mk (Kept.of_grown (S := P0_) hg_ HK1.out (fun k_ e_ => by have h_ := HO1.out.1 k_ e_; exact h_)); clear ho_ hb_ hg_ HO1 HB1 HK1) | ((with_reducible refine gate_dst (N := 26) rfl ?_); refine hx_addn rfl 3 (.tmp 25) _ rfl k1 1 rfl rfl (by have := F1.out; have := KK.out; omega) ?_; intro k2 e_; have F2 := Aside0.mk (show k2 = kk + (2) by have := e_.out; have := F1.out; omega); clear e_) | ((with_reducible refine gate_store (t := 3) (p := 31) (v := .tmp 29) rfl ?_); refine hx_putm (w0 := w0) w0.heap.size rfl rfl 3 (.tmp 31) (.tmp 29) rfl 42 j (2) (b.set j (mkRow x kk (2))) (k2 : Int) (fun k_ => (P0_ k_ ∨ w.heap.size ≤ k_)) rfl (by first | rfl | omega) rfl (by kernel_rfl) (by omega) (by rw [List.length_set]; exact BL.out.symm) HO2.out (by rw [List.length_set]; exact BJ.out) HB2.out ?_; intro w3 ho_ hb_ hg_; have HO3 := Aside0.mk ho_; rw [mk_step BJ.out (by rw [XL.out]; omega) F2.out] at HO3; have HB3 := Aside0.mk hb_; have HK3 := Aside0.mk (Kept.of_grown (S := P0_) hg_ HK2.out (fun k_ e_ => by have h_ := HO2.out.1 k_ e_; exact h_)); clear ho_ hb_ hg_ HO2 HB2 HK2) | ((with_reducible refine gate_dst (N := 33) rfl ?_); refine hx_addn rfl 3 (.tmp 32) _ rfl k2 1 rfl rfl (by have := F2.out; have := KK.out; omega) ?_; intro k3 e_; have F3 := Aside0.mk (show k3 = kk + (3) by have := e_.out; have := F2.out; omega); clear e_) | ((with_reducible refine gate_store (t := 3) (p := 38) (v := .tmp 36) rfl ?_); refine hx_putm (w0 := w0) w0.heap.size rfl rfl 3 (.tmp 38) (.tmp 36) rfl 42 j (3) (b.set j (mkRow x kk (3))) (k3 : Int) (fun k_ => (P0_ k_ ∨ w.heap.size ≤ k_)) rfl (by first | rfl | omega) rfl (by kernel_rfl) (by omega) (by rw [List.length_set]; exact BL.out.symm) HO3.out (by rw [List.length_set]; exact BJ.out) HB3.out ?_; intro w4 ho_ hb_ hg_; have HO4 := Aside0.mk ho_; rw [mk_step BJ.out (by rw [XL.out]; omega) F3.out] at HO4; have HB4 := Aside0.mk hb_; have HK4 := Aside0.mk (Kept.of_grown (S := P0_) hg_ HK3.out (fun k_ e_ => by have h_ := HO3.out.1 k_ e_; exact h_)); clear ho_ hb_ hg_ HO3 HB3 HK3) | ((with_reducible refine gate_dst (N := 40) rfl ?_); refine hx_addn rfl 3 (.tmp 39) _ rfl k3 1 rfl rfl (by have := F3.out; have := KK.out; omega) ?_; intro k4 e_; have F4 := Aside0.mk (show k4 = kk + (4) by have := e_.out; have := F3.out; omega); clear e_) | ((with_reducible refine gate_store (t := 3) (p := 45) (v := .tmp 43) rfl ?_); refine hx_putm (w0 := w0) w0.heap.size rfl rfl 3 (.tmp 45) (.tmp 43) rfl 42 j (4) (b.set j (mkRow x kk (4))) (k4 : Int) (fun k_ => (P0_ k_ ∨ w.heap.size ≤ k_)) rfl (by first | rfl | omega) rfl (by kernel_rfl) (by omega) (by rw [List.length_set]; exact BL.out.symm) HO4.out (by rw [List.length_set]; exact BJ.out) HB4.out ?_; intro w5 ho_ hb_ hg_; have HO5 := Aside0.mk ho_; rw [mk_step BJ.out (by rw [XL.out]; omega) F4.out] at HO5; have HB5 := Aside0.mk hb_; have HK5 := Aside0.mk (Kept.of_grown (S := P0_) hg_ HK4.out (fun k_ e_ => by have h_ := HO4.out.1 k_ e_; exact h_)); clear ho_ hb_ hg_ HO4 HB4 HK4) | ((with_reducible refine gate_dst (N := 47) rfl ?_); refine hx_addn rfl 3 (.tmp 46) _ rfl k4 1 rfl rfl (by have := F4.out; have := KK.out; omega) ?_; intro k5 e_; have F5 := Aside0.mk (show k5 = kk + (5) by have := e_.out; have := F4.out; omega); clear e_) | ((with_reducible refine gate_store (t := 3) (p := 52) (v := .tmp 50) rfl ?_); refine hx_putm (w0 := w0) w0.heap.size rfl rfl 3 (.tmp 52) (.tmp 50) rfl 42 j (5) (b.set j (mkRow x kk (5))) (k5 : Int) (fun k_ => (P0_ k_ ∨ w.heap.size ≤ k_)) rfl (by first | rfl | omega) rfl (by kernel_rfl) (by omega) (by rw [List.length_set]; exact BL.out.symm) HO5.out (by rw [List.length_set]; exact BJ.out) HB5.out ?_; intro w6 ho_ hb_ hg_; have HO6 := Aside0.mk ho_; rw [mk_step BJ.out (by rw [XL.out]; omega) F5.out] at HO6; have HB6 := Aside0.mk hb_; have HK6 := Aside0.mk (Kept.of_grown (S := P0_) hg_ HK5.out (fun k_ e_ => by have h_ := HO5.out.1 k_ e_; exact h_)); clear ho_ hb_ hg_ HO5 HB5 HK5) | ((with_reducible refine gate_dst (N := 54) rfl ?_); refine hx_addn rfl 3 (.tmp 53) _ rfl k5 1 rfl rfl (by have := F5.out; have := KK.out; omega) ?_; intro k6 e_; have F6 := Aside0.mk (show k6 = kk + (6) by have := e_.out; have := F5.out; omega); clear e_) | ((with_reducible refine gate_store (t := 3) (p := 59) (v := .tmp 57) rfl ?_); refine hx_putm (w0 := w0) w0.heap.size rfl rfl 3 (.tmp 59) (.tmp 57) rfl 42 j (6) (b.set j (mkRow x kk (6))) (k6 : Int) (fun k_ => (P0_ k_ ∨ w.heap.size ≤ k_)) rfl (by first | rfl | omega) rfl (by kernel_rfl) (by omega) (by rw [List.length_set]; exact BL.out.symm) HO6.out (by rw [List.length_set]; exact BJ.out) HB6.out ?_; intro w7 ho_ hb_ hg_; have HO7 := Aside0.mk ho_; rw [mk_step BJ.out (by rw [XL.out]; omega) F6.out] at HO7; have HB7 := Aside0.mk hb_; have HK7 := Aside0.mk (Kept.of_grown (S := P0_) hg_ HK6.out (fun k_ e_ => by have h_ := HO6.out.1 k_ e_; exact h_)); clear ho_ hb_ hg_ HO6 HB6 HK6) | ((with_reducible refine gate_dst (N := 61) rfl ?_); refine hx_addn rfl 3 (.tmp 60) _ rfl k6 1 rfl rfl (by have := F6.out; have := KK.out; omega) ?_; intro k7 e_; have F7 := Aside0.mk (show k7 = kk + (7) by have := e_.out; have := F6.out; omega); clear e_) | ((with_reducible refine gate_store (t := 3) (p := 66) (v := .tmp 64) rfl ?_); refine hx_putm (w0 := w0) w0.heap.size rfl rfl 3 (.tmp 66) (.tmp 64) rfl 42 j (7) (b.set j (mkRow x kk (7))) (k7 : Int) (fun k_ => (P0_ k_ ∨ w.heap.size ≤ k_)) rfl (by first | rfl | omega) rfl (by kernel_rfl) (by omega) (by rw [List.length_set]; exact BL.out.symm) HO7.out (by rw [List.length_set]; exact BJ.out) HB7.out ?_; intro w8 ho_ hb_ hg_; have HO8 := Aside0.mk ho_; rw [mk_step BJ.out (by rw [XL.out]; omega) F7.out] at HO8; have HB8 := Aside0.mk hb_; have HK8 := Aside0.mk (Kept.of_grown (S := P0_) hg_ HK7.out (fun k_ e_ => by have h_ := HO7.out.1 k_ e_; exact h_)); clear ho_ hb_ hg_ HO7 HB7 HK7) | ((with_reducible refine gate_dst (N := 68) rfl ?_); refine hx_addn rfl 3 (.tmp 67) _ rfl k7 1 rfl rfl (by have := F7.out; have := KK.out; omega) ?_; intro k8 e_; have F8 := Aside0.mk (show k8 = kk + (8) by have := e_.out; have := F7.out; omega); clear e_) | ((with_reducible refine gate_store (t := 3) (p := 73) (v := .tmp 71) rfl ?_); refine hx_putm (w0 := w0) w0.heap.size rfl rfl 3 (.tmp 73) (.tmp 71) rfl 42 j (8) (b.set j (mkRow x kk (8))) (k8 : Int) (fun k_ => (P0_ k_ ∨ w.heap.size ≤ k_)) rfl (by first | rfl | omega) rfl (by kernel_rfl) (by omega) (by rw [List.length_set]; exact BL.out.symm) HO8.out (by rw [List.length_set]; exact BJ.out) HB8.out ?_; intro w9 ho_ hb_ hg_; have HO9 := Aside0.mk ho_; rw [mk_step BJ.out (by rw [XL.out]; omega) F8.out] at HO9; have HB9 := Aside0.mk hb_; have HK9 := Aside0.mk (Kept.of_grown (S := P0_) hg_ HK8.out (fun k_ e_ => by have h_ := HO8.out.1 k_ e_; exact h_)); clear ho_ hb_ hg_ HO8 HB8 HK8) | ((with_reducible refine gate_dst (N := 75) rfl ?_); refine hx_addn rfl 3 (.tmp 74) _ rfl k8 1 rfl rfl (by have := F8.out; have := KK.out; omega) ?_; intro k9 e_; have F9 := Aside0.mk (show k9 = kk + (9) by have := e_.out; have := F8.out; omega); clear e_) | ((with_reducible refine gate_store (t := 3) (p := 81) (v := .tmp 78) rfl ?_); refine hx_putm (w0 := w0) w0.heap.size rfl rfl 3 (.tmp 81) (.tmp 78) rfl 42 j (9) (b.set j (mkRow x kk (9))) (k9 : Int) (fun k_ => (P0_ k_ ∨ w.heap.size ≤ k_)) rfl (by first | rfl | omega) rfl (by kernel_rfl) (by omega) (by rw [List.length_set]; exact BL.out.symm) HO9.out (by rw [List.length_set]; exact BJ.out) HB9.out ?_; intro w10 ho_ hb_ hg_; have HO10 := Aside0.mk ho_; rw [mk_step BJ.out (by rw [XL.out]; omega) F9.out] at HO10; have HB10 := Aside0.mk hb_; have HK10 := Aside0.mk (Kept.of_grown (S := P0_) hg_ HK9.out (fun k_ e_ => by have h_ := HO9.out.1 k_ e_; exact h_)); clear ho_ hb_ hg_ HO9 HB9 HK9) | ((with_reducible refine gate_dst (N := 83) rfl ?_); refine hx_addn rfl 3 (.tmp 82) _ rfl k9 1 rfl rfl (by have := F9.out; have := KK.out; omega) ?_; intro k10 e_; have F10 := Aside0.mk (show k10 = kk + (10) by have := e_.out; have := F9.out; omega); clear e_))
      (try simp only [Act.put, List.setIfInBounds_toArray, List.set_cons_succ, List.set_cons_zero])
      go_loopw [1, 6] (fun v1 v6 wq => ∃ (jj kq : Nat), v6 = .int .i64 (jj : Int) ∧ v1 = .int .i64 (kq : Int) ∧ Aside0 (jj ≤ 12) ∧ Aside0 (kq = kk + (10 + jj)) ∧ Aside0 ((PrintHx.wide 24).R 42 wq w0.heap.size (fun k_ => (P0_ k_ ∨ w.heap.size ≤ k_)) (.slice (some ⟨g, 0, none⟩) l0.length c0_) (b.set j (mkRow x kk (10 + jj)))) ∧ Aside0 (Below w0.heap.size w0 wq) ∧ Aside0 (Kept w wq P0_)) (fun _ v6 _ => 12 - (intOf v6).toNat)
      case atStart => exact ⟨0, k10, rfl, rfl, ⟨by omega⟩, F10, HO10, HB10, HK10⟩
      case round =>
        clear HO10 HB10 HK10 F10
        obtain ⟨jj, kq, rfl, rfl, hjj, Fq, HOq, HBq, HKq⟩ := hrel
        by_cases c85 : jj < 12
        · have c85b0 : decide ((jj : Int) < 12) = true := decide_eq_true (by omega)
          have c85b1 : decide (jj < 12) = true := decide_eq_true c85
          have q6 : (0 ≤ (jj : Int)) = True := eq_true (by omega)
          have q7 : ((jj : Int) < 12) = True := eq_true (by omega)
          have q8 : (jj < 12) = True := eq_true c85
          go_wp2_with (first | ((with_reducible refine gate_store (t := 3) (p := 95) (v := .tmp 91) rfl ?_); refine hx_putm (w0 := w0) w0.heap.size rfl rfl 3 (.tmp 95) (.tmp 91) rfl 42 j (10 + jj) (b.set j (mkRow x kk (10 + jj))) (kq : Int) (fun k_ => (P0_ k_ ∨ w.heap.size ≤ k_)) rfl (by first | rfl | omega) rfl (by kernel_rfl) (by omega) (by rw [List.length_set]; exact BL.out.symm) HOq.out (by rw [List.length_set]; exact BJ.out) HBq.out ?_; intro wqn ho_ hb_ hg_; have HOqn := Aside0.mk ho_; rw [mk_step BJ.out (by rw [XL.out]; omega) Fq.out] at HOqn; have HBqn := Aside0.mk hb_; have HKqn := Aside0.mk (Kept.of_grown (S := P0_) hg_ HKq.out (fun k_ e_ => by have h_ := HOq.out.1 k_ e_; exact h_)); clear ho_ hb_ hg_ HOq HBq HKq) | ((with_reducible refine gate_dst (N := 97) rfl ?_); refine hx_addn rfl 3 (.tmp 96) _ rfl kq 1 rfl rfl (by have := Fq.out; have := KK.out; omega) ?_; intro kqn e_; have Fqn := Aside0.mk (show kqn = kk + (10 + (jj + 1)) by have := e_.out; have := Fq.out; omega); clear e_))
          go_roundw
          case rel => exact ⟨jj + 1, kqn, by first | rw [show wrap64 ((jj : Int) + 1) = ((jj + 1 : Nat) : Int) by unfold wrap64; omega] | (simp; done), rfl, ⟨by omega⟩, Fqn, HOqn, HBqn, HKqn⟩
          case measure =>
            (try rw [show wrap64 ((jj : Int) + 1) = ((jj + 1 : Nat) : Int) by unfold wrap64; omega])
            simp only [intOf]
            omega
        · obtain rfl : jj = 12 := by have := hjj.out; omega
          have c85b0 : decide ((12 : Int) < 12) = false := by decide
          have HO22 := HOq
          have HB22 := HBq
          have HK22 := HKq
          have F22 := Fq
          obtain ⟨k22, hk22⟩ : ∃ k22, k22 = kq := ⟨_, rfl⟩
          rw [← hk22] at F22
          rw [← hk22]
          clear HOq HBq HKq Fq c85 hk22
          go_wp2_with (first | ((with_reducible refine gate_store (t := 3) (p := 103) (v := .tmp 100) rfl ?_); refine hx_putm (w0 := w0) w0.heap.size rfl rfl 3 (.tmp 103) (.tmp 100) rfl 42 j (22) (b.set j (mkRow x kk (22))) (k22 : Int) (fun k_ => (P0_ k_ ∨ w.heap.size ≤ k_)) rfl (by first | rfl | omega) rfl (by kernel_rfl) (by omega) (by rw [List.length_set]; exact BL.out.symm) HO22.out (by rw [List.length_set]; exact BJ.out) HB22.out ?_; intro w23 ho_ hb_ hg_; have HO23 := Aside0.mk ho_; rw [mk_step BJ.out (by rw [XL.out]; omega) F22.out] at HO23; have HB23 := Aside0.mk hb_; have HK23 := Aside0.mk (Kept.of_grown (S := P0_) hg_ HK22.out (fun k_ e_ => by have h_ := HO22.out.1 k_ e_; exact h_)); clear ho_ hb_ hg_ HO22 HB22 HK22) | ((with_reducible refine gate_dst (N := 105) rfl ?_); refine hx_addn rfl 3 (.tmp 104) _ rfl k22 1 rfl rfl (by have := F22.out; have := KK.out; omega) ?_; intro k23 e_; have F23 := Aside0.mk (show k23 = kk + (23) by have := e_.out; have := F22.out; omega); clear e_) | ((with_reducible refine gate_store (t := 3) (p := 111) (v := .tmp 108) rfl ?_); refine hx_putm (w0 := w0) w0.heap.size rfl rfl 3 (.tmp 111) (.tmp 108) rfl 42 j (23) (b.set j (mkRow x kk (23))) (k23 : Int) (fun k_ => (P0_ k_ ∨ w.heap.size ≤ k_)) rfl (by first | rfl | omega) rfl (by kernel_rfl) (by omega) (by rw [List.length_set]; exact BL.out.symm) HO23.out (by rw [List.length_set]; exact BJ.out) HB23.out ?_; intro w24 ho_ hb_ hg_; have HO24 := Aside0.mk ho_; rw [mk_step BJ.out (by rw [XL.out]; omega) F23.out] at HO24; have HB24 := Aside0.mk hb_; have HK24 := Aside0.mk (Kept.of_grown (S := P0_) hg_ HK23.out (fun k_ e_ => by have h_ := HO23.out.1 k_ e_; exact h_)); clear ho_ hb_ hg_ HO23 HB23 HK23) | ((with_reducible refine gate_dst (N := 113) rfl ?_); refine hx_addn rfl 3 (.tmp 112) _ rfl k23 1 rfl rfl (by have := F23.out; have := KK.out; omega) ?_; intro k24 e_; have F24 := Aside0.mk (show k24 = kk + (24) by have := e_.out; have := F23.out; omega); clear e_))
          go_roundw
          case rel =>
            refine ⟨j + 1, k24, _, rfl, by rw [show wrap64 ((j : Int) + 1) = ((j + 1 : Nat) : Int) by (have := HLEN.out; have := C9.out; unfold wrap64; omega)], rfl, ⟨by have := C9.out; omega⟩, ⟨by have := F24.out; have := HKK.out; omega⟩, ⟨?_⟩, HB24, HK24⟩
            have h_ := HO24.out
            rw [mkRow_full XL.out, BE.out, HKK.out, marks_next l0 1 j C9.out] at h_
            exact h_
          case measure =>
            rw [show wrap64 ((j : Int) + 1) = ((j + 1 : Nat) : Int) by (have := HLEN.out; have := C9.out; unfold wrap64; omega)]
            simp only [intOf, Int.toNat_natCast]
            have := C9.out
            omega
    · obtain rfl : j = l0.length := by have := hj.out; omega
      have c9b0 : decide ((l0.length : Int) < (l0.length : Int)) = false := decide_eq_false (by omega)
      have c9b1 : decide (l0.length < l0.length) = false := decide_eq_false c9
      clear c9
      go_wp2
      go_ret
      have h_ := HO.out
      rw [List.drop_eq_nil_of_le (Nat.le_refl _), List.append_nil] at h_
      refine ⟨by have h2_ := HKK.out; subst h2_; rfl, h_, HB.out, HK.out⟩

open Go.Proofs.YtkghgjehjchajaaW Go.Proofs.YtkghgjehjchajaaW.PrintHand Go.Proofs.YtkghgjehjchajaaW.PrintHx
/-! ### spec_l02Pointers: function 68 -/
def spec_l02Pointers.f (a0 : List Int) : Option (List Int) := if a0.length = 15 then some (seg a0 1 14) else none
set_option maxHeartbeats 8000000 in
set_option maxRecDepth 100000 in
theorem spec_l02Pointers.calls (a0 : List Int) (n0 : a0.length = 15) (r : List Int) (w : World) (h : spec_l02Pointers.f a0 = some r) :
    Calls Try.prog 68 #[.agg (nums .i64 a0).toArray] w fun e w' => ∃ v0_ : Value, e = .returned (v0_) ∧ Kd.R (Kd.int .i64) 3 w' w.heap.size (fun _ => True) v0_ r ∧ Below w.heap.size w w' := by
  unfold spec_l02Pointers.f at h
  rw [if_pos n0] at h
  obtain rfl := Option.some.inj h
  have N_ := Aside0.mk n0
  clear n0 h
  have info3_ : (Try.prog.info? 3).map (fun i => (i.zero, i.size, i.bytes)) = some (some (.int .i64 0), 1, 8) := by kernel_rfl
  have hu22 := Try.underlying22
  have HB0 : Aside0 (Below w.heap.size w w) := ⟨Below.refl _ _⟩
  obtain ⟨s0, Sz0⟩ : ∃ s0, Aside0 (w.heap.size = s0) := ⟨_, ⟨rfl⟩⟩
  have hw0 : w.heap.size ≤ s0 := Nat.le_of_eq Sz0.out
  have hw1 : s0 ≤ w.heap.size := Nat.le_of_eq Sz0.out.symm
  go_enter Try.func68, Try.ntmps68
  go_wp2_with (first | ((with_reducible refine gate_dst (N := 1) rfl ?_); refine hx_box rfl 1 rfl 28 (.tmp 0) rfl Sz0 (.agg (nums .i64 a0).toArray) (nums .i64 a0).toArray rfl rfl ?_; intro w1 s1 L1 Sz1 b1 g_; have H0 := Aside0.mk g_; have HB1 := Aside0.mk (below_then HB0.out HB0.out.size b1); clear g_ HB0 b1) | ((with_reducible refine gate_dst (N := 4) rfl ?_); refine Kd.R_lit (Kd.int .i64) (w0 := w) w.heap.size 3 rfl (N := 4) rfl (xs := ([] : List Int)) (inner := []) (ok := fun k => k ≠ s0) (okp := fun _ => False) ?hr (Reps.none _ _) (fun _ h_ => h_.elim) (by have := blk_lt H0.out; omega) HB1.out HB1.out.size (by simp) ?_; (case hr => first | (go_simp; done) | (go_simp; rfl)); intro v4 w2 ho hb hg_ hn_; have O4 := Aside0.mk ho; have HB2 := Aside0.mk hb; have H0_2 := Aside0.mk (blk_grown H0.out hg_ (by simp)); clear ho hb hg_ hn_ HB1 H0) | ((with_reducible refine gate_dst (N := 7) rfl ?_); refine Kd.R_append_rows (Kd.int .i64) (w0 := w) w.heap.size rfl (.tmp 4) (.tmp 6) 82 3 (.int .i64 0) 8 rfl Try.underlying82 info3_ rfl (by decide) (by omega) v4 [] (seg a0 1 12) (some ⟨s0, 1, none⟩) 12 12 (fun k => k ≠ s0) (fun _ => False) rfl rfl O4.out (part_reads H0_2.out 1 12 (le_len (n := 15) N_.out (by decide)) (by decide)) (fun _ _ h => h) (fun _ h => h.elim) (fun k hk => by have := blk_lt H0_2.out; omega) HB2.out HB2.out.size (by decide) ?_; intro v7 w3 ho hb hg_ hn_; have H0_3 := Aside0.mk (blk_grown H0_2.out hg_ (fun e_ => (O4.out.1 s0 e_.symm) rfl)); have O7 := Aside0.mk ho; have HB3 := Aside0.mk hb; clear ho hb hg_ hn_ HB2 H0_2 O4) | ((with_reducible refine gate_dst (N := 10) rfl ?_); refine hx_loadf rfl 3 (.tmp 9) rfl s0 13 rfl Try.underlying3 rfl H0_3.out (lt_len (n := 15) N_.out (by decide)) ?_) | ((with_reducible refine gate_dst (N := 12) rfl ?_); refine hx_loadf rfl 3 (.tmp 11) rfl s0 14 rfl Try.underlying3 rfl H0_3.out (lt_len (n := 15) N_.out (by decide)) ?_) | ((with_reducible refine gate_dst (N := 13) rfl ?_); refine Kd.R_lit (Kd.int .i64) (w0 := w) w.heap.size 3 rfl (N := 13) rfl (xs := ([a0.getD 13 0, a0.getD 14 0] : List Int)) (inner := (nums .i64 [a0.getD 13 0, a0.getD 14 0])) (ok := fun k => k ≠ s0) (okp := fun _ => False) ?hr (reps_ints _) (fun _ h_ => h_.elim) (by have := blk_lt H0_3.out; omega) HB3.out HB3.out.size (by simp) ?_; (case hr => first | (go_simp; done) | (go_simp; rfl)); intro v13 w4 ho hb hg_ hn_; have O13 := Aside0.mk ho; have HB4 := Aside0.mk hb; have O7_4 := Aside0.mk (Kd.R_grown O7.out hg_ (fun _ _ => by simp)); have H0_4 := Aside0.mk (blk_grown H0_3.out hg_ (by simp)); clear hb hg_ hn_ HB3 H0_3 O7; obtain ⟨A13, c13, rfl⟩ := Kd.R_slice ho; clear ho) | ((with_reducible refine gate_dst (N := 14) rfl ?_); refine Kd.R_append_rows (Kd.int .i64) (w0 := w) w.heap.size rfl (.tmp 8) (.tmp 13) 82 3 (.int .i64 0) 8 rfl Try.underlying82 info3_ rfl (by decide) (by omega) v7 ([] ++ seg a0 1 12) [a0.getD 13 0, a0.getD 14 0] _ _ _ (fun k => k ≠ s0) (fun _ => False) rfl rfl O7_4.out (Kd.R_reads' O13.out).2.2 (fun _ _ h => h) (fun _ h => h.elim) (fun k hk => by have := blk_lt H0_4.out; omega) HB4.out HB4.out.size (by rw [List.nil_append, part_len (n := 15) N_.out (by decide)]; show (12 + 2) * 8 ≤ 140737488355328; decide) ?_; intro v14 w5 ho hb hg_ hn_; have O14 := Aside0.mk ho; have HB5 := Aside0.mk hb; clear ho hb hg_ hn_ HB4 H0_4 O7_4 O13))
  go_ret
  have ho := O14.out
  rw [pointers_of a0 N_.out] at ho
  exact ⟨_, rfl, Kd.R_mono ho (fun _ _ => trivial), HB5.out⟩

end Go.Proofs.Ytkghgjehjchajaa.PFnExactDecodeTable
